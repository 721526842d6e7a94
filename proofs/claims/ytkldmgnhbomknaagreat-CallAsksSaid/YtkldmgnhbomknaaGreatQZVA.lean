/- Contracts of functions of the given program. Conditions: as each theorem says. -/
import Derived.Test.YtkldmgnhbomknaaGreatQZKGD
import Derived.Test.YtkldmgnhbomknaaGreatQZKGB
import Derived.Test.YtkldmgnhbomknaaGreatVmV
set_option linter.unusedVariables false
set_option linter.unusedSimpArgs false
namespace Go.Proofs.YtkldmgnhbomknaaGreat
open Go.Vm Go.Sort
attribute [local go_sem] eq_self decide_true decide_false AH.put_ne
attribute [local go_sem_proc] Nat.reduceBEq Nat.reduceAdd Nat.reduceSub Nat.reduceMul Nat.reduceEqDiff Nat.reduceLeDiff Nat.reduceLT Int.reduceLE Int.reduceLT Int.reduceToNat Int.reduceAdd Int.reduceEq Int.reduceNeg
attribute [local go_sem] List.drop_zero toNat_succ Nat.sub_zero Int.toNat_natCast Option.map_some Int.natCast_nonneg decide_eq_true_eq decide_eq_false_iff_not
/- flange/flangeref04.fits -/
abbrev k75_0 : MC :=
 .cond (.t 8) (.skip) (.exit 0)
abbrev k75_1 : MC :=
 .cond (.t 31) ((.seq (.reg [
 vl 2 (.mv (.c (.bool false)))] [2]) (.ret))) (.skip)
abbrev k75_2 : MC :=
 .reg [
 mv 9 3,
 vl 10 (.bin .add .num (.t 9) (.c (.int .i64 1))),
 mv 3 10] [1,3]
abbrev k75_3 : MC :=
 (.seq (.block 1 ((.seq (.reg [
 vl 11 (.faddr 5 (.t 1)),
 vl 12 (.load false 1 (.t 11)),
 mv 13 3,
 vl 14 (.iaddr 7 (.t 12) (.t 13)),
 vl 15 (.load true 7 (.t 14)),
 ⟨some 16,none,.call 75 [(.t 15)]⟩,
 vl 17 (.not (.t 16)),
 mv 18 17,
 ⟨some 19,(some (18,false)),.val (.faddr 0 (.t 1))⟩,
 ⟨some 20,(some (18,false)),.val (.load false 1 (.t 19))⟩,
 ⟨some 21,(some (18,false)),.val (.bin .eql .num (.t 20) (.c (.int .i64 7)))⟩,
 ⟨some 22,(some (18,false)),.val (.mv (.t 21))⟩,
 ⟨some 23,(some (22,true)),.val (.faddr 6 (.t 1))⟩,
 ⟨some 24,(some (22,true)),.val (.load false 1 (.t 23))⟩,
 ⟨some 25,(some (22,true)),.val (.mv (.t 3))⟩,
 ⟨some 26,(some (22,true)),.val (.iaddr 1 (.t 24) (.t 25))⟩,
 ⟨some 27,(some (22,true)),.val (.load false 1 (.t 26))⟩,
 ⟨some 28,(some (22,true)),.val (.len .str (.t 27))⟩,
 ⟨some 29,(some (22,true)),.val (.bin .gtr .num (.t 28) (.c (.int .i64 256)))⟩,
 ⟨some 30,(some (18,false)),.val (.pick (.t 22) (.t 29) (.c (.bool false)))⟩,
 vl 31 (.pick (.t 18) (.c (.bool true)) (.t 30))] [1,3,31]) k75_1))) k75_2)
abbrev k75_4 : MC :=
 (.seq ((.seq (.reg [
 mv 4 3,
 vl 5 (.faddr 5 (.t 1)),
 vl 6 (.load false 1 (.t 5)),
 vl 7 (.len .sl (.t 6)),
 vl 8 (.bin .lss .num (.t 4) (.t 7))] [1,3,8]) k75_0)) k75_3)
abbrev k75_5 : MC :=
 .block 0 (.loop k75_4)
abbrev k75_6 : MC :=
 (.seq (.reg [
 vl 32 (.faddr 4 (.t 1)),
 vl 33 (.load false 1 (.t 32)),
 vl 34 (.len .str (.t 33)),
 vl 35 (.bin .leq .num (.t 34) (.c (.int .i64 256))),
 mv 36 35,
 ⟨some 37,(some (36,true)),.val (.faddr 5 (.t 1))⟩,
 ⟨some 38,(some (36,true)),.val (.load false 1 (.t 37))⟩,
 ⟨some 39,(some (36,true)),.val (.len .sl (.t 38))⟩,
 ⟨some 40,(some (36,true)),.val (.bin .leq .num (.t 39) (.c (.int .i64 64)))⟩,
 vl 41 (.pick (.t 36) (.t 40) (.c (.bool false))),
 mv 2 41] [2]) (.ret))
abbrev k75_7 : MC :=
 (.seq ((.seq (.reg [
 vl 3 (.mv (.c (.int .i64 0)))] [1,3]) k75_5)) k75_6)
abbrev k75 : MC :=
 (.seq (.reg [
 ⟨some 1,none,.boxi (.t 0)⟩,
 vl 2 (.mv (.c (.bool false)))] [1]) k75_7)
theorem c75 : Tryz.f75.body.bind (mcOf Tryz.prog (List.contains [1] ·) (List.getD [([],[1]),([],[1,3]),([],[1,3,8]),([],[1,3]),([],[1,3,31]),([],[2]),([],[2])] · ([],[])) 42) = some k75 := by kernel_rfl
theorem r75 : rvsOf Tryz.prog Tryz.f75.results.toList = some [.tmp 2] := by kernel_rfl
/- flange/flangeref04.Right -/
abbrev k56_0 : MC :=
 (.seq (.reg [
 vl 3 (.load true 7 (.t 1)),
 ⟨some 4,none,.call 13 [(.t 3)]⟩,
 vl 5 (.bin .leq .num (.t 4) (.c (.int .i64 8))),
 mv 6 5,
 ⟨some 7,(some (6,true)),.val (.load true 7 (.t 1))⟩,
 ⟨some 8,(some (6,true)),.call 75 [(.t 7)]⟩,
 vl 9 (.pick (.t 6) (.t 8) (.c (.bool false))),
 mv 2 9] [2]) (.ret))
abbrev k56 : MC :=
 (.seq (.reg [
 ⟨some 1,none,.boxi (.t 0)⟩,
 vl 2 (.mv (.c (.bool false)))] [1]) k56_0)
theorem c56 : Tryz.f56.body.bind (mcOf Tryz.prog (List.contains [1] ·) (List.getD [([],[1]),([],[2])] · ([],[])) 10) = some k56 := by kernel_rfl
theorem r56 : rvsOf Tryz.prog Tryz.f56.results.toList = some [.tmp 2] := by kernel_rfl
theorem rfits_calls : ∀ (m : Rv) (v : Vl),Sm v m → m.Fit → ∀ (H : AH),ACalls Tryz.prog 75 [.agg [.int .i64 m.K,.bool m.B,.int .i64 m.N,.int .i64 m.M,.str m.S,.sl 7 (rvE m.L) .no,.sl 1 (strE m.Keys) .no]] H (fun o H' => o = .ret (.bool (allM fitsQ m)) ∧ H' = H) := by
  refine Rv.ind fun m ih v hs hf H => ?_
  refine ACalls.drop ?_
  have hb := hf.l
  cases hs with
  | mk _ _ hK hB hS hl hk hN hP hi =>
  have hnk : m.K ≠ 7 → m.Keys = [] := fun h => by
    rw [← hk]; cases v <;> first | rfl | exact absurd hK.symm h
  have h7l : m.K = 7 → m.Keys.length = m.L.length := fun h => by rw [← hk,← items_keys (by omega),hl]
  refine acalls Tryz.func75 c75 r75 (by simp [Tryz.ntmps75]) ?_
  repeat' (first|with_reducible refine go0 ?_|(with_reducible refine am_cnd ?_ ?_<;>intro hc<;>try (exfalso;omega))|((first|with_reducible (first|refine go1 ?_|refine vc_intro ?_|refine need_el ?_|refine vlen_a ?_|refine need_by ?_|refine need_lk ?_)|((with_reducible (first|apply gd_not|apply gd_of|apply gq_not|apply gq_of|apply pickB_of))<;>intro hc<;>(try simp -implicitDefEqProofs (disch:=omega) only [go_sem,hc])<;>(try simp only [reduceCtorEq,bD,beq_iff_eq] at hc)<;>(try (exfalso;omega)))|((with_reducible refine alloc_intro (fun ko hko=>?_))<;>(try have hne:=fresh_ne (by assumption) hko)<;>(try have hnk:=fresh_ne hk hko)<;>(try simp only [AH.put_none] at hko))|done)<;>(try simp -implicitDefEqProofs (disch:=omega) only [go_sem])))
  refine am_loop (fun n a H' => ∃ i : Nat,i + n = m.L.length ∧ a = [(1,.rptr [.int .i64 m.K,.bool m.B,.int .i64 m.N,.int .i64 m.M,.str m.S,.sl 7 (rvE m.L) .no,.sl 1 (strE m.Keys) .no] 0),(3,.int .i64 i)] ∧ H' = H ∧ (m.L.take i).all (allM fitsQ) = true ∧ (m.Keys.take i).all shortB = true) ?_ m.L.length ⟨0,by omega,rfl,rfl,by simp,by simp⟩
  rintro n a H' ⟨i,hin,rfl,rfl,hall,hks⟩
  by_cases hlt : i < m.L.length
  · have hlt1 : i < v.items.length := by omega
    have hc1 := ih m.L[i] (List.getElem_mem hlt) v.items[i] (hi i hlt1 hlt) (hf.m _ (List.getElem_mem hlt))
    cases hq : allM fitsQ m.L[i] with
    | false =>
      rw [hq] at hc1
      repeat' (first|with_reducible refine go0 ?_|(with_reducible refine am_cnd ?_ ?_<;>intro hc<;>try (exfalso;omega))|((first|with_reducible (first|refine go1 ?_|refine vc_intro ?_|refine need_el ?_|refine vlen_a ?_|refine need_by ?_|refine call_of (hc1) ?_|refine qcall_of (hc1) ?_|refine need_lk ?_)|((with_reducible (first|apply gd_not|apply gd_of|apply gq_not|apply gq_of|apply pickB_of))<;>intro hc<;>(try simp -implicitDefEqProofs (disch:=omega) only [go_sem,hc,wrap_id,rvE_length,rvE_get hlt,Bool.not_false])<;>(try simp only [reduceCtorEq,bD,beq_iff_eq] at hc)<;>(try (exfalso;omega)))|((with_reducible refine alloc_intro (fun ko hko=>?_))<;>(try have hne:=fresh_ne (by assumption) hko)<;>(try have hnk:=fresh_ne hk hko)<;>(try simp only [AH.put_none] at hko))|done)<;>(try simp -implicitDefEqProofs (disch:=omega) only [go_sem,wrap_id,rvE_length,rvE_get hlt,Bool.not_false])))
      all_goals (have e : allM fitsQ m = false := by { rw [allM_eq,all_bad hlt hq,Bool.and_false] }; rw [e]; (refine drop_end (by (first | exact fun _ _ h => h | (intro s x h; first | exact no_sub _ h | exact nil_no _ h | exact AccP.sub (by assumption) _ _ h | (refine agg_sub rfl ?_ x h; repeat (first | exact .nil | refine .cons (fun _ h => h) ?_ | refine .cons (fun _ h => nil_no _ h) ?_ | refine .cons (fun _ h => no_sub _ h) ?_ | refine .cons (fun _ h => AccP.sub (by assumption) _ _ h) ?_)) | (refine tuple_sub ?_ x h; repeat (first | exact .nil | refine .cons (fun _ h => h) ?_ | refine .cons (fun _ h => nil_no _ h) ?_ | refine .cons (fun _ h => no_sub _ h) ?_ | refine .cons (fun _ h => AccP.sub (by assumption) _ _ h) ?_ | refine .cons (fun _ h => agg_sub rfl (by repeat (first | exact .nil | refine .cons (fun _ h => h) ?_ | refine .cons (fun _ h => nil_no _ h) ?_ | refine .cons (fun _ h => no_sub _ h) ?_ | refine .cons (fun _ h => AccP.sub (by assumption) _ _ h) ?_)) _ h) ?_))))) (by (repeat (first | exact AH.le_refl _ | assumption | exact AccP.le (by assumption) | refine AH.le_put ?_ (by first | assumption | exact none_of_le (by assumption) (by assumption) | exact And.right (by assumption) | exact And.right (And.right (by assumption))) _ | refine AH.le_trans ?_ (AccP.le (by assumption)))))))
    | true =>
      rw [hq] at hc1
      by_cases h7 : m.K = 7
      · have hlk : i < m.Keys.length := by rw [h7l h7]; exact hlt
        by_cases hsh : m.Keys[i].length ≤ 256
        · have hsh' : ¬ (256 : Int) < m.Keys[i].length := by omega
          repeat' (first|with_reducible refine go0 ?_|(with_reducible refine am_cnd ?_ ?_<;>intro hc<;>try (exfalso;omega))|((first|with_reducible (first|refine go1 ?_|refine vc_intro ?_|refine need_el ?_|refine vlen_a ?_|refine need_by ?_|refine call_of (hc1) ?_|refine qcall_of (hc1) ?_|refine need_lk ?_)|((with_reducible (first|apply gd_not|apply gd_of|apply gq_not|apply gq_of|apply pickB_of))<;>intro hc<;>(try simp -implicitDefEqProofs (disch:=omega) only [go_sem,hc,wrap_id,rvE_length,strE_len,rvE_get hlt,strE_get hlk,h7,hsh',Bool.not_true])<;>(try simp only [reduceCtorEq,bD,beq_iff_eq] at hc)<;>(try (exfalso;omega)))|((with_reducible refine alloc_intro (fun ko hko=>?_))<;>(try have hne:=fresh_ne (by assumption) hko)<;>(try have hnk:=fresh_ne hk hko)<;>(try simp only [AH.put_none] at hko))|done)<;>(try simp -implicitDefEqProofs (disch:=omega) only [go_sem,wrap_id,rvE_length,strE_len,rvE_get hlt,strE_get hlk,h7,hsh',Bool.not_true])))
          all_goals exact ⟨n - 1,by omega,i + 1,by omega,rfl,by rw [all_take hlt,hall,hq]; rfl,by rw [all_take hlk,hks]; exact decide_eq_true hsh⟩
        · have hsh' : (256 : Int) < m.Keys[i].length := by omega
          repeat' (first|with_reducible refine go0 ?_|(with_reducible refine am_cnd ?_ ?_<;>intro hc<;>try (exfalso;omega))|((first|with_reducible (first|refine go1 ?_|refine vc_intro ?_|refine need_el ?_|refine vlen_a ?_|refine need_by ?_|refine call_of (hc1) ?_|refine qcall_of (hc1) ?_|refine need_lk ?_)|((with_reducible (first|apply gd_not|apply gd_of|apply gq_not|apply gq_of|apply pickB_of))<;>intro hc<;>(try simp -implicitDefEqProofs (disch:=omega) only [go_sem,hc,wrap_id,rvE_length,strE_len,rvE_get hlt,strE_get hlk,h7,hsh',Bool.not_true])<;>(try simp only [reduceCtorEq,bD,beq_iff_eq] at hc)<;>(try (exfalso;omega)))|((with_reducible refine alloc_intro (fun ko hko=>?_))<;>(try have hne:=fresh_ne (by assumption) hko)<;>(try have hnk:=fresh_ne hk hko)<;>(try simp only [AH.put_none] at hko))|done)<;>(try simp -implicitDefEqProofs (disch:=omega) only [go_sem,wrap_id,rvE_length,strE_len,rvE_get hlt,strE_get hlk,h7,hsh',Bool.not_true])))
          all_goals (have e : allM fitsQ m = false := by { rw [allM_eq,fitsQ,all_bad hlk (decide_eq_false hsh),Bool.and_false,Bool.false_and,Bool.false_and] }; rw [e]; (refine drop_end (by (first | exact fun _ _ h => h | (intro s x h; first | exact no_sub _ h | exact nil_no _ h | exact AccP.sub (by assumption) _ _ h | (refine agg_sub rfl ?_ x h; repeat (first | exact .nil | refine .cons (fun _ h => h) ?_ | refine .cons (fun _ h => nil_no _ h) ?_ | refine .cons (fun _ h => no_sub _ h) ?_ | refine .cons (fun _ h => AccP.sub (by assumption) _ _ h) ?_)) | (refine tuple_sub ?_ x h; repeat (first | exact .nil | refine .cons (fun _ h => h) ?_ | refine .cons (fun _ h => nil_no _ h) ?_ | refine .cons (fun _ h => no_sub _ h) ?_ | refine .cons (fun _ h => AccP.sub (by assumption) _ _ h) ?_ | refine .cons (fun _ h => agg_sub rfl (by repeat (first | exact .nil | refine .cons (fun _ h => h) ?_ | refine .cons (fun _ h => nil_no _ h) ?_ | refine .cons (fun _ h => no_sub _ h) ?_ | refine .cons (fun _ h => AccP.sub (by assumption) _ _ h) ?_)) _ h) ?_))))) (by (repeat (first | exact AH.le_refl _ | assumption | exact AccP.le (by assumption) | refine AH.le_put ?_ (by first | assumption | exact none_of_le (by assumption) (by assumption) | exact And.right (by assumption) | exact And.right (And.right (by assumption))) _ | refine AH.le_trans ?_ (AccP.le (by assumption)))))))
      · repeat' (first|with_reducible refine go0 ?_|(with_reducible refine am_cnd ?_ ?_<;>intro hc<;>try (exfalso;omega))|((first|with_reducible (first|refine go1 ?_|refine vc_intro ?_|refine need_el ?_|refine vlen_a ?_|refine need_by ?_|refine call_of (hc1) ?_|refine qcall_of (hc1) ?_|refine need_lk ?_)|((with_reducible (first|apply gd_not|apply gd_of|apply gq_not|apply gq_of|apply pickB_of))<;>intro hc<;>(try simp -implicitDefEqProofs (disch:=omega) only [go_sem,hc,wrap_id,rvE_length,rvE_get hlt,h7,Bool.not_true])<;>(try simp only [reduceCtorEq,bD,beq_iff_eq] at hc)<;>(try (exfalso;omega)))|((with_reducible refine alloc_intro (fun ko hko=>?_))<;>(try have hne:=fresh_ne (by assumption) hko)<;>(try have hnk:=fresh_ne hk hko)<;>(try simp only [AH.put_none] at hko))|done)<;>(try simp -implicitDefEqProofs (disch:=omega) only [go_sem,wrap_id,rvE_length,rvE_get hlt,h7,Bool.not_true])))
        all_goals exact ⟨n - 1,by omega,i + 1,by omega,rfl,by rw [all_take hlt,hall,hq]; rfl,by rw [hnk h7]; rfl⟩
  · have hks2 : m.Keys.all shortB = true := by
      by_cases h7 : m.K = 7
      · rw [List.take_of_length_le (by rw [h7l h7]; omega)] at hks; exact hks
      · rw [hnk h7]; rfl
    rw [List.take_of_length_le (by omega)] at hall
    have e : allM fitsQ m = (decide (m.S.length ≤ 256) && decide (m.L.length ≤ 64)) := by rw [allM_eq,hall,fitsQ,hks2,Bool.and_true,Bool.and_true]; rfl
    rw [e]
    repeat' (first|with_reducible refine go0 ?_|(with_reducible refine am_cnd ?_ ?_<;>intro hc<;>try (exfalso;omega))|((first|with_reducible (first|refine go1 ?_|refine vc_intro ?_|refine need_el ?_|refine vlen_a ?_|refine need_by ?_|refine need_lk ?_)|((with_reducible (first|apply gd_not|apply gd_of|apply gq_not|apply gq_of|apply pickB_of))<;>intro hc<;>(try simp -implicitDefEqProofs (disch:=omega) only [go_sem,hc,rvE_length])<;>(try simp only [reduceCtorEq,bD,beq_iff_eq] at hc)<;>(try (exfalso;omega)))|((with_reducible refine alloc_intro (fun ko hko=>?_))<;>(try have hne:=fresh_ne (by assumption) hko)<;>(try have hnk:=fresh_ne hk hko)<;>(try simp only [AH.put_none] at hko))|done)<;>(try simp -implicitDefEqProofs (disch:=omega) only [go_sem,rvE_length])))
    all_goals refine end_eq (congrArg V.bool ?_) (AH.le_refl _)
    · rw [Bool.eq_iff_iff]; simp only [Bool.and_eq_true,decide_eq_true_eq]; omega
    · rw [decide_eq_false (by omega),Bool.false_and]
theorem rright_calls {m : Rv} {v : Vl} (hs : Sm v m) (hf : m.Fit) (H : AH) : ACalls Tryz.prog 56 [.agg [.int .i64 m.K,.bool m.B,.int .i64 m.N,.int .i64 m.M,.str m.S,.sl 7 (rvE m.L) .no,.sl 1 (strE m.Keys) .no]] H (fun o H' => o = .ret (.bool (rightM m)) ∧ H' = H) := by
  refine ACalls.drop ?_
  have h1 := rdeep_calls m hf
  have h2 := rfits_calls m v hs hf
  refine acalls Tryz.func56 c56 r56 (by simp [Tryz.ntmps56]) ?_
  by_cases hd : deepI m ≤ 8
  · repeat' (first|with_reducible refine go0 ?_|(with_reducible refine am_cnd ?_ ?_<;>intro hc<;>try (exfalso;omega))|((first|with_reducible (first|refine go1 ?_|refine vc_intro ?_|refine need_el ?_|refine vlen_a ?_|refine need_by ?_|refine call_of (h1) ?_|refine qcall_of (h1) ?_|refine call_of (h2) ?_|refine qcall_of (h2) ?_|refine need_lk ?_)|((with_reducible (first|apply gd_not|apply gd_of|apply gq_not|apply gq_of|apply pickB_of))<;>intro hc<;>(try simp -implicitDefEqProofs (disch:=omega) only [go_sem,hc,hd])<;>(try simp only [reduceCtorEq,bD,beq_iff_eq] at hc)<;>(try (exfalso;omega)))|((with_reducible refine alloc_intro (fun ko hko=>?_))<;>(try have hne:=fresh_ne (by assumption) hko)<;>(try simp only [AH.put_none] at hko))|done)<;>(try simp -implicitDefEqProofs (disch:=omega) only [go_sem,hd])))
    all_goals (rw [rightM,decide_eq_true hd,Bool.true_and]; (refine drop_end (by (first | exact fun _ _ h => h | (intro s x h; first | exact no_sub _ h | exact nil_no _ h | exact AccP.sub (by assumption) _ _ h | (refine agg_sub rfl ?_ x h; repeat (first | exact .nil | refine .cons (fun _ h => h) ?_ | refine .cons (fun _ h => nil_no _ h) ?_ | refine .cons (fun _ h => no_sub _ h) ?_ | refine .cons (fun _ h => AccP.sub (by assumption) _ _ h) ?_)) | (refine tuple_sub ?_ x h; repeat (first | exact .nil | refine .cons (fun _ h => h) ?_ | refine .cons (fun _ h => nil_no _ h) ?_ | refine .cons (fun _ h => no_sub _ h) ?_ | refine .cons (fun _ h => AccP.sub (by assumption) _ _ h) ?_ | refine .cons (fun _ h => agg_sub rfl (by repeat (first | exact .nil | refine .cons (fun _ h => h) ?_ | refine .cons (fun _ h => nil_no _ h) ?_ | refine .cons (fun _ h => no_sub _ h) ?_ | refine .cons (fun _ h => AccP.sub (by assumption) _ _ h) ?_)) _ h) ?_))))) (by (repeat (first | exact AH.le_refl _ | assumption | exact AccP.le (by assumption) | refine AH.le_put ?_ (by first | assumption | exact none_of_le (by assumption) (by assumption) | exact And.right (by assumption) | exact And.right (And.right (by assumption))) _ | refine AH.le_trans ?_ (AccP.le (by assumption)))))))
  · repeat' (first|with_reducible refine go0 ?_|(with_reducible refine am_cnd ?_ ?_<;>intro hc<;>try (exfalso;omega))|((first|with_reducible (first|refine go1 ?_|refine vc_intro ?_|refine need_el ?_|refine vlen_a ?_|refine need_by ?_|refine call_of (h1) ?_|refine qcall_of (h1) ?_|refine call_of (h2) ?_|refine qcall_of (h2) ?_|refine need_lk ?_)|((with_reducible (first|apply gd_not|apply gd_of|apply gq_not|apply gq_of|apply pickB_of))<;>intro hc<;>(try simp -implicitDefEqProofs (disch:=omega) only [go_sem,hc,hd])<;>(try simp only [reduceCtorEq,bD,beq_iff_eq] at hc)<;>(try (exfalso;omega)))|((with_reducible refine alloc_intro (fun ko hko=>?_))<;>(try have hne:=fresh_ne (by assumption) hko)<;>(try simp only [AH.put_none] at hko))|done)<;>(try simp -implicitDefEqProofs (disch:=omega) only [go_sem,hd])))
    all_goals (rw [rightM,decide_eq_false hd,Bool.false_and]; (refine drop_end (by (first | exact fun _ _ h => h | (intro s x h; first | exact no_sub _ h | exact nil_no _ h | exact AccP.sub (by assumption) _ _ h | (refine agg_sub rfl ?_ x h; repeat (first | exact .nil | refine .cons (fun _ h => h) ?_ | refine .cons (fun _ h => nil_no _ h) ?_ | refine .cons (fun _ h => no_sub _ h) ?_ | refine .cons (fun _ h => AccP.sub (by assumption) _ _ h) ?_)) | (refine tuple_sub ?_ x h; repeat (first | exact .nil | refine .cons (fun _ h => h) ?_ | refine .cons (fun _ h => nil_no _ h) ?_ | refine .cons (fun _ h => no_sub _ h) ?_ | refine .cons (fun _ h => AccP.sub (by assumption) _ _ h) ?_ | refine .cons (fun _ h => agg_sub rfl (by repeat (first | exact .nil | refine .cons (fun _ h => h) ?_ | refine .cons (fun _ h => nil_no _ h) ?_ | refine .cons (fun _ h => no_sub _ h) ?_ | refine .cons (fun _ h => AccP.sub (by assumption) _ _ h) ?_)) _ h) ?_))))) (by (repeat (first | exact AH.le_refl _ | assumption | exact AccP.le (by assumption) | refine AH.le_put ?_ (by first | assumption | exact none_of_le (by assumption) (by assumption) | exact And.right (by assumption) | exact And.right (And.right (by assumption))) _ | refine AH.le_trans ?_ (AccP.le (by assumption)))))))
end Go.Proofs.YtkldmgnhbomknaaGreat
namespace Go.Proofs.YtkldmgnhbomknaaGreat
open Go.Vm Go.Sort
attribute [local go_sem] eq_self decide_true decide_false AH.put_ne
attribute [local go_sem_proc] Nat.reduceBEq Nat.reduceAdd Nat.reduceSub Nat.reduceMul Nat.reduceEqDiff Nat.reduceLeDiff Nat.reduceLT Int.reduceLE Int.reduceLT Int.reduceToNat Int.reduceAdd Int.reduceEq Int.reduceNeg
attribute [local go_sem] List.drop_zero toNat_succ Nat.sub_zero Int.toNat_natCast Option.map_some Int.natCast_nonneg decide_eq_true_eq decide_eq_false_iff_not
/- (flange/value.Value).At -/
abbrev k39_0 : MC :=
 (.seq (.reg [
 vl 22 (.load true 1 (.t 8)),
 mv 23 9,
 ⟨none,none,.store 1 (.t 4) (.t 22)⟩,
 mv 5 23] [4,5]) (.ret))
abbrev k39_1 : MC :=
 (.seq (.reg [
 mv 17 6,
 mv 18 1,
 vl 19 (.yo (.look .str (.agg [.nilIface]) true) [(.t 17),(.t 18)]),
 mv 16 19,
 vl 20 (.ext (.t 16) 0),
 vl 21 (.ext (.t 16) 1),
 ⟨some 8,none,.zalloc [.nilIface]⟩,
 ⟨none,none,.store 1 (.t 8) (.t 20)⟩,
 mv 9 21] [4,8,9]) k39_0)
abbrev k39_2 : MC :=
 (.seq (.reg [
 vl 11 (.faddr 0 (.t 2)),
 vl 12 (.load false 1 (.t 11)),
 vl 13 (.tya 123 true .nilMap (.t 12)),
 mv 10 13,
 vl 14 (.ext (.t 10) 0),
 vl 15 (.ext (.t 10) 1),
 mv 6 14,
 mv 7 15] [1,4,6]) k39_1)
abbrev k39 : MC :=
 (.seq (.reg [
 ⟨some 2,none,.boxi (.t 0)⟩,
 ⟨some 4,none,.zalloc [.nilIface]⟩,
 vl 5 (.mv (.c (.bool false)))] [1,2,4]) k39_2)
theorem c39 : Tryz.f39.body.bind (mcOf Tryz.prog (List.contains [2] ·) (List.getD [([],[1,2,4]),([],[1,4,6]),([],[4,8,9]),([],[4,5])] · ([],[])) 24) = some k39 := by kernel_rfl
theorem r39 : rvsOf Tryz.prog Tryz.f39.results.toList = some [.cell 4 true 1,.tmp 5] := by kernel_rfl
/- flange/flangelaw04.Unlike -/
abbrev k11_0 : MC :=
 .cond (.t 110) ((.seq (.reg [
 vl 4 (.mv (.c (.int .i64 1)))] [4]) (.ret))) (.skip)
abbrev k11_1 : MC :=
 .cond (.t 136) ((.seq (.reg [
 vl 4 (.mv (.c (.int .i64 1)))] [4]) (.ret))) (.skip)
abbrev k11_2 : MC :=
 .cond (.t 140) (.skip) (.exit 0)
abbrev k11_3 : MC :=
 .cond (.t 179) (.reg [
 mv 180 16,
 vl 181 (.bin .add .num (.t 180) (.c (.int .i64 1))),
 mv 16 181] [2,3,14,15,16,17]) (.skip)
abbrev k11_4 : MC :=
 (.seq (.drw [
 mv 156 15,
 mv 157 17,
 vl 158 (.iaddr 1 (.t 156) (.t 157)),
 vl 159 (.load false 1 (.t 158)),
 vl 160 (.faddr 6 (.t 3)),
 vl 161 (.load false 1 (.t 160)),
 mv 162 17,
 vl 163 (.iaddr 1 (.t 161) (.t 162)),
 vl 164 (.load false 1 (.t 163)),
 vl 165 (.bin .neq .num (.t 159) (.t 164)),
 mv 166 165,
 ⟨some 167,(some (166,false)),.val (.mv (.t 19))⟩,
 ⟨some 168,(some (166,false)),.val (.not (.t 167))⟩,
 vl 169 (.pick (.t 166) (.c (.bool true)) (.t 168)),
 mv 170 169,
 ⟨some 171,(some (170,false)),.val (.load true 1 (.t 18))⟩,
 ⟨some 172,(some (170,false)),.val (.faddr 5 (.t 3))⟩,
 ⟨some 173,(some (170,false)),.val (.load false 1 (.t 172))⟩,
 ⟨some 174,(some (170,false)),.val (.mv (.t 17))⟩,
 ⟨some 175,(some (170,false)),.val (.iaddr 7 (.t 173) (.t 174))⟩,
 ⟨some 176,(some (170,false)),.val (.load true 7 (.t 175))⟩,
 ⟨some 177,(some (170,false)),.call 11 [(.t 171),(.t 176)]⟩,
 ⟨some 178,(some (170,false)),.val (.bin .gtr .num (.t 177) (.c (.int .i64 0)))⟩,
 vl 179 (.pick (.t 170) (.c (.bool true)) (.t 178))] [] [2,3,14,15,16,17,179]) k11_3)
abbrev k11_5 : MC :=
 .cond (.t 145) ((.seq (.drw [
 vl 147 (.load true 1 (.t 2)),
 vl 148 (.faddr 6 (.t 3)),
 vl 149 (.load false 1 (.t 148)),
 mv 150 17,
 vl 151 (.iaddr 1 (.t 149) (.t 150)),
 vl 152 (.load false 1 (.t 151)),
 ⟨some 153,none,.call 39 [(.t 147),(.t 152)]⟩,
 mv 146 153,
 vl 154 (.ext (.t 146) 0),
 vl 155 (.ext (.t 146) 1),
 mv 19 155] [
 ⟨some 18,none,.zalloc [.nilIface]⟩,
 ⟨none,none,.store 1 (.t 18) (.t 154)⟩] [2,3,14,15,16,17,18,19]) k11_4)) (.skip)
abbrev k11_6 : MC :=
 .drw [
 mv 182 16,
 mv 183 14,
 mv 184 17,
 vl 185 (.iaddr 1 (.t 183) (.t 184)),
 vl 186 (.load true 1 (.t 185)),
 vl 187 (.faddr 5 (.t 3)),
 vl 188 (.load false 1 (.t 187)),
 mv 189 17,
 vl 190 (.iaddr 7 (.t 188) (.t 189)),
 vl 191 (.load true 7 (.t 190)),
 ⟨some 192,none,.call 11 [(.t 186),(.t 191)]⟩,
 vl 193 (.bin .add .num (.t 182) (.t 192)),
 mv 16 193] [] [2,3,14,15,16,17]
abbrev k11_7 : MC :=
 .reg [
 mv 141 17,
 vl 142 (.bin .add .num (.t 141) (.c (.int .i64 1))),
 mv 17 142] [2,3,14,15,16,17]
abbrev k11_8 : MC :=
 (.seq (.block 1 ((.seq ((.seq (.reg [
 vl 143 (.faddr 0 (.t 3)),
 vl 144 (.load false 1 (.t 143)),
 vl 145 (.bin .eql .num (.t 144) (.c (.int .i64 7)))] [2,3,14,15,16,17,145]) k11_5)) k11_6))) k11_7)
abbrev k11_9 : MC :=
 (.seq ((.seq (.reg [
 mv 137 17,
 mv 138 14,
 vl 139 (.len .sl (.t 138)),
 vl 140 (.bin .lss .num (.t 137) (.t 139))] [2,3,14,15,16,17,140]) k11_2)) k11_8)
abbrev k11_10 : MC :=
 .block 0 (.loop k11_9)
abbrev k11_11 : MC :=
 (.seq (.reg [
 mv 194 16,
 mv 4 194] [4]) (.ret))
abbrev k11_12 : MC :=
 (.seq ((.seq (.reg [
 vl 17 (.mv (.c (.int .i64 0)))] [2,3,14,15,16,17]) k11_10)) k11_11)
abbrev k11_13 : MC :=
 (.seq (.reg [
 vl 16 (.mv (.c (.int .i64 0)))] [2,3,14,15,16]) k11_12)
abbrev k11_14 : MC :=
 (.seq ((.seq (.reg [
 vl 111 (.faddr 0 (.t 3)),
 vl 112 (.load false 1 (.t 111)),
 vl 113 (.bin .eql .num (.t 112) (.c (.int .i64 3))),
 mv 114 113,
 ⟨some 115,(some (114,true)),.val (.mv (.t 7))⟩,
 ⟨some 116,(some (114,true)),.val (.faddr 2 (.t 3))⟩,
 ⟨some 117,(some (114,true)),.val (.load false 1 (.t 116))⟩,
 ⟨some 118,(some (114,true)),.val (.bin .neq .num (.t 115) (.t 117))⟩,
 vl 119 (.pick (.t 114) (.t 118) (.c (.bool false))),
 mv 120 119,
 ⟨some 121,(some (120,false)),.val (.faddr 0 (.t 3))⟩,
 ⟨some 122,(some (120,false)),.val (.load false 1 (.t 121))⟩,
 ⟨some 123,(some (120,false)),.val (.bin .eql .num (.t 122) (.c (.int .i64 4)))⟩,
 ⟨some 124,(some (120,false)),.val (.mv (.t 123))⟩,
 ⟨some 125,(some (124,true)),.val (.mv (.t 9))⟩,
 ⟨some 126,(some (124,true)),.val (.faddr 2 (.t 3))⟩,
 ⟨some 127,(some (124,true)),.val (.load false 1 (.t 126))⟩,
 ⟨some 128,(some (124,true)),.val (.bin .neq .num (.t 125) (.t 127))⟩,
 ⟨some 129,(some (124,true)),.val (.mv (.t 128))⟩,
 ⟨some 130,(some (129,false)),.val (.mv (.t 10))⟩,
 ⟨some 131,(some (129,false)),.val (.faddr 3 (.t 3))⟩,
 ⟨some 132,(some (129,false)),.val (.load false 1 (.t 131))⟩,
 ⟨some 133,(some (129,false)),.val (.bin .neq .num (.t 130) (.t 132))⟩,
 ⟨some 134,(some (124,true)),.val (.pick (.t 129) (.c (.bool true)) (.t 133))⟩,
 ⟨some 135,(some (120,false)),.val (.pick (.t 124) (.t 134) (.c (.bool false)))⟩,
 vl 136 (.pick (.t 120) (.c (.bool true)) (.t 135))] [2,3,14,15,136]) k11_1)) k11_13)
abbrev k11_15 : MC :=
 (.seq ((.seq (.drw [
 vl 45 (.load true 1 (.t 2)),
 ⟨some 46,none,.call 38 [(.t 45)]⟩,
 vl 47 (.faddr 0 (.t 3)),
 vl 48 (.load false 1 (.t 47)),
 vl 49 (.bin .neq .num (.t 46) (.t 48)),
 mv 50 49,
 ⟨some 51,(some (50,false)),.val (.mv (.t 6))⟩,
 ⟨some 52,(some (50,false)),.val (.faddr 0 (.t 3))⟩,
 ⟨some 53,(some (50,false)),.val (.load false 1 (.t 52))⟩,
 ⟨some 54,(some (50,false)),.val (.bin .eql .num (.t 53) (.c (.int .i64 2)))⟩,
 ⟨some 55,(some (50,false)),.val (.bin .neq .bool (.t 51) (.t 54))⟩,
 vl 56 (.pick (.t 50) (.c (.bool true)) (.t 55)),
 mv 57 56,
 ⟨some 58,(some (57,false)),.val (.mv (.t 8))⟩,
 ⟨some 59,(some (57,false)),.val (.faddr 0 (.t 3))⟩,
 ⟨some 60,(some (57,false)),.val (.load false 1 (.t 59))⟩,
 ⟨some 61,(some (57,false)),.val (.bin .eql .num (.t 60) (.c (.int .i64 3)))⟩,
 ⟨some 62,(some (57,false)),.val (.bin .neq .bool (.t 58) (.t 61))⟩,
 vl 63 (.pick (.t 57) (.c (.bool true)) (.t 62)),
 mv 64 63,
 ⟨some 65,(some (64,false)),.val (.mv (.t 11))⟩,
 ⟨some 66,(some (64,false)),.val (.faddr 0 (.t 3))⟩,
 ⟨some 67,(some (64,false)),.val (.load false 1 (.t 66))⟩,
 ⟨some 68,(some (64,false)),.val (.bin .eql .num (.t 67) (.c (.int .i64 4)))⟩,
 ⟨some 69,(some (64,false)),.val (.bin .neq .bool (.t 65) (.t 68))⟩,
 vl 70 (.pick (.t 64) (.c (.bool true)) (.t 69)),
 mv 71 70,
 ⟨some 72,(some (71,false)),.val (.mv (.t 13))⟩,
 ⟨some 73,(some (71,false)),.val (.faddr 0 (.t 3))⟩,
 ⟨some 74,(some (71,false)),.val (.load false 1 (.t 73))⟩,
 ⟨some 75,(some (71,false)),.val (.bin .eql .num (.t 74) (.c (.int .i64 5)))⟩,
 ⟨some 76,(some (71,false)),.val (.bin .neq .bool (.t 72) (.t 75))⟩,
 vl 77 (.pick (.t 71) (.c (.bool true)) (.t 76)),
 mv 78 77,
 ⟨some 79,(some (78,false)),.val (.mv (.t 5))⟩,
 ⟨some 80,(some (78,false)),.val (.faddr 0 (.t 3))⟩,
 ⟨some 81,(some (78,false)),.val (.load false 1 (.t 80))⟩,
 ⟨some 82,(some (78,false)),.val (.bin .eql .num (.t 81) (.c (.int .i64 2)))⟩,
 ⟨some 83,(some (78,false)),.val (.mv (.t 82))⟩,
 ⟨some 84,(some (83,true)),.val (.faddr 1 (.t 3))⟩,
 ⟨some 85,(some (83,true)),.val (.load false 1 (.t 84))⟩,
 ⟨some 86,(some (78,false)),.val (.pick (.t 83) (.t 85) (.c (.bool false)))⟩,
 ⟨some 87,(some (78,false)),.val (.bin .neq .bool (.t 79) (.t 86))⟩,
 vl 88 (.pick (.t 78) (.c (.bool true)) (.t 87)),
 mv 89 88,
 ⟨some 90,(some (89,false)),.val (.mv (.t 12))⟩,
 ⟨some 91,(some (89,false)),.val (.faddr 4 (.t 3))⟩,
 ⟨some 92,(some (89,false)),.val (.load false 1 (.t 91))⟩,
 ⟨some 93,(some (89,false)),.val (.bin .neq .num (.t 90) (.t 92))⟩,
 vl 94 (.pick (.t 89) (.c (.bool true)) (.t 93)),
 mv 95 94,
 ⟨some 96,(some (95,false)),.val (.mv (.t 14))⟩,
 ⟨some 97,(some (95,false)),.val (.len .sl (.t 96))⟩,
 ⟨some 98,(some (95,false)),.val (.faddr 5 (.t 3))⟩,
 ⟨some 99,(some (95,false)),.val (.load false 1 (.t 98))⟩,
 ⟨some 100,(some (95,false)),.val (.len .sl (.t 99))⟩,
 ⟨some 101,(some (95,false)),.val (.bin .neq .num (.t 97) (.t 100))⟩,
 vl 102 (.pick (.t 95) (.c (.bool true)) (.t 101)),
 mv 103 102,
 ⟨some 104,(some (103,false)),.val (.mv (.t 15))⟩,
 ⟨some 105,(some (103,false)),.val (.len .sl (.t 104))⟩,
 ⟨some 106,(some (103,false)),.val (.faddr 6 (.t 3))⟩,
 ⟨some 107,(some (103,false)),.val (.load false 1 (.t 106))⟩,
 ⟨some 108,(some (103,false)),.val (.len .sl (.t 107))⟩,
 ⟨some 109,(some (103,false)),.val (.bin .neq .num (.t 105) (.t 108))⟩,
 vl 110 (.pick (.t 103) (.c (.bool true)) (.t 109))] [] [2,3,7,9,10,14,15,110]) k11_0)) k11_14)
abbrev k11_16 : MC :=
 (.seq (.drw [
 vl 41 (.load true 1 (.t 2)),
 ⟨some 42,none,.call 36 [(.t 41)]⟩,
 vl 43 (.load true 1 (.t 2)),
 ⟨some 44,none,.call 37 [(.t 43)]⟩,
 mv 14 42,
 mv 15 44] [] [2,3,5,6,7,8,9,10,11,12,13,14,15]) k11_15)
abbrev k11_17 : MC :=
 (.seq (.reg [
 vl 37 (.load true 1 (.t 2)),
 ⟨some 38,none,.call 35 [(.t 37)]⟩,
 mv 36 38,
 vl 39 (.ext (.t 36) 0),
 vl 40 (.ext (.t 36) 1),
 mv 12 39,
 mv 13 40] [2,3,5,6,7,8,9,10,11,12,13]) k11_16)
abbrev k11_18 : MC :=
 (.seq (.reg [
 vl 31 (.load true 1 (.t 2)),
 ⟨some 32,none,.call 34 [(.t 31)]⟩,
 mv 30 32,
 vl 33 (.ext (.t 30) 0),
 vl 34 (.ext (.t 30) 1),
 vl 35 (.ext (.t 30) 2),
 mv 9 33,
 mv 10 34,
 mv 11 35] [2,3,5,6,7,8,9,10,11]) k11_17)
abbrev k11_19 : MC :=
 (.seq (.reg [
 vl 26 (.load true 1 (.t 2)),
 ⟨some 27,none,.call 33 [(.t 26)]⟩,
 mv 25 27,
 vl 28 (.ext (.t 25) 0),
 vl 29 (.ext (.t 25) 1),
 mv 7 28,
 mv 8 29] [2,3,5,6,7,8]) k11_18)
abbrev k11_20 : MC :=
 (.seq (.reg [
 vl 21 (.load true 1 (.t 2)),
 ⟨some 22,none,.call 32 [(.t 21)]⟩,
 mv 20 22,
 vl 23 (.ext (.t 20) 0),
 vl 24 (.ext (.t 20) 1),
 mv 5 23,
 mv 6 24] [2,3,5,6]) k11_19)
abbrev k11 : MC :=
 (.seq (.reg [
 ⟨some 2,none,.boxi (.t 0)⟩,
 ⟨some 3,none,.boxi (.t 1)⟩,
 vl 4 (.mv (.c (.int .i64 0)))] [2,3]) k11_20)
theorem c11 : Tryz.f11.body.bind (mcOf Tryz.prog (List.contains [2,3] ·) (List.getD [([],[2,3]),([],[2,3,5,6]),([],[2,3,5,6,7,8]),([],[2,3,5,6,7,8,9,10,11]),([],[2,3,5,6,7,8,9,10,11,12,13]),([0,0,0,0,0,0],[2,3,5,6,7,8,9,10,11,12,13,14,15]),([0,0,0,0,0,0,0,0,0,0,0,0,0,0,0,0,0,0,0,0,0,0,0,0,0,0,0,0,0,0,0,0,0,0,0,0,0,0,0,0,0,0,0,0,0,0,0,0,0,0,0,0,0,0,0,0,0,0,0,0,0,0,0,0,0,0],[2,3,7,9,10,14,15,110]),([],[4]),([],[2,3,14,15,136]),([],[4]),([],[2,3,14,15,16]),([],[2,3,14,15,16,17]),([],[2,3,14,15,16,17,140]),([],[2,3,14,15,16,17]),([],[2,3,14,15,16,17,145]),([0,0,0,0,0,0,0,0,0,0,1,2,0],[2,3,14,15,16,17,18,19]),([0,0,0,0,0,0,0,0,0,0,0,0,0,0,0,0,0,0,0,0,0,0,0,0],[2,3,14,15,16,17,179]),([],[2,3,14,15,16,17]),([0,0,0,0,0,0,0,0,0,0,0,0,0],[2,3,14,15,16,17]),([],[4])] · ([],[])) 195) = some k11 := by kernel_rfl
theorem r11 : rvsOf Tryz.prog Tryz.f11.results.toList = some [.tmp 4] := by kernel_rfl
theorem at_calls (v : Vl) (k : List UInt8) (H : AH) : ACalls Tryz.prog 39 [.agg [vV v],.str k] H (fun o H' => o = .ret (.tuple [.agg [vV ((v.at k).getD .nul)],.bool (v.at k).isSome]) ∧ H' = H) := by
  refine ACalls.drop ?_
  refine acalls Tryz.func39 c39 r39 (by simp [Tryz.ntmps39]) ?_
  by_cases hm : ∃ es,v = .map es
  · obtain ⟨es,rfl⟩ := hm
    rw [vV_map]
    cases h : fnd k es with
    | none =>
      repeat' (first|with_reducible refine go0 ?_|(with_reducible refine am_cnd ?_ ?_<;>intro hc<;>try (exfalso;omega))|((first|with_reducible (first|refine go1 ?_|refine vc_intro ?_|refine need_el ?_|refine vlen_a ?_|refine need_by ?_|refine need_lk ?_)|((with_reducible refine alloc_intro (fun ko hko=>?_))<;>(try have hne:=fresh_ne (by assumption) hko)<;>(try simp only [AH.put_none] at hko))|done)<;>(try simp -implicitDefEqProofs (disch:=omega) only [go_sem,mE_find,h,true_or,or_true,true_and,Option.map_none])))
      all_goals (simp only [Vl.at,h,Option.getD,Option.isSome,vV_nul]; (refine drop_end (by (first | exact fun _ _ h => h | (intro s x h; first | exact no_sub _ h | exact nil_no _ h | exact AccP.sub (by assumption) _ _ h | (refine agg_sub rfl ?_ x h; repeat (first | exact .nil | refine .cons (fun _ h => h) ?_ | refine .cons (fun _ h => nil_no _ h) ?_ | refine .cons (fun _ h => no_sub _ h) ?_ | refine .cons (fun _ h => AccP.sub (by assumption) _ _ h) ?_)) | (refine tuple_sub ?_ x h; repeat (first | exact .nil | refine .cons (fun _ h => h) ?_ | refine .cons (fun _ h => nil_no _ h) ?_ | refine .cons (fun _ h => no_sub _ h) ?_ | refine .cons (fun _ h => AccP.sub (by assumption) _ _ h) ?_ | refine .cons (fun _ h => agg_sub rfl (by repeat (first | exact .nil | refine .cons (fun _ h => h) ?_ | refine .cons (fun _ h => nil_no _ h) ?_ | refine .cons (fun _ h => no_sub _ h) ?_ | refine .cons (fun _ h => AccP.sub (by assumption) _ _ h) ?_)) _ h) ?_))))) (by (repeat (first | exact AH.le_refl _ | assumption | exact AccP.le (by assumption) | refine AH.le_put ?_ (by first | assumption | exact none_of_le (by assumption) (by assumption) | exact And.right (by assumption) | exact And.right (And.right (by assumption))) _ | refine AH.le_trans ?_ (AccP.le (by assumption)))))))
    | some x =>
      repeat' (first|with_reducible refine go0 ?_|(with_reducible refine am_cnd ?_ ?_<;>intro hc<;>try (exfalso;omega))|((first|with_reducible (first|refine go1 ?_|refine vc_intro ?_|refine need_el ?_|refine vlen_a ?_|refine need_by ?_|refine need_lk ?_)|((with_reducible refine alloc_intro (fun ko hko=>?_))<;>(try have hne:=fresh_ne (by assumption) hko)<;>(try simp only [AH.put_none] at hko))|done)<;>(try simp -implicitDefEqProofs (disch:=omega) only [go_sem,mE_find,h,true_or,or_true,true_and])))
      all_goals (simp only [Vl.at,h,Option.getD,Option.isSome,vV_nul]; (refine drop_end (by (first | exact fun _ _ h => h | (intro s x h; first | exact no_sub _ h | exact nil_no _ h | exact AccP.sub (by assumption) _ _ h | (refine agg_sub rfl ?_ x h; repeat (first | exact .nil | refine .cons (fun _ h => h) ?_ | refine .cons (fun _ h => nil_no _ h) ?_ | refine .cons (fun _ h => no_sub _ h) ?_ | refine .cons (fun _ h => AccP.sub (by assumption) _ _ h) ?_)) | (refine tuple_sub ?_ x h; repeat (first | exact .nil | refine .cons (fun _ h => h) ?_ | refine .cons (fun _ h => nil_no _ h) ?_ | refine .cons (fun _ h => no_sub _ h) ?_ | refine .cons (fun _ h => AccP.sub (by assumption) _ _ h) ?_ | refine .cons (fun _ h => agg_sub rfl (by repeat (first | exact .nil | refine .cons (fun _ h => h) ?_ | refine .cons (fun _ h => nil_no _ h) ?_ | refine .cons (fun _ h => no_sub _ h) ?_ | refine .cons (fun _ h => AccP.sub (by assumption) _ _ h) ?_)) _ h) ?_))))) (by (repeat (first | exact AH.le_refl _ | assumption | exact AccP.le (by assumption) | refine AH.le_put ?_ (by first | assumption | exact none_of_le (by assumption) (by assumption) | exact And.right (by assumption) | exact And.right (And.right (by assumption))) _ | refine AH.le_trans ?_ (AccP.le (by assumption)))))))
  · have h : v.at k = none := by cases v <;> first | rfl | exact absurd ⟨_,rfl⟩ hm
    simp only [h,Option.getD,Option.isSome,vV_nul]
    cases v
    case map es => exact absurd ⟨_,rfl⟩ hm
    all_goals simp only [vV_nul,vV_unk,vV_bool,vV_int,vV_pt,vV_text,vV_list,vV_map]
    repeat' (first|with_reducible refine go0 ?_|(with_reducible refine am_cnd ?_ ?_<;>intro hc<;>try (exfalso;omega))|((first|with_reducible (first|refine go1 ?_|refine vc_intro ?_|refine need_el ?_|refine vlen_a ?_|refine need_by ?_|refine need_lk ?_)|((with_reducible refine alloc_intro (fun ko hko=>?_))<;>(try have hne:=fresh_ne (by assumption) hko)<;>(try simp only [AH.put_none] at hko))|done)<;>(try simp -implicitDefEqProofs (disch:=omega) only [go_sem,true_or,or_true,true_and])))
    all_goals (refine drop_end (by (first | exact fun _ _ h => h | (intro s x h; first | exact no_sub _ h | exact nil_no _ h | exact AccP.sub (by assumption) _ _ h | (refine agg_sub rfl ?_ x h; repeat (first | exact .nil | refine .cons (fun _ h => h) ?_ | refine .cons (fun _ h => nil_no _ h) ?_ | refine .cons (fun _ h => no_sub _ h) ?_ | refine .cons (fun _ h => AccP.sub (by assumption) _ _ h) ?_)) | (refine tuple_sub ?_ x h; repeat (first | exact .nil | refine .cons (fun _ h => h) ?_ | refine .cons (fun _ h => nil_no _ h) ?_ | refine .cons (fun _ h => no_sub _ h) ?_ | refine .cons (fun _ h => AccP.sub (by assumption) _ _ h) ?_ | refine .cons (fun _ h => agg_sub rfl (by repeat (first | exact .nil | refine .cons (fun _ h => h) ?_ | refine .cons (fun _ h => nil_no _ h) ?_ | refine .cons (fun _ h => no_sub _ h) ?_ | refine .cons (fun _ h => AccP.sub (by assumption) _ _ h) ?_)) _ h) ?_))))) (by (repeat (first | exact AH.le_refl _ | assumption | exact AccP.le (by assumption) | refine AH.le_put ?_ (by first | assumption | exact none_of_le (by assumption) (by assumption) | exact And.right (by assumption) | exact And.right (And.right (by assumption))) _ | refine AH.le_trans ?_ (AccP.le (by assumption))))))
theorem unlike_loop {m : Rv} {v : Vl} (hf : m.L.length * 16 ≤ 100000000000000) (ho : v.Ok) (hK : v.kind = m.K) (hl : v.items.length = m.L.length) (hk : v.keys = m.Keys) (hi : ∀ i (h : i < v.items.length) (h2 : i < m.L.length),Sm v.items[i] m.L[i])
    (ih : ∀ x ∈ m.L,∀ (v : Vl),Sm v x → v.Ok → ∀ (g : Nat) (H : AH),H g = some .nodr → ACalls Tryz.prog 11 [.agg [vV v],.agg [.int .i64 x.K,.bool x.B,.int .i64 x.N,.int .i64 x.M,.str x.S,.sl 7 (rvE x.L) .no,.sl 1 (strE x.Keys) .no]] H (fun o H' => o = .ret (.int .i64 0) ∧ H' = H))
    {g : Nat} {H : AH} (hg : H g = some .nodr) :
    AM Tryz.prog Tryz.f11.ntmps (.loop k11_9) (BQ 0 (SQ Tryz.prog Tryz.f11.ntmps k11_11 (Body [RV.tmp 4] fun o H' => (∃ u,o = Out.ret u ∧ ∀ (s : St) (x : Value),s.val u x → s.val (V.int .i64 0) x) ∧ H.le H')))
      [(2,.rptr [vV v] 0),(3,.rptr [.int .i64 m.K,.bool m.B,.int .i64 m.N,.int .i64 m.M,.str m.S,.sl 7 (rvE m.L) .no,.sl 1 (strE m.Keys) .no] 0),(14,.sl 1 (vE v.items) .no),(15,.sl 1 (strE m.Keys) .no),(16,.int .i64 0),(17,.int .i64 0)] H := by
  refine am_loop (fun n a H' => ∃ i : Nat,i + n = m.L.length ∧ a = [(2,.rptr [vV v] 0),(3,.rptr [.int .i64 m.K,.bool m.B,.int .i64 m.N,.int .i64 m.M,.str m.S,.sl 7 (rvE m.L) .no,.sl 1 (strE m.Keys) .no] 0),(14,.sl 1 (vE v.items) .no),(15,.sl 1 (strE m.Keys) .no),(16,.int .i64 0),(17,.int .i64 i)] ∧ H' g = some .nodr ∧ H.le H') ?_ m.L.length ⟨0,by omega,rfl,hg,AH.le_refl _⟩
  rintro n a H' ⟨i,hin,rfl,hg',hle⟩
  by_cases hlt : i < m.L.length
  · have hlt1 : i < v.items.length := by omega
    have hc1 := ih m.L[i] (List.getElem_mem hlt) v.items[i] (hi i hlt1 hlt) (Ok.items ho _ (List.getElem_mem hlt1))
    by_cases h7 : m.K = 7
    · have hlt2 : i < m.Keys.length := by rw [← hk,← items_keys (by omega)]; omega
      have hat : v.at m.Keys[i] = some v.items[i] := by
        have := at_key (v := v) (by omega) (i := i) (by rw [hk]; exact hlt2) hlt1
        simpa only [hk] using this
      repeat' (first|with_reducible refine go0 ?_|(with_reducible refine am_cnd ?_ ?_<;>intro hc<;>try (exfalso;omega))|((first|with_reducible (first|refine go1 ?_|refine vc_intro ?_|refine need_el ?_|refine vlen_a ?_|refine need_by ?_|refine call_of (at_calls v _) ?_|refine qcall_of (at_calls v _) ?_|refine call_at (fun G hl=>hc1 _ _ (nodr_lec hg' hl)) ?_|refine qcall_at (fun G hl=>hc1 _ _ (nodr_lec hg' hl)) ?_|refine call_at (fun G hl=>hc1 _ _ (nodr_lec (look_put hg' hko) hl)) ?_|refine qcall_at (fun G hl=>hc1 _ _ (nodr_lec (look_put hg' hko) hl)) ?_|refine need_lk ?_)|((with_reducible (first|apply gd_not|apply gd_of|apply gq_not|apply gq_of|apply pickB_of))<;>intro hc<;>(try simp -implicitDefEqProofs (disch:=omega) only [go_sem,hc,wrap_id,hl,rvE_length,vE_length,strE_len,rvE_get hlt,vE_get hlt1,strE_get hlt2,h7,hat,bne_self_eq_false,Option.getD_some,Option.isSome_some])<;>(try simp only [reduceCtorEq,bD,beq_iff_eq] at hc)<;>(try (exfalso;omega)))|((with_reducible refine alloc_intro (fun ko hko=>?_))<;>(try have hne:=fresh_ne (by assumption) hko)<;>(try have hnk:=fresh_ne hk hko)<;>(try simp only [AH.put_none] at hko))|done)<;>(try simp -implicitDefEqProofs (disch:=omega) only [go_sem,wrap_id,hl,rvE_length,vE_length,strE_len,rvE_get hlt,vE_get hlt1,strE_get hlt2,h7,hat,bne_self_eq_false,Option.getD_some,Option.isSome_some])))
      all_goals exact ⟨n - 1,by omega,i + 1,by omega,rfl,by first | exact hg' | exact look_put hg' hko,by first | exact hle | exact AH.le_put hle (none_of_le hle hko) _⟩
    · repeat' (first|with_reducible refine go0 ?_|(with_reducible refine am_cnd ?_ ?_<;>intro hc<;>try (exfalso;omega))|((first|with_reducible (first|refine go1 ?_|refine vc_intro ?_|refine need_el ?_|refine vlen_a ?_|refine need_by ?_|refine call_at (fun G hl=>hc1 _ _ (nodr_lec hg' hl)) ?_|refine qcall_at (fun G hl=>hc1 _ _ (nodr_lec hg' hl)) ?_|refine need_lk ?_)|((with_reducible (first|apply gd_not|apply gd_of|apply gq_not|apply gq_of|apply pickB_of))<;>intro hc<;>(try simp -implicitDefEqProofs (disch:=omega) only [go_sem,hc,wrap_id,hl,rvE_length,vE_length,strE_len,rvE_get hlt,vE_get hlt1,h7,bne_self_eq_false])<;>(try simp only [reduceCtorEq,bD,beq_iff_eq] at hc)<;>(try (exfalso;omega)))|((with_reducible refine alloc_intro (fun ko hko=>?_))<;>(try have hne:=fresh_ne (by assumption) hko)<;>(try have hnk:=fresh_ne hk hko)<;>(try simp only [AH.put_none] at hko))|done)<;>(try simp -implicitDefEqProofs (disch:=omega) only [go_sem,wrap_id,hl,rvE_length,vE_length,strE_len,rvE_get hlt,vE_get hlt1,h7,bne_self_eq_false])))
      all_goals exact ⟨n - 1,by omega,i + 1,by omega,rfl,hg',hle⟩
  · repeat' (first|with_reducible refine go0 ?_|(with_reducible refine am_cnd ?_ ?_<;>intro hc<;>try (exfalso;omega))|((first|with_reducible (first|refine go1 ?_|refine vc_intro ?_|refine need_el ?_|refine vlen_a ?_|refine need_by ?_|refine need_lk ?_)|((with_reducible (first|apply gd_not|apply gd_of|apply gq_not|apply gq_of|apply pickB_of))<;>intro hc<;>(try simp -implicitDefEqProofs (disch:=omega) only [go_sem,hc,rvE_length,vE_length,strE_len,hl])<;>(try simp only [reduceCtorEq,bD,beq_iff_eq] at hc)<;>(try (exfalso;omega)))|((with_reducible refine alloc_intro (fun ko hko=>?_))<;>(try have hne:=fresh_ne (by assumption) hko)<;>(try have hnk:=fresh_ne hk hko)<;>(try simp only [AH.put_none] at hko))|done)<;>(try simp -implicitDefEqProofs (disch:=omega) only [go_sem,rvE_length,vE_length,strE_len,hl])))
    all_goals (refine drop_end (by (first | exact fun _ _ h => h | (intro s x h; first | exact no_sub _ h | exact nil_no _ h | exact AccP.sub (by assumption) _ _ h | (refine agg_sub rfl ?_ x h; repeat (first | exact .nil | refine .cons (fun _ h => h) ?_ | refine .cons (fun _ h => nil_no _ h) ?_ | refine .cons (fun _ h => no_sub _ h) ?_ | refine .cons (fun _ h => AccP.sub (by assumption) _ _ h) ?_)) | (refine tuple_sub ?_ x h; repeat (first | exact .nil | refine .cons (fun _ h => h) ?_ | refine .cons (fun _ h => nil_no _ h) ?_ | refine .cons (fun _ h => no_sub _ h) ?_ | refine .cons (fun _ h => AccP.sub (by assumption) _ _ h) ?_ | refine .cons (fun _ h => agg_sub rfl (by repeat (first | exact .nil | refine .cons (fun _ h => h) ?_ | refine .cons (fun _ h => nil_no _ h) ?_ | refine .cons (fun _ h => no_sub _ h) ?_ | refine .cons (fun _ h => AccP.sub (by assumption) _ _ h) ?_)) _ h) ?_))))) (by (repeat (first | exact AH.le_refl _ | assumption | exact AccP.le (by assumption) | refine AH.le_put ?_ (by first | assumption | exact none_of_le (by assumption) (by assumption) | exact And.right (by assumption) | exact And.right (And.right (by assumption))) _ | refine AH.le_trans ?_ (AccP.le (by assumption))))))
set_option maxRecDepth 4000 in
theorem unlike_0 {m : Rv} {v : Vl} (hf : m.L.length * 16 ≤ 100000000000000) (ho : v.Ok) (hs : Sm v m) (h0 : m.K = 0)
    (ih : ∀ x ∈ m.L,∀ (v : Vl),Sm v x → v.Ok → ∀ (g : Nat) (H : AH),H g = some .nodr → ACalls Tryz.prog 11 [.agg [vV v],.agg [.int .i64 x.K,.bool x.B,.int .i64 x.N,.int .i64 x.M,.str x.S,.sl 7 (rvE x.L) .no,.sl 1 (strE x.Keys) .no]] H (fun o H' => o = .ret (.int .i64 0) ∧ H' = H))
    {g : Nat} {H : AH} (hg : H g = some .nodr) : ACalls Tryz.prog 11 [.agg [vV v],.agg [.int .i64 m.K,.bool m.B,.int .i64 m.N,.int .i64 m.M,.str m.S,.sl 7 (rvE m.L) .no,.sl 1 (strE m.Keys) .no]] H (fun o H' => o = .ret (.int .i64 0) ∧ H' = H) := by
  refine ACalls.drop ?_
  cases hs with
  | mk _ _ hK hB hS hl hk hN hP hi =>
  have tail := unlike_loop hf ho hK hl hk hi ih hg
  have e1 := isB_kind v
  have e2 := isI_kind v
  have e3 := isP_kind v
  have e4 := isT_kind v
  rw [hK,h0] at e1 e2 e3 e4
  rw [h0] at hK hB tail
  simp only [Int.reduceEq,decide_false,decide_true,Bool.false_and,Bool.true_and] at e1 e2 e3 e4 hB
  refine acalls Tryz.func11 c11 r11 (by simp [Tryz.ntmps11]) ?_
  repeat' (first|with_reducible refine go0 ?_|(with_reducible refine am_cnd ?_ ?_<;>intro hc<;>try (exfalso;omega))|((first|with_reducible (first|refine go1 ?_|refine vc_intro ?_|refine need_el ?_|refine vlen_a ?_|refine need_by ?_|refine call_of (bool_calls v) ?_|refine qcall_of (bool_calls v) ?_|refine call_of (int_calls v) ?_|refine qcall_of (int_calls v) ?_|refine call_of (point_calls ho) ?_|refine qcall_of (point_calls ho) ?_|refine call_of (text_calls v) ?_|refine qcall_of (text_calls v) ?_|refine call_of (kind_calls v) ?_|refine qcall_of (kind_calls v) ?_|refine call_at (fun G hl=>items_calls ho (nodr_lec hg hl)) ?_|refine qcall_at (fun G hl=>items_calls ho (nodr_lec hg hl)) ?_|refine call_at (fun G hl=>keys_calls ho (nodr_lec hg hl)) ?_|refine qcall_at (fun G hl=>keys_calls ho (nodr_lec hg hl)) ?_|refine need_lk ?_)|((with_reducible (first|apply gd_not|apply gd_of|apply gq_not|apply gq_of|apply pickB_of))<;>intro hc<;>(try simp -implicitDefEqProofs (disch:=omega) only [go_sem,hc,e1,e2,e3,e4,hK,hB,hS,hl,hk,h0,rvE_length,vE_length,strE_len,bne_self_eq_false])<;>(try simp only [reduceCtorEq,bD,beq_iff_eq] at hc)<;>(try (exfalso;omega)))|((with_reducible refine alloc_intro (fun ko hko=>?_))<;>(try have hne:=fresh_ne (by assumption) hko)<;>(try have hnk:=fresh_ne hk hko)<;>(try simp only [AH.put_none] at hko))|done)<;>(try simp -implicitDefEqProofs (disch:=omega) only [go_sem,e1,e2,e3,e4,hK,hB,hS,hl,hk,h0,rvE_length,vE_length,strE_len,bne_self_eq_false])))
  all_goals exact tail
set_option maxRecDepth 4000 in
theorem unlike_1 {m : Rv} {v : Vl} (hf : m.L.length * 16 ≤ 100000000000000) (ho : v.Ok) (hs : Sm v m) (h0 : m.K = 1)
    (ih : ∀ x ∈ m.L,∀ (v : Vl),Sm v x → v.Ok → ∀ (g : Nat) (H : AH),H g = some .nodr → ACalls Tryz.prog 11 [.agg [vV v],.agg [.int .i64 x.K,.bool x.B,.int .i64 x.N,.int .i64 x.M,.str x.S,.sl 7 (rvE x.L) .no,.sl 1 (strE x.Keys) .no]] H (fun o H' => o = .ret (.int .i64 0) ∧ H' = H))
    {g : Nat} {H : AH} (hg : H g = some .nodr) : ACalls Tryz.prog 11 [.agg [vV v],.agg [.int .i64 m.K,.bool m.B,.int .i64 m.N,.int .i64 m.M,.str m.S,.sl 7 (rvE m.L) .no,.sl 1 (strE m.Keys) .no]] H (fun o H' => o = .ret (.int .i64 0) ∧ H' = H) := by
  refine ACalls.drop ?_
  cases hs with
  | mk _ _ hK hB hS hl hk hN hP hi =>
  have tail := unlike_loop hf ho hK hl hk hi ih hg
  have e1 := isB_kind v
  have e2 := isI_kind v
  have e3 := isP_kind v
  have e4 := isT_kind v
  rw [hK,h0] at e1 e2 e3 e4
  rw [h0] at hK hB tail
  simp only [Int.reduceEq,decide_false,decide_true,Bool.false_and,Bool.true_and] at e1 e2 e3 e4 hB
  refine acalls Tryz.func11 c11 r11 (by simp [Tryz.ntmps11]) ?_
  repeat' (first|with_reducible refine go0 ?_|(with_reducible refine am_cnd ?_ ?_<;>intro hc<;>try (exfalso;omega))|((first|with_reducible (first|refine go1 ?_|refine vc_intro ?_|refine need_el ?_|refine vlen_a ?_|refine need_by ?_|refine call_of (bool_calls v) ?_|refine qcall_of (bool_calls v) ?_|refine call_of (int_calls v) ?_|refine qcall_of (int_calls v) ?_|refine call_of (point_calls ho) ?_|refine qcall_of (point_calls ho) ?_|refine call_of (text_calls v) ?_|refine qcall_of (text_calls v) ?_|refine call_of (kind_calls v) ?_|refine qcall_of (kind_calls v) ?_|refine call_at (fun G hl=>items_calls ho (nodr_lec hg hl)) ?_|refine qcall_at (fun G hl=>items_calls ho (nodr_lec hg hl)) ?_|refine call_at (fun G hl=>keys_calls ho (nodr_lec hg hl)) ?_|refine qcall_at (fun G hl=>keys_calls ho (nodr_lec hg hl)) ?_|refine need_lk ?_)|((with_reducible (first|apply gd_not|apply gd_of|apply gq_not|apply gq_of|apply pickB_of))<;>intro hc<;>(try simp -implicitDefEqProofs (disch:=omega) only [go_sem,hc,e1,e2,e3,e4,hK,hB,hS,hl,hk,h0,rvE_length,vE_length,strE_len,bne_self_eq_false])<;>(try simp only [reduceCtorEq,bD,beq_iff_eq] at hc)<;>(try (exfalso;omega)))|((with_reducible refine alloc_intro (fun ko hko=>?_))<;>(try have hne:=fresh_ne (by assumption) hko)<;>(try have hnk:=fresh_ne hk hko)<;>(try simp only [AH.put_none] at hko))|done)<;>(try simp -implicitDefEqProofs (disch:=omega) only [go_sem,e1,e2,e3,e4,hK,hB,hS,hl,hk,h0,rvE_length,vE_length,strE_len,bne_self_eq_false])))
  all_goals exact tail
set_option maxRecDepth 4000 in
theorem unlike_2 {m : Rv} {v : Vl} (hf : m.L.length * 16 ≤ 100000000000000) (ho : v.Ok) (hs : Sm v m) (h0 : m.K = 2)
    (ih : ∀ x ∈ m.L,∀ (v : Vl),Sm v x → v.Ok → ∀ (g : Nat) (H : AH),H g = some .nodr → ACalls Tryz.prog 11 [.agg [vV v],.agg [.int .i64 x.K,.bool x.B,.int .i64 x.N,.int .i64 x.M,.str x.S,.sl 7 (rvE x.L) .no,.sl 1 (strE x.Keys) .no]] H (fun o H' => o = .ret (.int .i64 0) ∧ H' = H))
    {g : Nat} {H : AH} (hg : H g = some .nodr) : ACalls Tryz.prog 11 [.agg [vV v],.agg [.int .i64 m.K,.bool m.B,.int .i64 m.N,.int .i64 m.M,.str m.S,.sl 7 (rvE m.L) .no,.sl 1 (strE m.Keys) .no]] H (fun o H' => o = .ret (.int .i64 0) ∧ H' = H) := by
  refine ACalls.drop ?_
  cases hs with
  | mk _ _ hK hB hS hl hk hN hP hi =>
  have tail := unlike_loop hf ho hK hl hk hi ih hg
  have e1 := isB_kind v
  have e2 := isI_kind v
  have e3 := isP_kind v
  have e4 := isT_kind v
  rw [hK,h0] at e1 e2 e3 e4
  rw [h0] at hK hB tail
  simp only [Int.reduceEq,decide_false,decide_true,Bool.false_and,Bool.true_and] at e1 e2 e3 e4 hB
  cases hBm : m.B
  · rw [hBm] at hB tail
    refine acalls Tryz.func11 c11 r11 (by simp [Tryz.ntmps11]) ?_
    repeat' (first|with_reducible refine go0 ?_|(with_reducible refine am_cnd ?_ ?_<;>intro hc<;>try (exfalso;omega))|((first|with_reducible (first|refine go1 ?_|refine vc_intro ?_|refine need_el ?_|refine vlen_a ?_|refine need_by ?_|refine call_of (bool_calls v) ?_|refine qcall_of (bool_calls v) ?_|refine call_of (int_calls v) ?_|refine qcall_of (int_calls v) ?_|refine call_of (point_calls ho) ?_|refine qcall_of (point_calls ho) ?_|refine call_of (text_calls v) ?_|refine qcall_of (text_calls v) ?_|refine call_of (kind_calls v) ?_|refine qcall_of (kind_calls v) ?_|refine call_at (fun G hl=>items_calls ho (nodr_lec hg hl)) ?_|refine qcall_at (fun G hl=>items_calls ho (nodr_lec hg hl)) ?_|refine call_at (fun G hl=>keys_calls ho (nodr_lec hg hl)) ?_|refine qcall_at (fun G hl=>keys_calls ho (nodr_lec hg hl)) ?_|refine need_lk ?_)|((with_reducible (first|apply gd_not|apply gd_of|apply gq_not|apply gq_of|apply pickB_of))<;>intro hc<;>(try simp -implicitDefEqProofs (disch:=omega) only [go_sem,hc,e1,e2,e3,e4,hK,hB,hS,hl,hk,h0,hBm,rvE_length,vE_length,strE_len,bne_self_eq_false])<;>(try simp only [reduceCtorEq,bD,beq_iff_eq] at hc)<;>(try (exfalso;omega)))|((with_reducible refine alloc_intro (fun ko hko=>?_))<;>(try have hne:=fresh_ne (by assumption) hko)<;>(try have hnk:=fresh_ne hk hko)<;>(try simp only [AH.put_none] at hko))|done)<;>(try simp -implicitDefEqProofs (disch:=omega) only [go_sem,e1,e2,e3,e4,hK,hB,hS,hl,hk,h0,hBm,rvE_length,vE_length,strE_len,bne_self_eq_false])))
    all_goals exact tail
  · rw [hBm] at hB tail
    refine acalls Tryz.func11 c11 r11 (by simp [Tryz.ntmps11]) ?_
    repeat' (first|with_reducible refine go0 ?_|(with_reducible refine am_cnd ?_ ?_<;>intro hc<;>try (exfalso;omega))|((first|with_reducible (first|refine go1 ?_|refine vc_intro ?_|refine need_el ?_|refine vlen_a ?_|refine need_by ?_|refine call_of (bool_calls v) ?_|refine qcall_of (bool_calls v) ?_|refine call_of (int_calls v) ?_|refine qcall_of (int_calls v) ?_|refine call_of (point_calls ho) ?_|refine qcall_of (point_calls ho) ?_|refine call_of (text_calls v) ?_|refine qcall_of (text_calls v) ?_|refine call_of (kind_calls v) ?_|refine qcall_of (kind_calls v) ?_|refine call_at (fun G hl=>items_calls ho (nodr_lec hg hl)) ?_|refine qcall_at (fun G hl=>items_calls ho (nodr_lec hg hl)) ?_|refine call_at (fun G hl=>keys_calls ho (nodr_lec hg hl)) ?_|refine qcall_at (fun G hl=>keys_calls ho (nodr_lec hg hl)) ?_|refine need_lk ?_)|((with_reducible (first|apply gd_not|apply gd_of|apply gq_not|apply gq_of|apply pickB_of))<;>intro hc<;>(try simp -implicitDefEqProofs (disch:=omega) only [go_sem,hc,e1,e2,e3,e4,hK,hB,hS,hl,hk,h0,hBm,rvE_length,vE_length,strE_len,bne_self_eq_false])<;>(try simp only [reduceCtorEq,bD,beq_iff_eq] at hc)<;>(try (exfalso;omega)))|((with_reducible refine alloc_intro (fun ko hko=>?_))<;>(try have hne:=fresh_ne (by assumption) hko)<;>(try have hnk:=fresh_ne hk hko)<;>(try simp only [AH.put_none] at hko))|done)<;>(try simp -implicitDefEqProofs (disch:=omega) only [go_sem,e1,e2,e3,e4,hK,hB,hS,hl,hk,h0,hBm,rvE_length,vE_length,strE_len,bne_self_eq_false])))
    all_goals exact tail
set_option maxRecDepth 4000 in
theorem unlike_3 {m : Rv} {v : Vl} (hf : m.L.length * 16 ≤ 100000000000000) (ho : v.Ok) (hs : Sm v m) (h0 : m.K = 3)
    (ih : ∀ x ∈ m.L,∀ (v : Vl),Sm v x → v.Ok → ∀ (g : Nat) (H : AH),H g = some .nodr → ACalls Tryz.prog 11 [.agg [vV v],.agg [.int .i64 x.K,.bool x.B,.int .i64 x.N,.int .i64 x.M,.str x.S,.sl 7 (rvE x.L) .no,.sl 1 (strE x.Keys) .no]] H (fun o H' => o = .ret (.int .i64 0) ∧ H' = H))
    {g : Nat} {H : AH} (hg : H g = some .nodr) : ACalls Tryz.prog 11 [.agg [vV v],.agg [.int .i64 m.K,.bool m.B,.int .i64 m.N,.int .i64 m.M,.str m.S,.sl 7 (rvE m.L) .no,.sl 1 (strE m.Keys) .no]] H (fun o H' => o = .ret (.int .i64 0) ∧ H' = H) := by
  refine ACalls.drop ?_
  cases hs with
  | mk _ _ hK hB hS hl hk hN hP hi =>
  have hN' := hN h0
  have tail := unlike_loop hf ho hK hl hk hi ih hg
  have e1 := isB_kind v
  have e2 := isI_kind v
  have e3 := isP_kind v
  have e4 := isT_kind v
  rw [hK,h0] at e1 e2 e3 e4
  rw [h0] at hK hB tail
  simp only [Int.reduceEq,decide_false,decide_true,Bool.false_and,Bool.true_and] at e1 e2 e3 e4 hB
  refine acalls Tryz.func11 c11 r11 (by simp [Tryz.ntmps11]) ?_
  repeat' (first|with_reducible refine go0 ?_|(with_reducible refine am_cnd ?_ ?_<;>intro hc<;>try (exfalso;omega))|((first|with_reducible (first|refine go1 ?_|refine vc_intro ?_|refine need_el ?_|refine vlen_a ?_|refine need_by ?_|refine call_of (bool_calls v) ?_|refine qcall_of (bool_calls v) ?_|refine call_of (int_calls v) ?_|refine qcall_of (int_calls v) ?_|refine call_of (point_calls ho) ?_|refine qcall_of (point_calls ho) ?_|refine call_of (text_calls v) ?_|refine qcall_of (text_calls v) ?_|refine call_of (kind_calls v) ?_|refine qcall_of (kind_calls v) ?_|refine call_at (fun G hl=>items_calls ho (nodr_lec hg hl)) ?_|refine qcall_at (fun G hl=>items_calls ho (nodr_lec hg hl)) ?_|refine call_at (fun G hl=>keys_calls ho (nodr_lec hg hl)) ?_|refine qcall_at (fun G hl=>keys_calls ho (nodr_lec hg hl)) ?_|refine need_lk ?_)|((with_reducible (first|apply gd_not|apply gd_of|apply gq_not|apply gq_of|apply pickB_of))<;>intro hc<;>(try simp -implicitDefEqProofs (disch:=omega) only [go_sem,hc,e1,e2,e3,e4,hK,hB,hS,hl,hk,h0,hN',rvE_length,vE_length,strE_len,bne_self_eq_false])<;>(try simp only [reduceCtorEq,bD,beq_iff_eq] at hc)<;>(try (exfalso;omega)))|((with_reducible refine alloc_intro (fun ko hko=>?_))<;>(try have hne:=fresh_ne (by assumption) hko)<;>(try have hnk:=fresh_ne hk hko)<;>(try simp only [AH.put_none] at hko))|done)<;>(try simp -implicitDefEqProofs (disch:=omega) only [go_sem,e1,e2,e3,e4,hK,hB,hS,hl,hk,h0,hN',rvE_length,vE_length,strE_len,bne_self_eq_false])))
  all_goals exact tail
set_option maxRecDepth 4000 in
theorem unlike_4 {m : Rv} {v : Vl} (hf : m.L.length * 16 ≤ 100000000000000) (ho : v.Ok) (hs : Sm v m) (h0 : m.K = 4)
    (ih : ∀ x ∈ m.L,∀ (v : Vl),Sm v x → v.Ok → ∀ (g : Nat) (H : AH),H g = some .nodr → ACalls Tryz.prog 11 [.agg [vV v],.agg [.int .i64 x.K,.bool x.B,.int .i64 x.N,.int .i64 x.M,.str x.S,.sl 7 (rvE x.L) .no,.sl 1 (strE x.Keys) .no]] H (fun o H' => o = .ret (.int .i64 0) ∧ H' = H))
    {g : Nat} {H : AH} (hg : H g = some .nodr) : ACalls Tryz.prog 11 [.agg [vV v],.agg [.int .i64 m.K,.bool m.B,.int .i64 m.N,.int .i64 m.M,.str m.S,.sl 7 (rvE m.L) .no,.sl 1 (strE m.Keys) .no]] H (fun o H' => o = .ret (.int .i64 0) ∧ H' = H) := by
  refine ACalls.drop ?_
  cases hs with
  | mk _ _ hK hB hS hl hk hN hP hi =>
  obtain ⟨hP1,hP2⟩ := hP h0
  have tail := unlike_loop hf ho hK hl hk hi ih hg
  have e1 := isB_kind v
  have e2 := isI_kind v
  have e3 := isP_kind v
  have e4 := isT_kind v
  rw [hK,h0] at e1 e2 e3 e4
  rw [h0] at hK hB tail
  simp only [Int.reduceEq,decide_false,decide_true,Bool.false_and,Bool.true_and] at e1 e2 e3 e4 hB
  refine acalls Tryz.func11 c11 r11 (by simp [Tryz.ntmps11]) ?_
  repeat' (first|with_reducible refine go0 ?_|(with_reducible refine am_cnd ?_ ?_<;>intro hc<;>try (exfalso;omega))|((first|with_reducible (first|refine go1 ?_|refine vc_intro ?_|refine need_el ?_|refine vlen_a ?_|refine need_by ?_|refine call_of (bool_calls v) ?_|refine qcall_of (bool_calls v) ?_|refine call_of (int_calls v) ?_|refine qcall_of (int_calls v) ?_|refine call_of (point_calls ho) ?_|refine qcall_of (point_calls ho) ?_|refine call_of (text_calls v) ?_|refine qcall_of (text_calls v) ?_|refine call_of (kind_calls v) ?_|refine qcall_of (kind_calls v) ?_|refine call_at (fun G hl=>items_calls ho (nodr_lec hg hl)) ?_|refine qcall_at (fun G hl=>items_calls ho (nodr_lec hg hl)) ?_|refine call_at (fun G hl=>keys_calls ho (nodr_lec hg hl)) ?_|refine qcall_at (fun G hl=>keys_calls ho (nodr_lec hg hl)) ?_|refine need_lk ?_)|((with_reducible (first|apply gd_not|apply gd_of|apply gq_not|apply gq_of|apply pickB_of))<;>intro hc<;>(try simp -implicitDefEqProofs (disch:=omega) only [go_sem,hc,e1,e2,e3,e4,hK,hB,hS,hl,hk,h0,hP1,hP2,rvE_length,vE_length,strE_len,bne_self_eq_false])<;>(try simp only [reduceCtorEq,bD,beq_iff_eq] at hc)<;>(try (exfalso;omega)))|((with_reducible refine alloc_intro (fun ko hko=>?_))<;>(try have hne:=fresh_ne (by assumption) hko)<;>(try have hnk:=fresh_ne hk hko)<;>(try simp only [AH.put_none] at hko))|done)<;>(try simp -implicitDefEqProofs (disch:=omega) only [go_sem,e1,e2,e3,e4,hK,hB,hS,hl,hk,h0,hP1,hP2,rvE_length,vE_length,strE_len,bne_self_eq_false])))
  all_goals exact tail
set_option maxRecDepth 4000 in
theorem unlike_5 {m : Rv} {v : Vl} (hf : m.L.length * 16 ≤ 100000000000000) (ho : v.Ok) (hs : Sm v m) (h0 : m.K = 5)
    (ih : ∀ x ∈ m.L,∀ (v : Vl),Sm v x → v.Ok → ∀ (g : Nat) (H : AH),H g = some .nodr → ACalls Tryz.prog 11 [.agg [vV v],.agg [.int .i64 x.K,.bool x.B,.int .i64 x.N,.int .i64 x.M,.str x.S,.sl 7 (rvE x.L) .no,.sl 1 (strE x.Keys) .no]] H (fun o H' => o = .ret (.int .i64 0) ∧ H' = H))
    {g : Nat} {H : AH} (hg : H g = some .nodr) : ACalls Tryz.prog 11 [.agg [vV v],.agg [.int .i64 m.K,.bool m.B,.int .i64 m.N,.int .i64 m.M,.str m.S,.sl 7 (rvE m.L) .no,.sl 1 (strE m.Keys) .no]] H (fun o H' => o = .ret (.int .i64 0) ∧ H' = H) := by
  refine ACalls.drop ?_
  cases hs with
  | mk _ _ hK hB hS hl hk hN hP hi =>
  have tail := unlike_loop hf ho hK hl hk hi ih hg
  have e1 := isB_kind v
  have e2 := isI_kind v
  have e3 := isP_kind v
  have e4 := isT_kind v
  rw [hK,h0] at e1 e2 e3 e4
  rw [h0] at hK hB tail
  simp only [Int.reduceEq,decide_false,decide_true,Bool.false_and,Bool.true_and] at e1 e2 e3 e4 hB
  refine acalls Tryz.func11 c11 r11 (by simp [Tryz.ntmps11]) ?_
  repeat' (first|with_reducible refine go0 ?_|(with_reducible refine am_cnd ?_ ?_<;>intro hc<;>try (exfalso;omega))|((first|with_reducible (first|refine go1 ?_|refine vc_intro ?_|refine need_el ?_|refine vlen_a ?_|refine need_by ?_|refine call_of (bool_calls v) ?_|refine qcall_of (bool_calls v) ?_|refine call_of (int_calls v) ?_|refine qcall_of (int_calls v) ?_|refine call_of (point_calls ho) ?_|refine qcall_of (point_calls ho) ?_|refine call_of (text_calls v) ?_|refine qcall_of (text_calls v) ?_|refine call_of (kind_calls v) ?_|refine qcall_of (kind_calls v) ?_|refine call_at (fun G hl=>items_calls ho (nodr_lec hg hl)) ?_|refine qcall_at (fun G hl=>items_calls ho (nodr_lec hg hl)) ?_|refine call_at (fun G hl=>keys_calls ho (nodr_lec hg hl)) ?_|refine qcall_at (fun G hl=>keys_calls ho (nodr_lec hg hl)) ?_|refine need_lk ?_)|((with_reducible (first|apply gd_not|apply gd_of|apply gq_not|apply gq_of|apply pickB_of))<;>intro hc<;>(try simp -implicitDefEqProofs (disch:=omega) only [go_sem,hc,e1,e2,e3,e4,hK,hB,hS,hl,hk,h0,rvE_length,vE_length,strE_len,bne_self_eq_false])<;>(try simp only [reduceCtorEq,bD,beq_iff_eq] at hc)<;>(try (exfalso;omega)))|((with_reducible refine alloc_intro (fun ko hko=>?_))<;>(try have hne:=fresh_ne (by assumption) hko)<;>(try have hnk:=fresh_ne hk hko)<;>(try simp only [AH.put_none] at hko))|done)<;>(try simp -implicitDefEqProofs (disch:=omega) only [go_sem,e1,e2,e3,e4,hK,hB,hS,hl,hk,h0,rvE_length,vE_length,strE_len,bne_self_eq_false])))
  all_goals exact tail
set_option maxRecDepth 4000 in
theorem unlike_6 {m : Rv} {v : Vl} (hf : m.L.length * 16 ≤ 100000000000000) (ho : v.Ok) (hs : Sm v m) (h0 : m.K = 6)
    (ih : ∀ x ∈ m.L,∀ (v : Vl),Sm v x → v.Ok → ∀ (g : Nat) (H : AH),H g = some .nodr → ACalls Tryz.prog 11 [.agg [vV v],.agg [.int .i64 x.K,.bool x.B,.int .i64 x.N,.int .i64 x.M,.str x.S,.sl 7 (rvE x.L) .no,.sl 1 (strE x.Keys) .no]] H (fun o H' => o = .ret (.int .i64 0) ∧ H' = H))
    {g : Nat} {H : AH} (hg : H g = some .nodr) : ACalls Tryz.prog 11 [.agg [vV v],.agg [.int .i64 m.K,.bool m.B,.int .i64 m.N,.int .i64 m.M,.str m.S,.sl 7 (rvE m.L) .no,.sl 1 (strE m.Keys) .no]] H (fun o H' => o = .ret (.int .i64 0) ∧ H' = H) := by
  refine ACalls.drop ?_
  cases hs with
  | mk _ _ hK hB hS hl hk hN hP hi =>
  have tail := unlike_loop hf ho hK hl hk hi ih hg
  have e1 := isB_kind v
  have e2 := isI_kind v
  have e3 := isP_kind v
  have e4 := isT_kind v
  rw [hK,h0] at e1 e2 e3 e4
  rw [h0] at hK hB tail
  simp only [Int.reduceEq,decide_false,decide_true,Bool.false_and,Bool.true_and] at e1 e2 e3 e4 hB
  refine acalls Tryz.func11 c11 r11 (by simp [Tryz.ntmps11]) ?_
  repeat' (first|with_reducible refine go0 ?_|(with_reducible refine am_cnd ?_ ?_<;>intro hc<;>try (exfalso;omega))|((first|with_reducible (first|refine go1 ?_|refine vc_intro ?_|refine need_el ?_|refine vlen_a ?_|refine need_by ?_|refine call_of (bool_calls v) ?_|refine qcall_of (bool_calls v) ?_|refine call_of (int_calls v) ?_|refine qcall_of (int_calls v) ?_|refine call_of (point_calls ho) ?_|refine qcall_of (point_calls ho) ?_|refine call_of (text_calls v) ?_|refine qcall_of (text_calls v) ?_|refine call_of (kind_calls v) ?_|refine qcall_of (kind_calls v) ?_|refine call_at (fun G hl=>items_calls ho (nodr_lec hg hl)) ?_|refine qcall_at (fun G hl=>items_calls ho (nodr_lec hg hl)) ?_|refine call_at (fun G hl=>keys_calls ho (nodr_lec hg hl)) ?_|refine qcall_at (fun G hl=>keys_calls ho (nodr_lec hg hl)) ?_|refine need_lk ?_)|((with_reducible (first|apply gd_not|apply gd_of|apply gq_not|apply gq_of|apply pickB_of))<;>intro hc<;>(try simp -implicitDefEqProofs (disch:=omega) only [go_sem,hc,e1,e2,e3,e4,hK,hB,hS,hl,hk,h0,rvE_length,vE_length,strE_len,bne_self_eq_false])<;>(try simp only [reduceCtorEq,bD,beq_iff_eq] at hc)<;>(try (exfalso;omega)))|((with_reducible refine alloc_intro (fun ko hko=>?_))<;>(try have hne:=fresh_ne (by assumption) hko)<;>(try have hnk:=fresh_ne hk hko)<;>(try simp only [AH.put_none] at hko))|done)<;>(try simp -implicitDefEqProofs (disch:=omega) only [go_sem,e1,e2,e3,e4,hK,hB,hS,hl,hk,h0,rvE_length,vE_length,strE_len,bne_self_eq_false])))
  all_goals exact tail
set_option maxRecDepth 4000 in
theorem unlike_7 {m : Rv} {v : Vl} (hf : m.L.length * 16 ≤ 100000000000000) (ho : v.Ok) (hs : Sm v m) (h0 : m.K = 7)
    (ih : ∀ x ∈ m.L,∀ (v : Vl),Sm v x → v.Ok → ∀ (g : Nat) (H : AH),H g = some .nodr → ACalls Tryz.prog 11 [.agg [vV v],.agg [.int .i64 x.K,.bool x.B,.int .i64 x.N,.int .i64 x.M,.str x.S,.sl 7 (rvE x.L) .no,.sl 1 (strE x.Keys) .no]] H (fun o H' => o = .ret (.int .i64 0) ∧ H' = H))
    {g : Nat} {H : AH} (hg : H g = some .nodr) : ACalls Tryz.prog 11 [.agg [vV v],.agg [.int .i64 m.K,.bool m.B,.int .i64 m.N,.int .i64 m.M,.str m.S,.sl 7 (rvE m.L) .no,.sl 1 (strE m.Keys) .no]] H (fun o H' => o = .ret (.int .i64 0) ∧ H' = H) := by
  refine ACalls.drop ?_
  cases hs with
  | mk _ _ hK hB hS hl hk hN hP hi =>
  have tail := unlike_loop hf ho hK hl hk hi ih hg
  have e1 := isB_kind v
  have e2 := isI_kind v
  have e3 := isP_kind v
  have e4 := isT_kind v
  rw [hK,h0] at e1 e2 e3 e4
  rw [h0] at hK hB tail
  simp only [Int.reduceEq,decide_false,decide_true,Bool.false_and,Bool.true_and] at e1 e2 e3 e4 hB
  refine acalls Tryz.func11 c11 r11 (by simp [Tryz.ntmps11]) ?_
  repeat' (first|with_reducible refine go0 ?_|(with_reducible refine am_cnd ?_ ?_<;>intro hc<;>try (exfalso;omega))|((first|with_reducible (first|refine go1 ?_|refine vc_intro ?_|refine need_el ?_|refine vlen_a ?_|refine need_by ?_|refine call_of (bool_calls v) ?_|refine qcall_of (bool_calls v) ?_|refine call_of (int_calls v) ?_|refine qcall_of (int_calls v) ?_|refine call_of (point_calls ho) ?_|refine qcall_of (point_calls ho) ?_|refine call_of (text_calls v) ?_|refine qcall_of (text_calls v) ?_|refine call_of (kind_calls v) ?_|refine qcall_of (kind_calls v) ?_|refine call_at (fun G hl=>items_calls ho (nodr_lec hg hl)) ?_|refine qcall_at (fun G hl=>items_calls ho (nodr_lec hg hl)) ?_|refine call_at (fun G hl=>keys_calls ho (nodr_lec hg hl)) ?_|refine qcall_at (fun G hl=>keys_calls ho (nodr_lec hg hl)) ?_|refine need_lk ?_)|((with_reducible (first|apply gd_not|apply gd_of|apply gq_not|apply gq_of|apply pickB_of))<;>intro hc<;>(try simp -implicitDefEqProofs (disch:=omega) only [go_sem,hc,e1,e2,e3,e4,hK,hB,hS,hl,hk,h0,rvE_length,vE_length,strE_len,bne_self_eq_false])<;>(try simp only [reduceCtorEq,bD,beq_iff_eq] at hc)<;>(try (exfalso;omega)))|((with_reducible refine alloc_intro (fun ko hko=>?_))<;>(try have hne:=fresh_ne (by assumption) hko)<;>(try have hnk:=fresh_ne hk hko)<;>(try simp only [AH.put_none] at hko))|done)<;>(try simp -implicitDefEqProofs (disch:=omega) only [go_sem,e1,e2,e3,e4,hK,hB,hS,hl,hk,h0,rvE_length,vE_length,strE_len,bne_self_eq_false])))
  all_goals exact tail
theorem unlike_calls : ∀ (m : Rv) (v : Vl),Sm v m → v.Ok → ∀ (g : Nat) (H : AH),H g = some .nodr → ACalls Tryz.prog 11 [.agg [vV v],.agg [.int .i64 m.K,.bool m.B,.int .i64 m.N,.int .i64 m.M,.str m.S,.sl 7 (rvE m.L) .no,.sl 1 (strE m.Keys) .no]] H (fun o H' => o = .ret (.int .i64 0) ∧ H' = H) := by
  refine Rv.ind fun m ih v hs ho g H hg => ?_
  have hf : m.L.length * 16 ≤ 100000000000000 := by
    cases hs with
    | mk _ _ hK hB hS hl hk hN hP hi => rw [← hl]; exact items_len ho
  have hK : v.kind = m.K := by cases hs; assumption
  rcases (show m.K = 0 ∨ m.K = 1 ∨ m.K = 2 ∨ m.K = 3 ∨ m.K = 4 ∨ m.K = 5 ∨ m.K = 6 ∨ m.K = 7 by rw [← hK]; cases v <;> simp [Vl.kind]) with h0 | h0 | h0 | h0 | h0 | h0 | h0 | h0
  · exact unlike_0 hf ho hs h0 ih hg
  · exact unlike_1 hf ho hs h0 ih hg
  · exact unlike_2 hf ho hs h0 ih hg
  · exact unlike_3 hf ho hs h0 ih hg
  · exact unlike_4 hf ho hs h0 ih hg
  · exact unlike_5 hf ho hs h0 ih hg
  · exact unlike_6 hf ho hs h0 ih hg
  · exact unlike_7 hf ho hs h0 ih hg
end Go.Proofs.YtkldmgnhbomknaaGreat
