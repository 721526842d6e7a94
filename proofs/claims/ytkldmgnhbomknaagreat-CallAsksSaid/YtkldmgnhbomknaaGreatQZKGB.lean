/- Contracts of functions of the given program. Conditions: as each theorem says. -/
import Derived.Test.YtkldmgnhbomknaaGreatQZKGA
import Derived.Test.YtkldmgnhbomknaaGreatKVF
import Derived.Test.YtkldmgnhbomknaaGreatVmV
set_option linter.unusedVariables false
set_option linter.unusedSimpArgs false
namespace Go.Proofs.YtkldmgnhbomknaaGreat
open Go.Vm Go.Sort
attribute [local go_sem] eq_self decide_true decide_false AH.put_ne
attribute [local go_sem_proc] Nat.reduceBEq Nat.reduceAdd Nat.reduceSub Nat.reduceMul Nat.reduceEqDiff Nat.reduceLeDiff Nat.reduceLT Int.reduceLE Int.reduceLT Int.reduceToNat Int.reduceAdd Int.reduceEq Int.reduceNeg
attribute [local go_sem] List.drop_zero toNat_succ Nat.sub_zero Int.toNat_natCast Option.map_some Int.natCast_nonneg decide_eq_true_eq decide_eq_false_iff_not
/- flange/value.near -/
abbrev k66_0 : MC :=
 (.seq (.reg [
 mv 3 0,
 vl 4 (.bin .geq .num (.t 3) (.c (.int .i64 (-9007199254740992)))),
 mv 5 4,
 ⟨some 6,(some (5,true)),.val (.mv (.t 0))⟩,
 ⟨some 7,(some (5,true)),.val (.bin .leq .num (.t 6) (.c (.int .i64 9007199254740992)))⟩,
 vl 8 (.pick (.t 5) (.t 7) (.c (.bool false))),
 mv 2 8] [2]) (.ret))
abbrev k66 : MC :=
 (.seq (.reg [
 vl 2 (.mv (.c (.bool false)))] [0]) k66_0)
theorem c66 : Tryz.f66.body.bind (mcOf Tryz.prog (List.contains [] ·) (List.getD [([],[0]),([],[2])] · ([],[])) 9) = some k66 := by kernel_rfl
theorem r66 : rvsOf Tryz.prog Tryz.f66.results.toList = some [.tmp 2] := by kernel_rfl
/- flange/value.Point -/
abbrev k43_0 : MC :=
 .cond (.t 13) ((.seq (.reg [
 ⟨some 14,none,.build [.nilIface] []⟩,
 ⟨none,none,.store 1 (.t 4) (.t 14)⟩,
 vl 5 (.mv (.c (.int .i64 2)))] [4,5]) (.ret))) (.skip)
abbrev k43_1 : MC :=
 (.seq (.reg [
 mv 15 0,
 vl 16 (.yo .i2f [(.t 15)]),
 mv 17 1,
 vl 18 (.yo .i2f [(.t 17)]),
 vl 19 (.yo .cplx [(.t 16),(.t 18)]),
 vl 20 (.mkif 116 (.t 19)),
 ⟨some 21,none,.build [.nilIface] [(0,1,(.t 20))]⟩,
 ⟨none,none,.store 1 (.t 4) (.t 21)⟩,
 vl 5 (.mv (.c (.int .i64 0)))] [4,5]) (.ret))
abbrev k43_2 : MC :=
 (.seq ((.seq (.reg [
 mv 6 0,
 ⟨some 7,none,.call 66 [(.t 6)]⟩,
 vl 8 (.not (.t 7)),
 mv 9 8,
 ⟨some 10,(some (9,false)),.val (.mv (.t 1))⟩,
 ⟨some 11,(some (9,false)),.call 66 [(.t 10)]⟩,
 ⟨some 12,(some (9,false)),.val (.not (.t 11))⟩,
 vl 13 (.pick (.t 9) (.c (.bool true)) (.t 12))] [0,1,4,13]) k43_0)) k43_1)
abbrev k43 : MC :=
 (.seq (.reg [
 ⟨some 4,none,.zalloc [.nilIface]⟩,
 vl 5 (.mv (.c (.int .i64 0)))] [0,1,4]) k43_2)
theorem c43 : Tryz.f43.body.bind (mcOf Tryz.prog (List.contains [] ·) (List.getD [([],[0,1,4]),([],[0,1,4,13]),([],[4,5]),([],[4,5])] · ([],[])) 22) = some k43 := by kernel_rfl
theorem r43 : rvsOf Tryz.prog Tryz.f43.results.toList = some [.cell 4 true 1,.tmp 5] := by kernel_rfl
/- (flange/value.Value).Point -/
abbrev k34_0 : MC :=
 (.seq (.reg [
 mv 13 5,
 vl 14 (.yo .creal [(.t 13)]),
 vl 15 (.yo (.f2i .i64) [(.t 14)]),
 mv 16 5,
 vl 17 (.yo .cimag [(.t 16)]),
 vl 18 (.yo (.f2i .i64) [(.t 17)]),
 mv 19 6,
 mv 2 15,
 mv 3 18,
 mv 4 19] [2,3,4]) (.ret))
abbrev k34_1 : MC :=
 (.seq (.reg [
 vl 8 (.faddr 0 (.t 1)),
 vl 9 (.load false 1 (.t 8)),
 vl 10 (.tya 116 true (.complex .f64 0 0) (.t 9)),
 mv 7 10,
 vl 11 (.ext (.t 7) 0),
 vl 12 (.ext (.t 7) 1),
 mv 5 11,
 mv 6 12] [5,6]) k34_0)
abbrev k34 : MC :=
 (.seq (.reg [
 ⟨some 1,none,.boxi (.t 0)⟩,
 vl 2 (.mv (.c (.int .i64 0))),
 vl 3 (.mv (.c (.int .i64 0))),
 vl 4 (.mv (.c (.bool false)))] [1]) k34_1)
theorem c34 : Tryz.f34.body.bind (mcOf Tryz.prog (List.contains [1] ·) (List.getD [([],[1]),([],[5,6]),([],[2,3,4])] · ([],[])) 20) = some k34 := by kernel_rfl
theorem r34 : rvsOf Tryz.prog Tryz.f34.results.toList = some [.tmp 2,.tmp 3,.tmp 4] := by kernel_rfl
def nearB (n : Int) : Bool := decide (-9007199254740992 ≤ n ∧ n ≤ 9007199254740992)
theorem near_calls (n : Int) (H : AH) : ACalls Tryz.prog 66 [.int .i64 n] H (fun o H' => o = .ret (.bool (nearB n)) ∧ H' = H) := by
  refine ACalls.drop ?_
  refine acalls Tryz.func66 c66 r66 (by simp [Tryz.ntmps66]) ?_
  repeat' (first|with_reducible refine go0 ?_|(with_reducible refine am_cnd ?_ ?_<;>intro hc<;>try (exfalso;omega))|((first|with_reducible (first|refine go1 ?_|refine vc_intro ?_|refine need_el ?_|refine vlen_a ?_|refine need_by ?_|refine need_lk ?_)|((with_reducible (first|apply gd_not|apply gd_of|apply gq_not|apply gq_of|apply pickB_of))<;>intro hc<;>(try simp -implicitDefEqProofs (disch:=omega) only [go_sem,hc])<;>(try simp only [reduceCtorEq,bD,beq_iff_eq] at hc)<;>(try (exfalso;omega)))|done)<;>(try simp -implicitDefEqProofs (disch:=omega) only [go_sem])))
  all_goals refine end_eq ?_ (AH.le_refl _)
  all_goals (unfold nearB; simp; try omega)
def ptV (n m : Int) : Vl := if nearB n && nearB m then .pt n m else .nul
def ptE (n m : Int) : Int := if nearB n && nearB m then 0 else 2
theorem mpoint_calls (n m : Int) (H : AH) : ACalls Tryz.prog 43 [.int .i64 n,.int .i64 m] H (fun o H' => o = .ret (.tuple [.agg [vV (ptV n m)],.int .i64 (ptE n m)]) ∧ H' = H) := by
  refine ACalls.drop ?_
  unfold ptV ptE
  refine acalls Tryz.func43 c43 r43 (by simp [Tryz.ntmps43]) ?_
  cases hn : nearB n <;> cases hm : nearB m
  · repeat' (first|with_reducible refine go0 ?_|(with_reducible refine am_cnd ?_ ?_<;>intro hc<;>try (exfalso;omega))|((first|with_reducible (first|refine go1 ?_|refine vc_intro ?_|refine need_el ?_|refine vlen_a ?_|refine need_by ?_|refine call_of (near_calls _) ?_|refine qcall_of (near_calls _) ?_|refine need_lk ?_)|((with_reducible (first|apply gd_not|apply gd_of|apply gq_not|apply gq_of|apply pickB_of))<;>intro hc<;>(try simp -implicitDefEqProofs (disch:=omega) only [go_sem,hc,hn,hm,Bool.not_false,Bool.not_true])<;>(try simp only [reduceCtorEq,bD,beq_iff_eq] at hc)<;>(try (exfalso;omega)))|((with_reducible refine alloc_intro (fun ko hko=>?_))<;>(try have hne:=fresh_ne (by assumption) hko)<;>(try simp only [AH.put_none] at hko))|done)<;>(try simp -implicitDefEqProofs (disch:=omega) only [go_sem,hn,hm,Bool.not_false,Bool.not_true])))
    all_goals simp only [Bool.and_false,Bool.false_and,Bool.and_true,if_true,Bool.false_eq_true,if_false,vV_nul]
    all_goals (refine drop_end (by (first | exact fun _ _ h => h | (intro s x h; first | exact no_sub _ h | exact nil_no _ h | exact AccP.sub (by assumption) _ _ h | (refine agg_sub rfl ?_ x h; repeat (first | exact .nil | refine .cons (fun _ h => h) ?_ | refine .cons (fun _ h => nil_no _ h) ?_ | refine .cons (fun _ h => no_sub _ h) ?_ | refine .cons (fun _ h => AccP.sub (by assumption) _ _ h) ?_)) | (refine tuple_sub ?_ x h; repeat (first | exact .nil | refine .cons (fun _ h => h) ?_ | refine .cons (fun _ h => nil_no _ h) ?_ | refine .cons (fun _ h => no_sub _ h) ?_ | refine .cons (fun _ h => AccP.sub (by assumption) _ _ h) ?_ | refine .cons (fun _ h => agg_sub rfl (by repeat (first | exact .nil | refine .cons (fun _ h => h) ?_ | refine .cons (fun _ h => nil_no _ h) ?_ | refine .cons (fun _ h => no_sub _ h) ?_ | refine .cons (fun _ h => AccP.sub (by assumption) _ _ h) ?_)) _ h) ?_))))) (by (repeat (first | exact AH.le_refl _ | assumption | exact AccP.le (by assumption) | refine AH.le_put ?_ (by first | assumption | exact none_of_le (by assumption) (by assumption) | exact And.right (by assumption) | exact And.right (And.right (by assumption))) _ | refine AH.le_trans ?_ (AccP.le (by assumption))))))
  · repeat' (first|with_reducible refine go0 ?_|(with_reducible refine am_cnd ?_ ?_<;>intro hc<;>try (exfalso;omega))|((first|with_reducible (first|refine go1 ?_|refine vc_intro ?_|refine need_el ?_|refine vlen_a ?_|refine need_by ?_|refine call_of (near_calls _) ?_|refine qcall_of (near_calls _) ?_|refine need_lk ?_)|((with_reducible (first|apply gd_not|apply gd_of|apply gq_not|apply gq_of|apply pickB_of))<;>intro hc<;>(try simp -implicitDefEqProofs (disch:=omega) only [go_sem,hc,hn,hm,Bool.not_false,Bool.not_true])<;>(try simp only [reduceCtorEq,bD,beq_iff_eq] at hc)<;>(try (exfalso;omega)))|((with_reducible refine alloc_intro (fun ko hko=>?_))<;>(try have hne:=fresh_ne (by assumption) hko)<;>(try simp only [AH.put_none] at hko))|done)<;>(try simp -implicitDefEqProofs (disch:=omega) only [go_sem,hn,hm,Bool.not_false,Bool.not_true])))
    all_goals simp only [Bool.and_false,Bool.false_and,Bool.and_true,if_true,Bool.false_eq_true,if_false,vV_nul]
    all_goals (refine drop_end (by (first | exact fun _ _ h => h | (intro s x h; first | exact no_sub _ h | exact nil_no _ h | exact AccP.sub (by assumption) _ _ h | (refine agg_sub rfl ?_ x h; repeat (first | exact .nil | refine .cons (fun _ h => h) ?_ | refine .cons (fun _ h => nil_no _ h) ?_ | refine .cons (fun _ h => no_sub _ h) ?_ | refine .cons (fun _ h => AccP.sub (by assumption) _ _ h) ?_)) | (refine tuple_sub ?_ x h; repeat (first | exact .nil | refine .cons (fun _ h => h) ?_ | refine .cons (fun _ h => nil_no _ h) ?_ | refine .cons (fun _ h => no_sub _ h) ?_ | refine .cons (fun _ h => AccP.sub (by assumption) _ _ h) ?_ | refine .cons (fun _ h => agg_sub rfl (by repeat (first | exact .nil | refine .cons (fun _ h => h) ?_ | refine .cons (fun _ h => nil_no _ h) ?_ | refine .cons (fun _ h => no_sub _ h) ?_ | refine .cons (fun _ h => AccP.sub (by assumption) _ _ h) ?_)) _ h) ?_))))) (by (repeat (first | exact AH.le_refl _ | assumption | exact AccP.le (by assumption) | refine AH.le_put ?_ (by first | assumption | exact none_of_le (by assumption) (by assumption) | exact And.right (by assumption) | exact And.right (And.right (by assumption))) _ | refine AH.le_trans ?_ (AccP.le (by assumption))))))
  · repeat' (first|with_reducible refine go0 ?_|(with_reducible refine am_cnd ?_ ?_<;>intro hc<;>try (exfalso;omega))|((first|with_reducible (first|refine go1 ?_|refine vc_intro ?_|refine need_el ?_|refine vlen_a ?_|refine need_by ?_|refine call_of (near_calls _) ?_|refine qcall_of (near_calls _) ?_|refine need_lk ?_)|((with_reducible (first|apply gd_not|apply gd_of|apply gq_not|apply gq_of|apply pickB_of))<;>intro hc<;>(try simp -implicitDefEqProofs (disch:=omega) only [go_sem,hc,hn,hm,Bool.not_false,Bool.not_true])<;>(try simp only [reduceCtorEq,bD,beq_iff_eq] at hc)<;>(try (exfalso;omega)))|((with_reducible refine alloc_intro (fun ko hko=>?_))<;>(try have hne:=fresh_ne (by assumption) hko)<;>(try simp only [AH.put_none] at hko))|done)<;>(try simp -implicitDefEqProofs (disch:=omega) only [go_sem,hn,hm,Bool.not_false,Bool.not_true])))
    all_goals simp only [Bool.and_false,Bool.false_and,Bool.and_true,if_true,Bool.false_eq_true,if_false,vV_nul]
    all_goals (refine drop_end (by (first | exact fun _ _ h => h | (intro s x h; first | exact no_sub _ h | exact nil_no _ h | exact AccP.sub (by assumption) _ _ h | (refine agg_sub rfl ?_ x h; repeat (first | exact .nil | refine .cons (fun _ h => h) ?_ | refine .cons (fun _ h => nil_no _ h) ?_ | refine .cons (fun _ h => no_sub _ h) ?_ | refine .cons (fun _ h => AccP.sub (by assumption) _ _ h) ?_)) | (refine tuple_sub ?_ x h; repeat (first | exact .nil | refine .cons (fun _ h => h) ?_ | refine .cons (fun _ h => nil_no _ h) ?_ | refine .cons (fun _ h => no_sub _ h) ?_ | refine .cons (fun _ h => AccP.sub (by assumption) _ _ h) ?_ | refine .cons (fun _ h => agg_sub rfl (by repeat (first | exact .nil | refine .cons (fun _ h => h) ?_ | refine .cons (fun _ h => nil_no _ h) ?_ | refine .cons (fun _ h => no_sub _ h) ?_ | refine .cons (fun _ h => AccP.sub (by assumption) _ _ h) ?_)) _ h) ?_))))) (by (repeat (first | exact AH.le_refl _ | assumption | exact AccP.le (by assumption) | refine AH.le_put ?_ (by first | assumption | exact none_of_le (by assumption) (by assumption) | exact And.right (by assumption) | exact And.right (And.right (by assumption))) _ | refine AH.le_trans ?_ (AccP.le (by assumption))))))
  · repeat' (first|with_reducible refine go0 ?_|(with_reducible refine am_cnd ?_ ?_<;>intro hc<;>try (exfalso;omega))|((first|with_reducible (first|refine go1 ?_|refine vc_intro ?_|refine need_el ?_|refine vlen_a ?_|refine need_by ?_|refine call_of (near_calls _) ?_|refine qcall_of (near_calls _) ?_|refine need_lk ?_)|((with_reducible (first|apply gd_not|apply gd_of|apply gq_not|apply gq_of|apply pickB_of))<;>intro hc<;>(try simp -implicitDefEqProofs (disch:=omega) only [go_sem,hc,hn,hm,Bool.not_false,Bool.not_true])<;>(try simp only [reduceCtorEq,bD,beq_iff_eq] at hc)<;>(try (exfalso;omega)))|((with_reducible refine alloc_intro (fun ko hko=>?_))<;>(try have hne:=fresh_ne (by assumption) hko)<;>(try simp only [AH.put_none] at hko))|done)<;>(try simp -implicitDefEqProofs (disch:=omega) only [go_sem,hn,hm,Bool.not_false,Bool.not_true])))
    all_goals simp only [Bool.and_false,Bool.false_and,Bool.and_true,if_true,Bool.false_eq_true,if_false,vV_pt,fl]
    all_goals (refine drop_end (by (first | exact fun _ _ h => h | (intro s x h; first | exact no_sub _ h | exact nil_no _ h | exact AccP.sub (by assumption) _ _ h | (refine agg_sub rfl ?_ x h; repeat (first | exact .nil | refine .cons (fun _ h => h) ?_ | refine .cons (fun _ h => nil_no _ h) ?_ | refine .cons (fun _ h => no_sub _ h) ?_ | refine .cons (fun _ h => AccP.sub (by assumption) _ _ h) ?_)) | (refine tuple_sub ?_ x h; repeat (first | exact .nil | refine .cons (fun _ h => h) ?_ | refine .cons (fun _ h => nil_no _ h) ?_ | refine .cons (fun _ h => no_sub _ h) ?_ | refine .cons (fun _ h => AccP.sub (by assumption) _ _ h) ?_ | refine .cons (fun _ h => agg_sub rfl (by repeat (first | exact .nil | refine .cons (fun _ h => h) ?_ | refine .cons (fun _ h => nil_no _ h) ?_ | refine .cons (fun _ h => no_sub _ h) ?_ | refine .cons (fun _ h => AccP.sub (by assumption) _ _ h) ?_)) _ h) ?_))))) (by (repeat (first | exact AH.le_refl _ | assumption | exact AccP.le (by assumption) | refine AH.le_put ?_ (by first | assumption | exact none_of_le (by assumption) (by assumption) | exact And.right (by assumption) | exact And.right (And.right (by assumption))) _ | refine AH.le_trans ?_ (AccP.le (by assumption))))))
def Vl.isP : Vl → Int × Int × Bool
  | .pt n m => (n,m,true)
  | _ => (0,0,false)
theorem fl_back {n : Int} (h1 : -9007199254740992 ≤ n) (h2 : n ≤ 9007199254740992) : floatToIntVal .f64 (fl n) .i64 = some n := near_back n h1 h2
theorem fl_zero : floatToIntVal .f64 0 .i64 = some 0 := by decide
theorem point_calls {v : Vl} (ho : v.Ok) (H : AH) : ACalls Tryz.prog 34 [.agg [vV v]] H (fun o H' => o = .ret (.tuple [.int .i64 v.isP.1,.int .i64 v.isP.2.1,.bool v.isP.2.2]) ∧ H' = H) := by
  refine ACalls.drop ?_
  refine acalls Tryz.func34 c34 r34 (by simp [Tryz.ntmps34]) ?_
  cases v
  case pt n m =>
    rw [vV_pt]
    cases ho with
    | pt _ _ h1 h2 h3 h4 =>
      repeat' (first|with_reducible refine go0 ?_|(with_reducible refine am_cnd ?_ ?_<;>intro hc<;>try (exfalso;omega))|((first|with_reducible (first|refine go1 ?_|refine vc_intro ?_|refine need_el ?_|refine vlen_a ?_|refine need_by ?_|refine need_lk ?_)|((with_reducible refine alloc_intro (fun ko hko=>?_))<;>(try have hne:=fresh_ne (by assumption) hko)<;>(try simp only [AH.put_none] at hko))|done)<;>(try simp -implicitDefEqProofs (disch:=omega) only [go_sem,true_or,or_true,true_and,fl_back h1 h2,fl_back h3 h4])))
      all_goals (refine drop_end (by (first | exact fun _ _ h => h | (intro s x h; first | exact no_sub _ h | exact nil_no _ h | exact AccP.sub (by assumption) _ _ h | (refine agg_sub rfl ?_ x h; repeat (first | exact .nil | refine .cons (fun _ h => h) ?_ | refine .cons (fun _ h => nil_no _ h) ?_ | refine .cons (fun _ h => no_sub _ h) ?_ | refine .cons (fun _ h => AccP.sub (by assumption) _ _ h) ?_)) | (refine tuple_sub ?_ x h; repeat (first | exact .nil | refine .cons (fun _ h => h) ?_ | refine .cons (fun _ h => nil_no _ h) ?_ | refine .cons (fun _ h => no_sub _ h) ?_ | refine .cons (fun _ h => AccP.sub (by assumption) _ _ h) ?_ | refine .cons (fun _ h => agg_sub rfl (by repeat (first | exact .nil | refine .cons (fun _ h => h) ?_ | refine .cons (fun _ h => nil_no _ h) ?_ | refine .cons (fun _ h => no_sub _ h) ?_ | refine .cons (fun _ h => AccP.sub (by assumption) _ _ h) ?_)) _ h) ?_))))) (by (repeat (first | exact AH.le_refl _ | assumption | exact AccP.le (by assumption) | refine AH.le_put ?_ (by first | assumption | exact none_of_le (by assumption) (by assumption) | exact And.right (by assumption) | exact And.right (And.right (by assumption))) _ | refine AH.le_trans ?_ (AccP.le (by assumption))))))
  all_goals simp only [vV_nul,vV_unk,vV_bool,vV_int,vV_pt,vV_text,vV_list,vV_map]
  repeat' (first|with_reducible refine go0 ?_|(with_reducible refine am_cnd ?_ ?_<;>intro hc<;>try (exfalso;omega))|((first|with_reducible (first|refine go1 ?_|refine vc_intro ?_|refine need_el ?_|refine vlen_a ?_|refine need_by ?_|refine need_lk ?_)|((with_reducible refine alloc_intro (fun ko hko=>?_))<;>(try have hne:=fresh_ne (by assumption) hko)<;>(try simp only [AH.put_none] at hko))|done)<;>(try simp -implicitDefEqProofs (disch:=omega) only [go_sem,true_or,or_true,true_and,fl_zero])))
  all_goals (refine drop_end (by (first | exact fun _ _ h => h | (intro s x h; first | exact no_sub _ h | exact nil_no _ h | exact AccP.sub (by assumption) _ _ h | (refine agg_sub rfl ?_ x h; repeat (first | exact .nil | refine .cons (fun _ h => h) ?_ | refine .cons (fun _ h => nil_no _ h) ?_ | refine .cons (fun _ h => no_sub _ h) ?_ | refine .cons (fun _ h => AccP.sub (by assumption) _ _ h) ?_)) | (refine tuple_sub ?_ x h; repeat (first | exact .nil | refine .cons (fun _ h => h) ?_ | refine .cons (fun _ h => nil_no _ h) ?_ | refine .cons (fun _ h => no_sub _ h) ?_ | refine .cons (fun _ h => AccP.sub (by assumption) _ _ h) ?_ | refine .cons (fun _ h => agg_sub rfl (by repeat (first | exact .nil | refine .cons (fun _ h => h) ?_ | refine .cons (fun _ h => nil_no _ h) ?_ | refine .cons (fun _ h => no_sub _ h) ?_ | refine .cons (fun _ h => AccP.sub (by assumption) _ _ h) ?_)) _ h) ?_))))) (by (repeat (first | exact AH.le_refl _ | assumption | exact AccP.le (by assumption) | refine AH.le_put ?_ (by first | assumption | exact none_of_le (by assumption) (by assumption) | exact And.right (by assumption) | exact And.right (And.right (by assumption))) _ | refine AH.le_trans ?_ (AccP.le (by assumption))))))
end Go.Proofs.YtkldmgnhbomknaaGreat
namespace Go.Proofs.YtkldmgnhbomknaaGreat
open Go.Vm Go.Sort
attribute [local go_sem] eq_self decide_true decide_false AH.put_ne
attribute [local go_sem_proc] Nat.reduceBEq Nat.reduceAdd Nat.reduceSub Nat.reduceMul Nat.reduceEqDiff Nat.reduceLeDiff Nat.reduceLT Int.reduceLE Int.reduceLT Int.reduceToNat Int.reduceAdd Int.reduceEq Int.reduceNeg
attribute [local go_sem] List.drop_zero toNat_succ Nat.sub_zero Int.toNat_natCast Option.map_some Int.natCast_nonneg decide_eq_true_eq decide_eq_false_iff_not
/- flange/value.Map -/
abbrev k46_0 : MC :=
 .cond (.t 15) ((.seq (.reg [
 ⟨some 16,none,.build [.nilIface] []⟩,
 ⟨none,none,.store 1 (.t 4) (.t 16)⟩,
 vl 5 (.mv (.c (.int .i64 1)))] [4,5]) (.ret))) (.skip)
abbrev k46_1 : MC :=
 .cond (.t 31) ((.seq (.reg [
 ⟨some 32,none,.build [.nilIface] []⟩,
 ⟨none,none,.store 1 (.t 4) (.t 32)⟩,
 vl 5 (.mv (.c (.int .i64 9)))] [4,5]) (.ret))) (.skip)
abbrev k46_2 : MC :=
 (.seq (.reg [
 mv 31 10] [1,4,6,7,8,18,19,20,31]) k46_1)
abbrev k46_3 : MC :=
 .reg [
 mv 33 6,
 mv 34 8,
 mv 35 1,
 mv 36 7,
 vl 37 (.iaddr 1 (.t 35) (.t 36)),
 vl 38 (.load true 1 (.t 37)),
 ⟨none,none,.xo (.mset .str) [(.t 33),(.t 34),(.t 38)]⟩] [1,4,6,18,19,20]
abbrev k46_4 : MC :=
 (.seq ((.seq (.reg [
 mv 26 6,
 mv 27 8,
 vl 28 (.yo (.look .str (.agg [.nilIface]) true) [(.t 26),(.t 27)]),
 mv 25 28,
 vl 29 (.ext (.t 25) 0),
 vl 30 (.ext (.t 25) 1),
 ⟨some 9,none,.zalloc [.nilIface]⟩,
 ⟨none,none,.store 1 (.t 9) (.t 29)⟩,
 mv 10 30] [1,4,6,7,8,10,18,19,20]) k46_2)) k46_3)
abbrev k46_5 : MC :=
 .reg [
 vl 39 (.bin .add .num (.t 20) (.c (.int .i64 1))),
 mv 20 39] [1,4,6,18,19,20]
abbrev k46_6 : MC :=
 (.seq (.block 1 ((.seq (.reg [
 mv 22 20,
 vl 23 (.iaddr 1 (.t 18) (.t 20)),
 vl 24 (.load false 1 (.t 23)),
 mv 7 22,
 mv 8 24] [1,4,6,7,8,18,19,20]) k46_4))) k46_5)
abbrev k46_7 : MC :=
 (.seq (.cond (.t 21) (.skip) (.exit 0)) k46_6)
abbrev k46_8 : MC :=
 (.seq (.reg [
 vl 21 (.bin .lss .num (.t 20) (.t 19))] [1,4,6,18,19,20,21]) k46_7)
abbrev k46_9 : MC :=
 .block 0 (.loop k46_8)
abbrev k46_10 : MC :=
 (.seq (.reg [
 mv 40 6,
 vl 41 (.mkif 123 (.t 40)),
 ⟨some 42,none,.build [.nilIface] [(0,1,(.t 41))]⟩,
 ⟨none,none,.store 1 (.t 4) (.t 42)⟩,
 vl 5 (.mv (.c (.int .i64 0)))] [4,5]) (.ret))
abbrev k46_11 : MC :=
 (.seq ((.seq (.reg [
 mv 18 0,
 vl 19 (.len .sl (.t 18)),
 vl 20 (.mv (.c (.int .i64 0)))] [1,4,6,18,19,20]) k46_9)) k46_10)
abbrev k46_12 : MC :=
 (.seq (.reg [
 ⟨some 17,none,.xo .mkmap []⟩,
 mv 6 17] [0,1,4,6]) k46_11)
abbrev k46_13 : MC :=
 (.seq ((.seq (.reg [
 mv 11 0,
 vl 12 (.len .sl (.t 11)),
 mv 13 1,
 vl 14 (.len .sl (.t 13)),
 vl 15 (.bin .neq .num (.t 12) (.t 14))] [0,1,4,15]) k46_0)) k46_12)
abbrev k46 : MC :=
 (.seq (.reg [
 ⟨some 4,none,.zalloc [.nilIface]⟩,
 vl 5 (.mv (.c (.int .i64 0)))] [0,1,4]) k46_13)
theorem c46 : Tryz.f46.body.bind (mcOf Tryz.prog (List.contains [] ·) (List.getD [([],[0,1,4]),([],[0,1,4,15]),([],[4,5]),([],[0,1,4,6]),([],[1,4,6,18,19,20]),([],[1,4,6,18,19,20,21]),([],[1,4,6,7,8,18,19,20]),([],[1,4,6,7,8,10,18,19,20]),([],[1,4,6,7,8,18,19,20,31]),([],[4,5]),([],[1,4,6,18,19,20]),([],[1,4,6,18,19,20]),([],[4,5])] · ([],[])) 43) = some k46 := by kernel_rfl
theorem r46 : rvsOf Tryz.prog Tryz.f46.results.toList = some [.cell 4 true 1,.tmp 5] := by kernel_rfl
def mkR (acc : List (List UInt8 × Vl)) : List (List UInt8 × Vl) → Option (List (List UInt8 × Vl))
  | [] => some acc
  | p :: r => if (fnd p.1 acc).isSome then none else mkR (acc ++ [p]) r
def mapR (ks : List (List UInt8)) (l : List Vl) : Vl × Int :=
  if ks.length ≠ l.length then (.nul,1) else match mkR [] (ks.zip l) with
  | none => (.nul,9)
  | some es => (.map es,0)
theorem mE_put (k : List UInt8) (x : Vl) : ∀ es,fnd k es = none → mput .str (.str k) (.agg [vV x]) (mE es) = mE (es ++ [(k,x)])
  | [],_ => rfl
  | p :: es,h => by
    rw [fnd] at h
    split at h
    · cases h
    · rename_i hne
      have h' : ¬ k = p.1 := fun e => hne e.symm
      have := mE_put k x es h
      simp only [mE,List.map_cons,List.cons_append,mput,BK.eq,h',decide_false] at this ⊢
      rw [if_neg (by decide),this]
theorem map_raw {ks : List (List UInt8)} {l : List Vl} {t t2 : Tok} (hb : l.length * 16 ≤ 140000000000000) (H : AH) : ACalls Tryz.prog 46 [.sl 1 (strE ks) t,.sl 1 (vE l) t2] H (fun o H' => ∃ v,o = .ret v ∧
    (((∀ (s : St) x,s.val v x → s.val (.tuple [.agg [vV (mapR ks l).1],.int .i64 (mapR ks l).2]) x) ∧ H.le H') ∨
    ∃ k es v',H' k = some (.map es) ∧ (∀ s : St,FrozeM s k es → ∀ x,s.val v x → s.val v' x) ∧ (∀ (s : St) x,s.val v' x → s.val (.tuple [.agg [vV (mapR ks l).1],.int .i64 (mapR ks l).2]) x) ∧ H.le (H'.del k))) := by
  refine acalls Tryz.func46 c46 r46 (by simp [Tryz.ntmps46]) ?_
  by_cases hlen : ks.length = l.length
  · repeat' (first|with_reducible refine go0 ?_|(with_reducible refine am_cnd ?_ ?_<;>intro hc<;>try (exfalso;omega))|((first|with_reducible (first|refine go1 ?_|refine vc_intro ?_|refine need_el ?_|refine vlen_a ?_|refine need_by ?_|refine need_lk ?_)|((with_reducible refine alloc_intro (fun ko hko=>?_))<;>(try have hne:=fresh_ne (by assumption) hko)<;>(try have hnk:=fresh_ne hk hko)<;>(try have hnk2:=fresh_ne hk2 hko)<;>(try simp only [AH.put_none] at hko))|done)<;>(try simp -implicitDefEqProofs (disch:=omega) only [go_sem,strE_len,vE_length,hlen])))
    rename_i kz hkz
    generalize ko = km at *
    have hkm := hko
    clear hko
    have hkm2 := hkm.2
    have nzm : kz ≠ km := fun e => hkm.1 e.symm
    refine am_loop (fun n a H' => ∃ (i : Nat) (acc : List (List UInt8 × Vl)),i + n = l.length ∧ a = [(1,.sl 1 (vE l) t2),(4,.ptr kz 0),(6,.map km),(18,.sl 1 (strE ks) t),(19,.int .i64 l.length),(20,.int .i64 i)] ∧ H' kz = some (.cells [.nilIface]) ∧ H' km = some (.map (mE acc)) ∧ H.le H' ∧ mkR [] (ks.zip l) = mkR acc ((ks.zip l).drop i)) ?_ l.length ⟨0,[],by omega,rfl,look_put (AH.put_same _ _ _) (by rw [AH.put_none]; exact ⟨hkm.1,hkm2⟩),AH.put_same _ _ _,AH.le_put (AH.le_put (AH.le_refl _) hkz _) hkm2 _,rfl⟩
    rintro n a H' ⟨i,acc,hi,rfl,hk,hk2,hle,hr⟩
    have hzl : (ks.zip l).length = l.length := by rw [List.length_zip]; omega
    by_cases hlt : i < l.length
    · have hlt2 : i < ks.length := by omega
      rw [List.drop_eq_getElem_cons (by omega),mkR,List.getElem_zip] at hr
      cases hf : fnd ks[i] acc with
      | some y =>
        rw [hf] at hr
        repeat' (first|with_reducible refine go0 ?_|(with_reducible refine am_cnd ?_ ?_<;>intro hc<;>try (exfalso;omega))|((first|with_reducible (first|refine go1 ?_|refine vc_intro ?_|refine need_el ?_|refine vlen_a ?_|refine need_by ?_|refine need_lk ?_)|((with_reducible refine alloc_intro (fun ko hko=>?_))<;>(try have hne:=fresh_ne (by assumption) hko)<;>(try have hnk:=fresh_ne hk hko)<;>(try have hnk2:=fresh_ne hk2 hko)<;>(try simp only [AH.put_none] at hko))|done)<;>(try simp -implicitDefEqProofs (disch:=omega) only [go_sem,wrap_id,strE_len,vE_length,strE_get hlt2,vE_get hlt,mE_find,hf,hk,hk2,nzm])))
        all_goals (have e : mapR ks l = (.nul,9) := by { unfold mapR; rw [if_neg (by omega),hr]; rfl }; rw [e,vV_nul]; exact ⟨_,rfl,.inl ⟨fun s x h => h,AH.le_put (AH.le_put hle (none_of_le hle hko) _) hkz _⟩⟩)
      | none =>
        rw [hf] at hr
        repeat' (first|with_reducible refine go0 ?_|(with_reducible refine am_cnd ?_ ?_<;>intro hc<;>try (exfalso;omega))|((first|with_reducible (first|refine go1 ?_|refine vc_intro ?_|refine need_el ?_|refine vlen_a ?_|refine need_by ?_|refine need_lk ?_)|((with_reducible refine alloc_intro (fun ko hko=>?_))<;>(try have hne:=fresh_ne (by assumption) hko)<;>(try have hnk:=fresh_ne hk hko)<;>(try have hnk2:=fresh_ne hk2 hko)<;>(try simp only [AH.put_none] at hko))|done)<;>(try simp -implicitDefEqProofs (disch:=omega) only [go_sem,wrap_id,strE_len,vE_length,strE_get hlt2,vE_get hlt,mE_find,mE_put _ _ _ hf,hf,hk,hk2,nzm,Option.map_none])))
        all_goals exact ⟨n - 1,by omega,i + 1,_,by omega,rfl,rfl,AH.le_put (AH.le_put hle (none_of_le hle hko) _) hkm2 _,hr⟩
    · rw [List.drop_eq_nil_of_le (by omega),mkR] at hr
      repeat' (first|with_reducible refine go0 ?_|(with_reducible refine am_cnd ?_ ?_<;>intro hc<;>try (exfalso;omega))|((first|with_reducible (first|refine go1 ?_|refine vc_intro ?_|refine need_el ?_|refine vlen_a ?_|refine need_by ?_|refine need_lk ?_)|((with_reducible refine alloc_intro (fun ko hko=>?_))<;>(try have hne:=fresh_ne (by assumption) hko)<;>(try have hnk:=fresh_ne hk hko)<;>(try have hnk2:=fresh_ne hk2 hko)<;>(try simp only [AH.put_none] at hko))|done)<;>(try simp -implicitDefEqProofs (disch:=omega) only [go_sem,wrap_id,strE_len,vE_length,hk,hk2,nzm])))
      have e : mapR ks l = (.map acc,0) := by unfold mapR; rw [if_neg (by omega),hr]
      rw [e,vV_map]
      refine ⟨_,rfl,.inr ⟨km,mE acc,_,by rw [AH.put_ne _ _ (Ne.symm nzm)]; exact hk2,fun s hf x h => ?_,fun s x h => h,AH.le_del (AH.le_put hle hkz _) hkm2⟩⟩
      exact tuple_sub (.cons (fun y h => agg_sub rfl (.cons (fun y h => iface_sub hf y h) .nil) y h) (.cons (fun y h => h) .nil)) x h
  · repeat' (first|with_reducible refine go0 ?_|(with_reducible refine am_cnd ?_ ?_<;>intro hc<;>try (exfalso;omega))|((first|with_reducible (first|refine go1 ?_|refine vc_intro ?_|refine need_el ?_|refine vlen_a ?_|refine need_by ?_|refine need_lk ?_)|((with_reducible refine alloc_intro (fun ko hko=>?_))<;>(try have hne:=fresh_ne (by assumption) hko)<;>(try have hnk:=fresh_ne hk hko)<;>(try have hnk2:=fresh_ne hk2 hko)<;>(try simp only [AH.put_none] at hko))|done)<;>(try simp -implicitDefEqProofs (disch:=omega) only [go_sem,strE_len,vE_length,hlen])))
    all_goals (have e : mapR ks l = (.nul,1) := by { unfold mapR; rw [if_pos hlen] }; rw [e,vV_nul]; exact ⟨_,rfl,.inl ⟨fun s x h => h,AH.le_put (AH.le_refl _) hko _⟩⟩)
theorem map_calls {ks : List (List UInt8)} {l : List Vl} {t t2 : Tok} (hb : l.length * 16 ≤ 140000000000000) (H : AH) : ACalls Tryz.prog 46 [.sl 1 (strE ks) t,.sl 1 (vE l) t2] H (fun o H' => o = .ret (.tuple [.agg [vV (mapR ks l).1],.int .i64 (mapR ks l).2]) ∧ H' = H) := by
  refine ACalls.drop (ACalls.mono (ACalls.freezeM (map_raw hb H) (R := fun v H' => (∀ (s : St) x,s.val v x → s.val (.tuple [.agg [vV (mapR ks l).1],.int .i64 (mapR ks l).2]) x) ∧ H.le H') ?_) ?_)
  · rintro o H' ⟨v,rfl,h | ⟨k,es,v',h1,h2,h3,h4⟩⟩
    · exact ⟨v,rfl,.inl h⟩
    · exact ⟨v,rfl,.inr ⟨k,es,v',h1,h2,h3,h4⟩⟩
  · rintro o H' ⟨v,rfl,h1,h2⟩
    exact drop_end h1 h2
end Go.Proofs.YtkldmgnhbomknaaGreat
namespace Go.Proofs.YtkldmgnhbomknaaGreat
open Go.Vm Go.Sort
attribute [local go_sem] List.drop_zero toNat_succ Nat.sub_zero Int.toNat_natCast Option.map_some Int.natCast_nonneg decide_eq_true_eq decide_eq_false_iff_not
inductive Rv where
  | mk (K : Int) (B : Bool) (N M : Int) (S : List UInt8) (L : List Rv) (Keys : List (List UInt8))
def Rv.K : Rv → Int | .mk a _ _ _ _ _ _ => a
def Rv.B : Rv → Bool | .mk _ a _ _ _ _ _ => a
def Rv.N : Rv → Int | .mk _ _ a _ _ _ _ => a
def Rv.M : Rv → Int | .mk _ _ _ a _ _ _ => a
def Rv.S : Rv → List UInt8 | .mk _ _ _ _ a _ _ => a
def Rv.L : Rv → List Rv | .mk _ _ _ _ _ a _ => a
def Rv.Keys : Rv → List (List UInt8) | .mk _ _ _ _ _ _ a => a
theorem Rv.ind {Q : Rv → Prop} (h : ∀ r : Rv,(∀ x ∈ r.L,Q x) → Q r) : ∀ r,Q r
  | .mk K B N M S L Keys => h _ fun x hx => Rv.ind h x
termination_by r => SizeOf.sizeOf r
decreasing_by
  have hx' : x ∈ L := hx
  have := List.sizeOf_lt_of_mem hx'; simp only [Rv.mk.sizeOf_spec]; omega
def rvC : Rv → List V
  | .mk K B N M S L Keys => [.int .i64 K,.bool B,.int .i64 N,.int .i64 M,.str S,.sl 7 (L.map fun x => rvC x) .no,.sl 1 (strE Keys) .no]
termination_by r => SizeOf.sizeOf r
decreasing_by
  have := List.sizeOf_lt_of_mem ‹_ ∈ L›; simp only [Rv.mk.sizeOf_spec]; omega
def rvE (l : List Rv) : List (List V) := l.map rvC
theorem rvC_eq (r : Rv) : rvC r = [.int .i64 r.K,.bool r.B,.int .i64 r.N,.int .i64 r.M,.str r.S,.sl 7 (rvE r.L) .no,.sl 1 (strE r.Keys) .no] := by
  cases r; rw [rvC]; rfl
theorem rvE_length (l : List Rv) : (rvE l).length = l.length := by simp [rvE]
theorem rvE_get {l : List Rv} {i : Nat} (h : i < l.length) : (rvE l)[i]? = some [.int .i64 l[i].K,.bool l[i].B,.int .i64 l[i].N,.int .i64 l[i].M,.str l[i].S,.sl 7 (rvE l[i].L) .no,.sl 1 (strE l[i].Keys) .no] := by
  rw [← rvC_eq]; simp [rvE,h]
theorem rvE_app (a b : List Rv) : rvE a ++ rvE b = rvE (a ++ b) := by simp [rvE]
def deepI : Rv → Int
  | .mk _ _ _ _ _ L _ => IntKind.i64.wrap ((L.map fun x => deepI x).foldl max 0 + 1)
termination_by r => SizeOf.sizeOf r
decreasing_by
  have := List.sizeOf_lt_of_mem ‹_ ∈ L›; simp only [Rv.mk.sizeOf_spec]; omega
def deepL (l : List Rv) : Int := (l.map deepI).foldl max 0
theorem deepI_eq (r : Rv) : deepI r = IntKind.i64.wrap (deepL r.L + 1) := by cases r; rw [deepI]; rfl
def sizeI : Rv → Int
  | .mk _ _ _ _ _ L _ => (L.map fun x => sizeI x).foldl (fun n x => IntKind.i64.wrap (n + x)) 1
termination_by r => SizeOf.sizeOf r
decreasing_by
  have := List.sizeOf_lt_of_mem ‹_ ∈ L›; simp only [Rv.mk.sizeOf_spec]; omega
def sizeL (l : List Rv) : Int := (l.map sizeI).foldl (fun n x => IntKind.i64.wrap (n + x)) 1
theorem sizeI_eq (r : Rv) : sizeI r = sizeL r.L := by cases r; rw [sizeI]; rfl
inductive Rv.FitB (B : Nat) : Rv → Prop where
  | mk (r : Rv) : r.L.length * 96 ≤ B → r.Keys.length * 16 ≤ B → (∀ k ∈ r.Keys,k.length ≤ 140737488355328) → r.S.length ≤ 140737488355328 → (∀ x ∈ r.L,Rv.FitB B x) → Rv.FitB B r
theorem Rv.FitB.l {B : Nat} {r : Rv} (h : r.FitB B) : r.L.length * 96 ≤ B := by cases h; assumption
theorem Rv.FitB.k {B : Nat} {r : Rv} (h : r.FitB B) : r.Keys.length * 16 ≤ B := by cases h; assumption
theorem Rv.FitB.kl {B : Nat} {r : Rv} (h : r.FitB B) : ∀ k ∈ r.Keys,k.length ≤ 140737488355328 := by cases h; assumption
theorem Rv.FitB.s {B : Nat} {r : Rv} (h : r.FitB B) : r.S.length ≤ 140737488355328 := by cases h; assumption
theorem Rv.FitB.m {B : Nat} {r : Rv} (h : r.FitB B) : ∀ x ∈ r.L,x.FitB B := by cases h; assumption
abbrev Rv.Fit (r : Rv) : Prop := r.FitB 140737488355328
theorem Rv.Fit.l {r : Rv} (h : r.Fit) : r.L.length * 96 ≤ 140737488355328 := FitB.l h
theorem Rv.Fit.k {r : Rv} (h : r.Fit) : r.Keys.length * 16 ≤ 140737488355328 := FitB.k h
theorem Rv.Fit.kl {r : Rv} (h : r.Fit) : ∀ k ∈ r.Keys,k.length ≤ 140737488355328 := FitB.kl h
theorem Rv.Fit.s {r : Rv} (h : r.Fit) : r.S.length ≤ 140737488355328 := FitB.s h
theorem Rv.Fit.m {r : Rv} (h : r.Fit) : ∀ x ∈ r.L,x.Fit := FitB.m h
end Go.Proofs.YtkldmgnhbomknaaGreat
namespace Go.Proofs.YtkldmgnhbomknaaGreat
open Go.Vm Go.Sort
attribute [local go_sem] eq_self decide_true decide_false AH.put_ne
attribute [local go_sem_proc] Nat.reduceBEq Nat.reduceAdd Nat.reduceSub Nat.reduceMul Nat.reduceEqDiff Nat.reduceLeDiff Nat.reduceLT Int.reduceLE Int.reduceLT Int.reduceToNat Int.reduceAdd Int.reduceEq Int.reduceNeg
attribute [local go_sem] List.drop_zero toNat_succ Nat.sub_zero Int.toNat_natCast Option.map_some Int.natCast_nonneg decide_eq_true_eq decide_eq_false_iff_not
/- flange/flangeref04.Deep -/
abbrev k13_0 : MC :=
 .cond (.t 9) (.skip) (.exit 0)
abbrev k13_1 : MC :=
 .reg [
 mv 10 4,
 vl 11 (.bin .add .num (.t 10) (.c (.int .i64 1))),
 mv 4 11] [1,3,4]
abbrev k13_2 : MC :=
 (.seq (.block 1 (.reg [
 mv 12 3,
 vl 13 (.faddr 5 (.t 1)),
 vl 14 (.load false 1 (.t 13)),
 mv 15 4,
 vl 16 (.iaddr 7 (.t 14) (.t 15)),
 vl 17 (.load true 7 (.t 16)),
 ⟨some 18,none,.call 13 [(.t 17)]⟩,
 vl 19 (.mx true (.t 12) (.t 18)),
 mv 3 19] [1,3,4])) k13_1)
abbrev k13_3 : MC :=
 (.seq ((.seq (.reg [
 mv 5 4,
 vl 6 (.faddr 5 (.t 1)),
 vl 7 (.load false 1 (.t 6)),
 vl 8 (.len .sl (.t 7)),
 vl 9 (.bin .lss .num (.t 5) (.t 8))] [1,3,4,9]) k13_0)) k13_2)
abbrev k13_4 : MC :=
 .block 0 (.loop k13_3)
abbrev k13_5 : MC :=
 (.seq (.reg [
 mv 20 3,
 vl 21 (.bin .add .num (.t 20) (.c (.int .i64 1))),
 mv 2 21] [2]) (.ret))
abbrev k13_6 : MC :=
 (.seq ((.seq (.reg [
 vl 4 (.mv (.c (.int .i64 0)))] [1,3,4]) k13_4)) k13_5)
abbrev k13_7 : MC :=
 (.seq (.reg [
 vl 3 (.mv (.c (.int .i64 0)))] [1,3]) k13_6)
abbrev k13 : MC :=
 (.seq (.reg [
 ⟨some 1,none,.boxi (.t 0)⟩,
 vl 2 (.mv (.c (.int .i64 0)))] [1]) k13_7)
theorem c13 : Tryz.f13.body.bind (mcOf Tryz.prog (List.contains [1] ·) (List.getD [([],[1]),([],[1,3]),([],[1,3,4]),([],[1,3,4,9]),([],[1,3,4]),([],[1,3,4]),([],[2])] · ([],[])) 22) = some k13 := by kernel_rfl
theorem r13 : rvsOf Tryz.prog Tryz.f13.results.toList = some [.tmp 2] := by kernel_rfl
/- flange/flangeref04.Size -/
abbrev k12_0 : MC :=
 .cond (.t 9) (.skip) (.exit 0)
abbrev k12_1 : MC :=
 .reg [
 mv 10 4,
 vl 11 (.bin .add .num (.t 10) (.c (.int .i64 1))),
 mv 4 11] [1,3,4]
abbrev k12_2 : MC :=
 (.seq (.block 1 (.reg [
 mv 12 3,
 vl 13 (.faddr 5 (.t 1)),
 vl 14 (.load false 1 (.t 13)),
 mv 15 4,
 vl 16 (.iaddr 7 (.t 14) (.t 15)),
 vl 17 (.load true 7 (.t 16)),
 ⟨some 18,none,.call 12 [(.t 17)]⟩,
 vl 19 (.bin .add .num (.t 12) (.t 18)),
 mv 3 19] [1,3,4])) k12_1)
abbrev k12_3 : MC :=
 (.seq ((.seq (.reg [
 mv 5 4,
 vl 6 (.faddr 5 (.t 1)),
 vl 7 (.load false 1 (.t 6)),
 vl 8 (.len .sl (.t 7)),
 vl 9 (.bin .lss .num (.t 5) (.t 8))] [1,3,4,9]) k12_0)) k12_2)
abbrev k12_4 : MC :=
 .block 0 (.loop k12_3)
abbrev k12_5 : MC :=
 (.seq (.reg [
 mv 20 3,
 mv 2 20] [2]) (.ret))
abbrev k12_6 : MC :=
 (.seq ((.seq (.reg [
 vl 4 (.mv (.c (.int .i64 0)))] [1,3,4]) k12_4)) k12_5)
abbrev k12_7 : MC :=
 (.seq (.reg [
 vl 3 (.mv (.c (.int .i64 1)))] [1,3]) k12_6)
abbrev k12 : MC :=
 (.seq (.reg [
 ⟨some 1,none,.boxi (.t 0)⟩,
 vl 2 (.mv (.c (.int .i64 0)))] [1]) k12_7)
theorem c12 : Tryz.f12.body.bind (mcOf Tryz.prog (List.contains [1] ·) (List.getD [([],[1]),([],[1,3]),([],[1,3,4]),([],[1,3,4,9]),([],[1,3,4]),([],[1,3,4]),([],[2])] · ([],[])) 21) = some k12 := by kernel_rfl
theorem r12 : rvsOf Tryz.prog Tryz.f12.results.toList = some [.tmp 2] := by kernel_rfl
theorem deepL_take {l : List Rv} {i : Nat} (h : i < l.length) : deepL (l.take (i + 1)) = max (deepL (l.take i)) (deepI l[i]) := by
  rw [List.take_succ_eq_append_getElem h,deepL,List.map_append,List.foldl_append]; rfl
theorem sizeL_take {l : List Rv} {i : Nat} (h : i < l.length) : sizeL (l.take (i + 1)) = IntKind.i64.wrap (sizeL (l.take i) + sizeI l[i]) := by
  rw [List.take_succ_eq_append_getElem h,sizeL,List.map_append,List.foldl_append]; rfl
theorem rdeep_calls : ∀ (r : Rv),r.Fit → ∀ (H : AH),ACalls Tryz.prog 13 [.agg [.int .i64 r.K,.bool r.B,.int .i64 r.N,.int .i64 r.M,.str r.S,.sl 7 (rvE r.L) .no,.sl 1 (strE r.Keys) .no]] H (fun o H' => o = .ret (.int .i64 (deepI r)) ∧ H' = H) := by
  refine Rv.ind fun r ih hf H => ?_
  refine ACalls.drop ?_
  have hb := hf.l
  refine acalls Tryz.func13 c13 r13 (by simp [Tryz.ntmps13]) ?_
  repeat' (first|with_reducible refine go0 ?_|(with_reducible refine am_cnd ?_ ?_<;>intro hc<;>try (exfalso;omega))|((first|with_reducible (first|refine go1 ?_|refine vc_intro ?_|refine need_el ?_|refine vlen_a ?_|refine need_by ?_|refine need_lk ?_)|((with_reducible refine alloc_intro (fun ko hko=>?_))<;>(try have hne:=fresh_ne (by assumption) hko)<;>(try simp only [AH.put_none] at hko))|done)<;>(try simp -implicitDefEqProofs (disch:=omega) only [go_sem])))
  refine am_loop (fun n a H' => ∃ i : Nat,i + n = r.L.length ∧ a = [(1,.rptr [.int .i64 r.K,.bool r.B,.int .i64 r.N,.int .i64 r.M,.str r.S,.sl 7 (rvE r.L) .no,.sl 1 (strE r.Keys) .no] 0),(3,.int .i64 (deepL (r.L.take i))),(4,.int .i64 i)] ∧ H' = H) ?_ r.L.length ⟨0,by omega,rfl,rfl⟩
  rintro n a H' ⟨i,hi,rfl,rfl⟩
  by_cases hlt : i < r.L.length
  · have hc1 := ih r.L[i] (List.getElem_mem hlt) (hf.m _ (List.getElem_mem hlt))
    repeat' (first|with_reducible refine go0 ?_|(with_reducible refine am_cnd ?_ ?_<;>intro hc<;>try (exfalso;omega))|((first|with_reducible (first|refine go1 ?_|refine vc_intro ?_|refine need_el ?_|refine vlen_a ?_|refine need_by ?_|refine call_of (hc1) ?_|refine qcall_of (hc1) ?_|refine need_lk ?_)|((with_reducible refine alloc_intro (fun ko hko=>?_))<;>(try have hne:=fresh_ne (by assumption) hko)<;>(try simp only [AH.put_none] at hko))|done)<;>(try simp -implicitDefEqProofs (disch:=omega) only [go_sem,wrap_id,rvE_length,rvE_get hlt])))
    all_goals exact ⟨n - 1,by omega,i + 1,by omega,by rw [deepL_take hlt]; rfl⟩
  · have e : r.L.take i = r.L := List.take_of_length_le (by omega)
    repeat' (first|with_reducible refine go0 ?_|(with_reducible refine am_cnd ?_ ?_<;>intro hc<;>try (exfalso;omega))|((first|with_reducible (first|refine go1 ?_|refine vc_intro ?_|refine need_el ?_|refine vlen_a ?_|refine need_by ?_|refine need_lk ?_)|((with_reducible refine alloc_intro (fun ko hko=>?_))<;>(try have hne:=fresh_ne (by assumption) hko)<;>(try simp only [AH.put_none] at hko))|done)<;>(try simp -implicitDefEqProofs (disch:=omega) only [go_sem,wrap_id,rvE_length,e])))
    all_goals (rw [deepI_eq]; (refine drop_end (by (first | exact fun _ _ h => h | (intro s x h; first | exact no_sub _ h | exact nil_no _ h | exact AccP.sub (by assumption) _ _ h | (refine agg_sub rfl ?_ x h; repeat (first | exact .nil | refine .cons (fun _ h => h) ?_ | refine .cons (fun _ h => nil_no _ h) ?_ | refine .cons (fun _ h => no_sub _ h) ?_ | refine .cons (fun _ h => AccP.sub (by assumption) _ _ h) ?_)) | (refine tuple_sub ?_ x h; repeat (first | exact .nil | refine .cons (fun _ h => h) ?_ | refine .cons (fun _ h => nil_no _ h) ?_ | refine .cons (fun _ h => no_sub _ h) ?_ | refine .cons (fun _ h => AccP.sub (by assumption) _ _ h) ?_ | refine .cons (fun _ h => agg_sub rfl (by repeat (first | exact .nil | refine .cons (fun _ h => h) ?_ | refine .cons (fun _ h => nil_no _ h) ?_ | refine .cons (fun _ h => no_sub _ h) ?_ | refine .cons (fun _ h => AccP.sub (by assumption) _ _ h) ?_)) _ h) ?_))))) (by (repeat (first | exact AH.le_refl _ | assumption | exact AccP.le (by assumption) | refine AH.le_put ?_ (by first | assumption | exact none_of_le (by assumption) (by assumption) | exact And.right (by assumption) | exact And.right (And.right (by assumption))) _ | refine AH.le_trans ?_ (AccP.le (by assumption)))))))
theorem rsize_calls : ∀ (r : Rv),r.Fit → ∀ (H : AH),ACalls Tryz.prog 12 [.agg [.int .i64 r.K,.bool r.B,.int .i64 r.N,.int .i64 r.M,.str r.S,.sl 7 (rvE r.L) .no,.sl 1 (strE r.Keys) .no]] H (fun o H' => o = .ret (.int .i64 (sizeI r)) ∧ H' = H) := by
  refine Rv.ind fun r ih hf H => ?_
  refine ACalls.drop ?_
  have hb := hf.l
  refine acalls Tryz.func12 c12 r12 (by simp [Tryz.ntmps12]) ?_
  repeat' (first|with_reducible refine go0 ?_|(with_reducible refine am_cnd ?_ ?_<;>intro hc<;>try (exfalso;omega))|((first|with_reducible (first|refine go1 ?_|refine vc_intro ?_|refine need_el ?_|refine vlen_a ?_|refine need_by ?_|refine need_lk ?_)|((with_reducible refine alloc_intro (fun ko hko=>?_))<;>(try have hne:=fresh_ne (by assumption) hko)<;>(try simp only [AH.put_none] at hko))|done)<;>(try simp -implicitDefEqProofs (disch:=omega) only [go_sem])))
  refine am_loop (fun n a H' => ∃ i : Nat,i + n = r.L.length ∧ a = [(1,.rptr [.int .i64 r.K,.bool r.B,.int .i64 r.N,.int .i64 r.M,.str r.S,.sl 7 (rvE r.L) .no,.sl 1 (strE r.Keys) .no] 0),(3,.int .i64 (sizeL (r.L.take i))),(4,.int .i64 i)] ∧ H' = H) ?_ r.L.length ⟨0,by omega,rfl,rfl⟩
  rintro n a H' ⟨i,hi,rfl,rfl⟩
  by_cases hlt : i < r.L.length
  · have hc1 := ih r.L[i] (List.getElem_mem hlt) (hf.m _ (List.getElem_mem hlt))
    repeat' (first|with_reducible refine go0 ?_|(with_reducible refine am_cnd ?_ ?_<;>intro hc<;>try (exfalso;omega))|((first|with_reducible (first|refine go1 ?_|refine vc_intro ?_|refine need_el ?_|refine vlen_a ?_|refine need_by ?_|refine call_of (hc1) ?_|refine qcall_of (hc1) ?_|refine need_lk ?_)|((with_reducible refine alloc_intro (fun ko hko=>?_))<;>(try have hne:=fresh_ne (by assumption) hko)<;>(try simp only [AH.put_none] at hko))|done)<;>(try simp -implicitDefEqProofs (disch:=omega) only [go_sem,wrap_id,rvE_length,rvE_get hlt])))
    all_goals exact ⟨n - 1,by omega,i + 1,by omega,by rw [sizeL_take hlt]; rfl⟩
  · have e : r.L.take i = r.L := List.take_of_length_le (by omega)
    repeat' (first|with_reducible refine go0 ?_|(with_reducible refine am_cnd ?_ ?_<;>intro hc<;>try (exfalso;omega))|((first|with_reducible (first|refine go1 ?_|refine vc_intro ?_|refine need_el ?_|refine vlen_a ?_|refine need_by ?_|refine need_lk ?_)|((with_reducible refine alloc_intro (fun ko hko=>?_))<;>(try have hne:=fresh_ne (by assumption) hko)<;>(try simp only [AH.put_none] at hko))|done)<;>(try simp -implicitDefEqProofs (disch:=omega) only [go_sem,wrap_id,rvE_length,e])))
    all_goals (rw [sizeI_eq]; (refine drop_end (by (first | exact fun _ _ h => h | (intro s x h; first | exact no_sub _ h | exact nil_no _ h | exact AccP.sub (by assumption) _ _ h | (refine agg_sub rfl ?_ x h; repeat (first | exact .nil | refine .cons (fun _ h => h) ?_ | refine .cons (fun _ h => nil_no _ h) ?_ | refine .cons (fun _ h => no_sub _ h) ?_ | refine .cons (fun _ h => AccP.sub (by assumption) _ _ h) ?_)) | (refine tuple_sub ?_ x h; repeat (first | exact .nil | refine .cons (fun _ h => h) ?_ | refine .cons (fun _ h => nil_no _ h) ?_ | refine .cons (fun _ h => no_sub _ h) ?_ | refine .cons (fun _ h => AccP.sub (by assumption) _ _ h) ?_ | refine .cons (fun _ h => agg_sub rfl (by repeat (first | exact .nil | refine .cons (fun _ h => h) ?_ | refine .cons (fun _ h => nil_no _ h) ?_ | refine .cons (fun _ h => no_sub _ h) ?_ | refine .cons (fun _ h => AccP.sub (by assumption) _ _ h) ?_)) _ h) ?_))))) (by (repeat (first | exact AH.le_refl _ | assumption | exact AccP.le (by assumption) | refine AH.le_put ?_ (by first | assumption | exact none_of_le (by assumption) (by assumption) | exact And.right (by assumption) | exact And.right (And.right (by assumption))) _ | refine AH.le_trans ?_ (AccP.le (by assumption)))))))
end Go.Proofs.YtkldmgnhbomknaaGreat
namespace Go.Proofs.YtkldmgnhbomknaaGreat
open Go.Vm Go.Sort
attribute [local go_sem] eq_self decide_true decide_false AH.put_ne
attribute [local go_sem_proc] Nat.reduceBEq Nat.reduceAdd Nat.reduceSub Nat.reduceMul Nat.reduceEqDiff Nat.reduceLeDiff Nat.reduceLT Int.reduceLE Int.reduceLT Int.reduceToNat Int.reduceAdd Int.reduceEq Int.reduceNeg
attribute [local go_sem] List.drop_zero toNat_succ Nat.sub_zero Int.toNat_natCast Option.map_some Int.natCast_nonneg decide_eq_true_eq decide_eq_false_iff_not
/- flange/flangelaw04.Great -/
abbrev k4_0 : MC :=
 .cond (.t 41) (.skip) (.exit 0)
abbrev k4_1 : MC :=
 .reg [
 mv 42 4,
 vl 43 (.bin .add .num (.t 42) (.c (.int .i64 1))),
 mv 4 43] [1,3,4]
abbrev k4_2 : MC :=
 (.seq (.block 1 (.reg [
 mv 44 3,
 vl 45 (.faddr 6 (.t 1)),
 vl 46 (.load false 1 (.t 45)),
 mv 47 4,
 vl 48 (.iaddr 1 (.t 46) (.t 47)),
 vl 49 (.load false 1 (.t 48)),
 vl 50 (.len .str (.t 49)),
 vl 51 (.bin .sub .num (.t 50) (.c (.int .i64 300))),
 vl 52 (.mx true (.t 51) (.c (.int .i64 0))),
 vl 53 (.bin .add .num (.t 44) (.t 52)),
 mv 3 53] [1,3,4])) k4_1)
abbrev k4_3 : MC :=
 (.seq ((.seq (.reg [
 mv 33 4,
 vl 34 (.faddr 6 (.t 1)),
 vl 35 (.load false 1 (.t 34)),
 vl 36 (.len .sl (.t 35)),
 vl 37 (.bin .lss .num (.t 33) (.t 36)),
 mv 38 37,
 ⟨some 39,(some (38,true)),.val (.mv (.t 4))⟩,
 ⟨some 40,(some (38,true)),.val (.bin .lss .num (.t 39) (.c (.int .i64 80)))⟩,
 vl 41 (.pick (.t 38) (.t 40) (.c (.bool false)))] [1,3,4,41]) k4_0)) k4_2)
abbrev k4_4 : MC :=
 .block 0 (.loop k4_3)
abbrev k4_5 : MC :=
 .cond (.t 62) (.skip) (.exit 2)
abbrev k4_6 : MC :=
 .reg [
 mv 63 5,
 vl 64 (.bin .add .num (.t 63) (.c (.int .i64 1))),
 mv 5 64] [1,3,5]
abbrev k4_7 : MC :=
 (.seq (.block 3 (.reg [
 mv 65 3,
 vl 66 (.faddr 5 (.t 1)),
 vl 67 (.load false 1 (.t 66)),
 mv 68 5,
 vl 69 (.iaddr 7 (.t 67) (.t 68)),
 vl 70 (.load true 7 (.t 69)),
 ⟨some 71,none,.call 4 [(.t 70)]⟩,
 vl 72 (.bin .add .num (.t 65) (.t 71)),
 mv 3 72] [1,3,5])) k4_6)
abbrev k4_8 : MC :=
 (.seq ((.seq (.reg [
 mv 54 5,
 vl 55 (.faddr 5 (.t 1)),
 vl 56 (.load false 1 (.t 55)),
 vl 57 (.len .sl (.t 56)),
 vl 58 (.bin .lss .num (.t 54) (.t 57)),
 mv 59 58,
 ⟨some 60,(some (59,true)),.val (.mv (.t 3))⟩,
 ⟨some 61,(some (59,true)),.val (.bin .eql .num (.t 60) (.c (.int .i64 0)))⟩,
 vl 62 (.pick (.t 59) (.t 61) (.c (.bool false)))] [1,3,5,62]) k4_5)) k4_7)
abbrev k4_9 : MC :=
 .block 2 (.loop k4_8)
abbrev k4_10 : MC :=
 (.seq (.reg [
 mv 73 3,
 mv 2 73] [2]) (.ret))
abbrev k4_11 : MC :=
 (.seq ((.seq (.reg [
 vl 5 (.mv (.c (.int .i64 0)))] [1,3,5]) k4_9)) k4_10)
abbrev k4_12 : MC :=
 (.seq ((.seq (.reg [
 vl 4 (.mv (.c (.int .i64 0)))] [1,3,4]) k4_4)) k4_11)
abbrev k4_13 : MC :=
 (.seq (.drw [
 vl 6 (.faddr 5 (.t 1)),
 vl 7 (.load false 1 (.t 6)),
 vl 8 (.len .sl (.t 7)),
 vl 9 (.bin .sub .num (.t 8) (.c (.int .i64 70))),
 vl 10 (.mx true (.t 9) (.c (.int .i64 0))),
 vl 11 (.faddr 6 (.t 1)),
 vl 12 (.load false 1 (.t 11)),
 vl 13 (.len .sl (.t 12)),
 vl 14 (.bin .sub .num (.t 13) (.c (.int .i64 70))),
 vl 15 (.mx true (.t 14) (.c (.int .i64 0))),
 vl 16 (.bin .add .num (.t 10) (.t 15)),
 vl 17 (.faddr 4 (.t 1)),
 vl 18 (.load false 1 (.t 17)),
 vl 19 (.len .str (.t 18)),
 vl 20 (.bin .sub .num (.t 19) (.c (.int .i64 300))),
 vl 21 (.mx true (.t 20) (.c (.int .i64 0))),
 vl 22 (.bin .add .num (.t 16) (.t 21)),
 vl 23 (.load true 7 (.t 1)),
 ⟨some 24,none,.call 12 [(.t 23)]⟩,
 vl 25 (.bin .sub .num (.t 24) (.c (.int .i64 200))),
 vl 26 (.mx true (.t 25) (.c (.int .i64 0))),
 vl 27 (.bin .add .num (.t 22) (.t 26)),
 vl 28 (.load true 7 (.t 1)),
 ⟨some 29,none,.call 13 [(.t 28)]⟩,
 vl 30 (.bin .sub .num (.t 29) (.c (.int .i64 12))),
 vl 31 (.mx true (.t 30) (.c (.int .i64 0))),
 vl 32 (.bin .add .num (.t 27) (.t 31)),
 mv 3 32] [] [1,3]) k4_12)
abbrev k4 : MC :=
 (.seq (.reg [
 ⟨some 1,none,.boxi (.t 0)⟩,
 vl 2 (.mv (.c (.int .i64 0)))] [1]) k4_13)
theorem c4 : Tryz.f4.body.bind (mcOf Tryz.prog (List.contains [1] ·) (List.getD [([],[1]),([0,0,0,0,0,0,0,0,0,0,0,0,0,0,0,0,0,0,0,0,0,0,0,0,0,0,0,0],[1,3]),([],[1,3,4]),([],[1,3,4,41]),([],[1,3,4]),([],[1,3,4]),([],[1,3,5]),([],[1,3,5,62]),([],[1,3,5]),([],[1,3,5]),([],[2])] · ([],[])) 74) = some k4 := by kernel_rfl
theorem r4 : rvsOf Tryz.prog Tryz.f4.results.toList = some [.tmp 2] := by kernel_rfl
def w64 (x : Int) : Int := IntKind.i64.wrap x
def great0 (r : Rv) : Int := w64 (w64 (w64 (w64 (max (w64 (r.L.length - 70)) 0 + max (w64 (r.Keys.length - 70)) 0) + max (w64 (r.S.length - 300)) 0) + max (w64 (sizeI r - 200)) 0) + max (w64 (deepI r - 12)) 0)
def greatK (n : Int) (ks : List (List UInt8)) : Int := ks.foldl (fun n k => w64 (n + max (w64 (k.length - 300)) 0)) n
def greatF (n g : Int) : Int := if n = 0 then w64 (n + g) else n
def greatI : Rv → Int
  | .mk K B N M S L Keys => (L.map fun x => greatI x).foldl greatF (greatK (great0 (.mk K B N M S L Keys)) (Keys.take 80))
termination_by r => SizeOf.sizeOf r
decreasing_by
  have := List.sizeOf_lt_of_mem ‹_ ∈ L›; simp only [Rv.mk.sizeOf_spec]; omega
def greatL (n : Int) (l : List Rv) : Int := (l.map greatI).foldl greatF n
theorem greatI_eq (r : Rv) : greatI r = greatL (greatK (great0 r) (r.Keys.take 80)) r.L := by cases r; rw [greatI]; rfl
theorem greatK_take {n : Int} {l : List (List UInt8)} {i : Nat} (h : i < l.length) : greatK n (l.take (i + 1)) = w64 (greatK n (l.take i) + max (w64 (l[i].length - 300)) 0) := by
  rw [List.take_succ_eq_append_getElem h,greatK,List.foldl_append]; rfl
theorem greatL_take {n : Int} {l : List Rv} {i : Nat} (h : i < l.length) : greatL n (l.take (i + 1)) = greatF (greatL n (l.take i)) (greatI l[i]) := by
  rw [List.take_succ_eq_append_getElem h,greatL,List.map_append,List.foldl_append]; rfl
theorem greatF_stop {n : Int} (h : n ≠ 0) : ∀ l : List Int,l.foldl greatF n = n
  | [] => rfl
  | x :: l => by rw [List.foldl_cons,greatF,if_neg h]; exact greatF_stop h l
theorem greatL_stop {n : Int} {l : List Rv} {i : Nat} (h : greatL n (l.take i) ≠ 0) : greatL n l = greatL n (l.take i) := by
  have e : l = l.take i ++ l.drop i := (List.take_append_drop i l).symm
  rw [show greatL n l = greatL n (l.take i ++ l.drop i) by rw [← e],greatL,List.map_append,List.foldl_append]
  exact greatF_stop h _
theorem great_calls : ∀ (r : Rv),r.Fit → ∀ (H : AH),ACalls Tryz.prog 4 [.agg [.int .i64 r.K,.bool r.B,.int .i64 r.N,.int .i64 r.M,.str r.S,.sl 7 (rvE r.L) .no,.sl 1 (strE r.Keys) .no]] H (fun o H' => o = .ret (.int .i64 (greatI r)) ∧ H' = H) := by
  refine Rv.ind fun r ih hf H => ?_
  refine ACalls.drop ?_
  have hb := hf.l
  have hb2 := hf.k
  refine acalls Tryz.func4 c4 r4 (by simp [Tryz.ntmps4]) ?_
  repeat' (first|with_reducible refine go0 ?_|(with_reducible refine am_cnd ?_ ?_<;>intro hc<;>try (exfalso;omega))|((first|with_reducible (first|refine go1 ?_|refine vc_intro ?_|refine need_el ?_|refine vlen_a ?_|refine need_by ?_|refine call_of (rsize_calls r hf) ?_|refine qcall_of (rsize_calls r hf) ?_|refine call_of (rdeep_calls r hf) ?_|refine qcall_of (rdeep_calls r hf) ?_|refine need_lk ?_)|((with_reducible (first|apply gd_not|apply gd_of|apply gq_not|apply gq_of|apply pickB_of))<;>intro hc<;>(try simp -implicitDefEqProofs (disch:=omega) only [go_sem,hc,rvE_length,strE_len])<;>(try simp only [reduceCtorEq,bD,beq_iff_eq] at hc)<;>(try (exfalso;omega)))|((with_reducible refine alloc_intro (fun ko hko=>?_))<;>(try have hne:=fresh_ne (by assumption) hko)<;>(try simp only [AH.put_none] at hko))|done)<;>(try simp -implicitDefEqProofs (disch:=omega) only [go_sem,rvE_length,strE_len])))
  refine am_loop (fun n a H' => ∃ i : Nat,i + n = 80 ∧ i ≤ r.Keys.length ∧ a = [(1,.rptr [.int .i64 r.K,.bool r.B,.int .i64 r.N,.int .i64 r.M,.str r.S,.sl 7 (rvE r.L) .no,.sl 1 (strE r.Keys) .no] 0),(3,.int .i64 (greatK (great0 r) (r.Keys.take i))),(4,.int .i64 i)] ∧ H' = H) ?_ 80 ⟨0,by omega,by omega,rfl,rfl⟩
  rintro n a H' ⟨i,hi,hi2,rfl,rfl⟩
  have hw : ∀ i : Nat,i ≤ r.L.length ∨ i ≤ 80 → IntKind.i64.wrap ((i : Int) + 1) = ((i + 1 : Nat) : Int) := fun i h => (wrap_id ((i : Int) + 1) (by omega) (by omega)).trans rfl
  by_cases hlt : i < r.Keys.length ∧ i < 80
  · have hw := hw i (by omega)
    repeat' (first|with_reducible refine go0 ?_|(with_reducible refine am_cnd ?_ ?_<;>intro hc<;>try (exfalso;omega))|((first|with_reducible (first|refine go1 ?_|refine vc_intro ?_|refine need_el ?_|refine vlen_a ?_|refine need_by ?_|refine need_lk ?_)|((with_reducible (first|apply gd_not|apply gd_of|apply gq_not|apply gq_of|apply pickB_of))<;>intro hc<;>(try simp -implicitDefEqProofs (disch:=omega) only [go_sem,hc,hw,rvE_length,strE_len,strE_get hlt.1])<;>(try simp only [reduceCtorEq,bD,beq_iff_eq] at hc)<;>(try (exfalso;omega)))|((with_reducible refine alloc_intro (fun ko hko=>?_))<;>(try have hne:=fresh_ne (by assumption) hko)<;>(try simp only [AH.put_none] at hko))|done)<;>(try simp -implicitDefEqProofs (disch:=omega) only [go_sem,hw,rvE_length,strE_len,strE_get hlt.1])))
    all_goals exact ⟨n - 1,by omega,i + 1,by omega,by omega,by rw [greatK_take hlt.1]; rfl⟩
  · have e : r.Keys.take i = r.Keys.take 80 := by
      by_cases h8 : i = 80
      · rw [h8]
      · rw [List.take_of_length_le (by omega),List.take_of_length_le (by omega)]
    rw [e]
    have hwi : (i : Int) < r.Keys.length → ¬ (i : Int) < 80 := by omega
    have tail : AM Tryz.prog Tryz.f4.ntmps (.loop k4_8) (BQ 2 (SQ Tryz.prog Tryz.f4.ntmps k4_10 (Body [RV.tmp 2] fun o G => (∃ u,o = Out.ret u ∧ ∀ (s : St) (x : Value),s.val u x → s.val (V.int IntKind.i64 (greatI r)) x) ∧ AH.le H' G))) [(1,.rptr [.int .i64 r.K,.bool r.B,.int .i64 r.N,.int .i64 r.M,.str r.S,.sl 7 (rvE r.L) .no,.sl 1 (strE r.Keys) .no] 0),(3,.int .i64 (greatK (great0 r) (r.Keys.take 80))),(5,.int .i64 0)] H' := by
      refine am_loop (fun n a G => ∃ j : Nat,j + n = r.L.length ∧ a = [(1,.rptr [.int .i64 r.K,.bool r.B,.int .i64 r.N,.int .i64 r.M,.str r.S,.sl 7 (rvE r.L) .no,.sl 1 (strE r.Keys) .no] 0),(3,.int .i64 (greatL (greatK (great0 r) (r.Keys.take 80)) (r.L.take j))),(5,.int .i64 j)] ∧ G = H') ?_ r.L.length ⟨0,by omega,rfl,rfl⟩
      rintro n a G ⟨j,hj,rfl,rfl⟩
      by_cases hlt2 : j < r.L.length
      · by_cases hz : greatL (greatK (great0 r) (r.Keys.take 80)) (r.L.take j) = 0
        · have hc1 := ih r.L[j] (List.getElem_mem hlt2) (hf.m _ (List.getElem_mem hlt2))
          have hw := hw j (by omega)
          repeat' (first|with_reducible refine go0 ?_|(with_reducible refine am_cnd ?_ ?_<;>intro hc<;>try (exfalso;omega))|((first|with_reducible (first|refine go1 ?_|refine vc_intro ?_|refine need_el ?_|refine vlen_a ?_|refine need_by ?_|refine call_of (hc1) ?_|refine qcall_of (hc1) ?_|refine need_lk ?_)|((with_reducible (first|apply gd_not|apply gd_of|apply gq_not|apply gq_of|apply pickB_of))<;>intro hc<;>(try simp -implicitDefEqProofs (disch:=omega) only [go_sem,hc,hw,rvE_length,strE_len,rvE_get hlt2,hz])<;>(try simp only [reduceCtorEq,bD,beq_iff_eq] at hc)<;>(try (exfalso;omega)))|((with_reducible refine alloc_intro (fun ko hko=>?_))<;>(try have hne:=fresh_ne (by assumption) hko)<;>(try simp only [AH.put_none] at hko))|done)<;>(try simp -implicitDefEqProofs (disch:=omega) only [go_sem,hw,rvE_length,strE_len,rvE_get hlt2,hz])))
          all_goals exact ⟨n - 1,by omega,j + 1,by omega,by rw [greatL_take hlt2,greatF,if_pos hz,hz]; rfl⟩
        · have e2 := greatL_stop hz
          repeat' (first|with_reducible refine go0 ?_|(with_reducible refine am_cnd ?_ ?_<;>intro hc<;>try (exfalso;omega))|((first|with_reducible (first|refine go1 ?_|refine vc_intro ?_|refine need_el ?_|refine vlen_a ?_|refine need_by ?_|refine need_lk ?_)|((with_reducible (first|apply gd_not|apply gd_of|apply gq_not|apply gq_of|apply pickB_of))<;>intro hc<;>(try simp -implicitDefEqProofs (disch:=omega) only [go_sem,hc,rvE_length,strE_len,hz])<;>(try simp only [reduceCtorEq,bD,beq_iff_eq] at hc)<;>(try (exfalso;omega)))|((with_reducible refine alloc_intro (fun ko hko=>?_))<;>(try have hne:=fresh_ne (by assumption) hko)<;>(try simp only [AH.put_none] at hko))|done)<;>(try simp -implicitDefEqProofs (disch:=omega) only [go_sem,rvE_length,strE_len,hz])))
          all_goals (rw [greatI_eq,e2]; (refine drop_end (by (first | exact fun _ _ h => h | (intro s x h; first | exact no_sub _ h | exact nil_no _ h | exact AccP.sub (by assumption) _ _ h | (refine agg_sub rfl ?_ x h; repeat (first | exact .nil | refine .cons (fun _ h => h) ?_ | refine .cons (fun _ h => nil_no _ h) ?_ | refine .cons (fun _ h => no_sub _ h) ?_ | refine .cons (fun _ h => AccP.sub (by assumption) _ _ h) ?_)) | (refine tuple_sub ?_ x h; repeat (first | exact .nil | refine .cons (fun _ h => h) ?_ | refine .cons (fun _ h => nil_no _ h) ?_ | refine .cons (fun _ h => no_sub _ h) ?_ | refine .cons (fun _ h => AccP.sub (by assumption) _ _ h) ?_ | refine .cons (fun _ h => agg_sub rfl (by repeat (first | exact .nil | refine .cons (fun _ h => h) ?_ | refine .cons (fun _ h => nil_no _ h) ?_ | refine .cons (fun _ h => no_sub _ h) ?_ | refine .cons (fun _ h => AccP.sub (by assumption) _ _ h) ?_)) _ h) ?_))))) (by (repeat (first | exact AH.le_refl _ | assumption | exact AccP.le (by assumption) | refine AH.le_put ?_ (by first | assumption | exact none_of_le (by assumption) (by assumption) | exact And.right (by assumption) | exact And.right (And.right (by assumption))) _ | refine AH.le_trans ?_ (AccP.le (by assumption)))))))
      · have e2 : r.L.take j = r.L := List.take_of_length_le (by omega)
        rw [e2]
        repeat' (first|with_reducible refine go0 ?_|(with_reducible refine am_cnd ?_ ?_<;>intro hc<;>try (exfalso;omega))|((first|with_reducible (first|refine go1 ?_|refine vc_intro ?_|refine need_el ?_|refine vlen_a ?_|refine need_by ?_|refine need_lk ?_)|((with_reducible (first|apply gd_not|apply gd_of|apply gq_not|apply gq_of|apply pickB_of))<;>intro hc<;>(try simp -implicitDefEqProofs (disch:=omega) only [go_sem,hc,rvE_length,strE_len])<;>(try simp only [reduceCtorEq,bD,beq_iff_eq] at hc)<;>(try (exfalso;omega)))|((with_reducible refine alloc_intro (fun ko hko=>?_))<;>(try have hne:=fresh_ne (by assumption) hko)<;>(try simp only [AH.put_none] at hko))|done)<;>(try simp -implicitDefEqProofs (disch:=omega) only [go_sem,rvE_length,strE_len])))
        all_goals (rw [greatI_eq]; (refine drop_end (by (first | exact fun _ _ h => h | (intro s x h; first | exact no_sub _ h | exact nil_no _ h | exact AccP.sub (by assumption) _ _ h | (refine agg_sub rfl ?_ x h; repeat (first | exact .nil | refine .cons (fun _ h => h) ?_ | refine .cons (fun _ h => nil_no _ h) ?_ | refine .cons (fun _ h => no_sub _ h) ?_ | refine .cons (fun _ h => AccP.sub (by assumption) _ _ h) ?_)) | (refine tuple_sub ?_ x h; repeat (first | exact .nil | refine .cons (fun _ h => h) ?_ | refine .cons (fun _ h => nil_no _ h) ?_ | refine .cons (fun _ h => no_sub _ h) ?_ | refine .cons (fun _ h => AccP.sub (by assumption) _ _ h) ?_ | refine .cons (fun _ h => agg_sub rfl (by repeat (first | exact .nil | refine .cons (fun _ h => h) ?_ | refine .cons (fun _ h => nil_no _ h) ?_ | refine .cons (fun _ h => no_sub _ h) ?_ | refine .cons (fun _ h => AccP.sub (by assumption) _ _ h) ?_)) _ h) ?_))))) (by (repeat (first | exact AH.le_refl _ | assumption | exact AccP.le (by assumption) | refine AH.le_put ?_ (by first | assumption | exact none_of_le (by assumption) (by assumption) | exact And.right (by assumption) | exact And.right (And.right (by assumption))) _ | refine AH.le_trans ?_ (AccP.le (by assumption)))))))
    repeat' (first|with_reducible refine go0 ?_|(with_reducible refine am_cnd ?_ ?_<;>intro hc<;>try (exfalso;omega))|((first|with_reducible (first|refine go1 ?_|refine vc_intro ?_|refine need_el ?_|refine vlen_a ?_|refine need_by ?_|refine need_lk ?_)|((with_reducible (first|apply gd_not|apply gd_of|apply gq_not|apply gq_of|apply pickB_of))<;>intro hc<;>(try simp -implicitDefEqProofs (disch:=omega) only [go_sem,hc,rvE_length,strE_len])<;>(try simp only [reduceCtorEq,bD,beq_iff_eq] at hc)<;>(try (exfalso;omega)))|((with_reducible refine alloc_intro (fun ko hko=>?_))<;>(try have hne:=fresh_ne (by assumption) hko)<;>(try simp only [AH.put_none] at hko))|done)<;>(try simp -implicitDefEqProofs (disch:=omega) only [go_sem,rvE_length,strE_len])))
    all_goals exact tail
end Go.Proofs.YtkldmgnhbomknaaGreat
