/- Contracts of functions of the given program. Conditions: as each theorem says. -/
import Derived.Test.YtkldmgnhbomknaaGreatQZKGB
import Derived.Test.YtkldmgnhbomknaaGreatVmV
set_option linter.unusedVariables false
set_option linter.unusedSimpArgs false
namespace Go.Proofs.YtkldmgnhbomknaaGreat
open Go.Vm Go.Sort
attribute [local go_sem] eq_self decide_true decide_false AH.put_ne
attribute [local go_sem_proc] Nat.reduceBEq Nat.reduceAdd Nat.reduceSub Nat.reduceMul Nat.reduceEqDiff Nat.reduceLeDiff Nat.reduceLT Int.reduceLE Int.reduceLT Int.reduceToNat Int.reduceAdd Int.reduceEq Int.reduceNeg
attribute [local go_sem] List.drop_zero toNat_succ Nat.sub_zero Int.toNat_natCast Option.map_some Int.natCast_nonneg decide_eq_true_eq decide_eq_false_iff_not
/- flange/flangelaw04.To -/
abbrev k16_0 : MC :=
 (.seq (.reg [
 vl 34 (.load true 1 (.t 3)),
 ⟨none,none,.store 1 (.t 2) (.t 34)⟩] [2]) (.ret))
abbrev k16_1 : MC :=
 .cond (.t 40) (.skip) (.reg [
 vl 42 (.bin .eql .num (.t 10) (.c (.int .i64 7))),
 mv 40 42] [1,2,40])
abbrev k16_2 : MC :=
 .cond (.t 47) (.skip) (.exit 1)
abbrev k16_3 : MC :=
 .reg [
 mv 48 6,
 vl 49 (.bin .add .num (.t 48) (.c (.int .i64 1))),
 mv 6 49] [1,2,5,6]
abbrev k16_4 : MC :=
 (.seq (.block 2 (.reg [
 mv 50 5,
 vl 51 (.faddr 5 (.t 1)),
 vl 52 (.load false 1 (.t 51)),
 mv 53 6,
 vl 54 (.iaddr 7 (.t 52) (.t 53)),
 vl 55 (.load true 7 (.t 54)),
 ⟨some 56,none,.call 16 [(.t 55)]⟩,
 ⟨some 57,none,.bslice 1 1 [.nilIface] [(0,1,(.t 56))]⟩,
 ⟨some 58,none,.app 1 16 (.t 50) (.t 57)⟩,
 mv 5 58] [1,2,5,6])) k16_3)
abbrev k16_5 : MC :=
 (.seq ((.seq (.reg [
 mv 43 6,
 vl 44 (.faddr 5 (.t 1)),
 vl 45 (.load false 1 (.t 44)),
 vl 46 (.len .sl (.t 45)),
 vl 47 (.bin .lss .num (.t 43) (.t 46))] [1,2,5,6,47]) k16_2)) k16_4)
abbrev k16_6 : MC :=
 .block 1 (.loop k16_5)
abbrev k16_7 : MC :=
 .cond (.t 61) ((.seq (.reg [
 mv 62 5,
 ⟨some 63,none,.call 45 [(.t 62)]⟩,
 ⟨none,none,.store 1 (.t 2) (.t 63)⟩] [2]) (.ret))) (.skip)
abbrev k16_8 : MC :=
 (.seq (.reg [
 vl 71 (.load true 1 (.t 7)),
 ⟨none,none,.store 1 (.t 2) (.t 71)⟩] [2]) (.ret))
abbrev k16_9 : MC :=
 (.seq (.reg [
 vl 65 (.faddr 6 (.t 1)),
 vl 66 (.load false 1 (.t 65)),
 mv 67 5,
 ⟨some 68,none,.call 46 [(.t 66),(.t 67)]⟩,
 mv 64 68,
 vl 69 (.ext (.t 64) 0),
 vl 70 (.ext (.t 64) 1),
 ⟨some 7,none,.zalloc [.nilIface]⟩,
 ⟨none,none,.store 1 (.t 7) (.t 69)⟩,
 mv 8 70] [2,7]) k16_8)
abbrev k16_10 : MC :=
 (.seq ((.seq (.reg [
 vl 59 (.faddr 0 (.t 1)),
 vl 60 (.load false 1 (.t 59)),
 vl 61 (.bin .eql .num (.t 60) (.c (.int .i64 6)))] [1,2,5,61]) k16_7)) k16_9)
abbrev k16_11 : MC :=
 (.seq ((.seq (.reg [
 vl 6 (.mv (.c (.int .i64 0)))] [1,2,5,6]) k16_6)) k16_10)
abbrev k16_12 : MC :=
 .cond (.t 40) ((.seq (.reg [
 vl 5 (.mv (.c .nilSl))] [1,2,5]) k16_11)) (.skip)
abbrev k16_13 : MC :=
 .cond (.t 35) ((.seq (.reg [
 vl 37 (.faddr 4 (.t 1)),
 vl 38 (.load false 1 (.t 37)),
 ⟨some 39,none,.call 44 [(.t 38)]⟩,
 ⟨none,none,.store 1 (.t 2) (.t 39)⟩] [2]) (.ret))) ((.seq ((.seq (.reg [
 vl 41 (.bin .eql .num (.t 10) (.c (.int .i64 6))),
 mv 40 41] [1,2,10,40]) k16_1)) k16_12))
abbrev k16_14 : MC :=
 .cond (.t 24) ((.seq (.reg [
 vl 27 (.faddr 2 (.t 1)),
 vl 28 (.load false 1 (.t 27)),
 vl 29 (.faddr 3 (.t 1)),
 vl 30 (.load false 1 (.t 29)),
 ⟨some 31,none,.call 43 [(.t 28),(.t 30)]⟩,
 mv 26 31,
 vl 32 (.ext (.t 26) 0),
 vl 33 (.ext (.t 26) 1),
 ⟨some 3,none,.zalloc [.nilIface]⟩,
 ⟨none,none,.store 1 (.t 3) (.t 32)⟩,
 mv 4 33] [2,3]) k16_0)) ((.seq (.reg [
 vl 36 (.bin .eql .num (.t 10) (.c (.int .i64 5))),
 mv 35 36] [1,2,10,35]) k16_13))
abbrev k16_15 : MC :=
 .cond (.t 19) ((.seq (.reg [
 vl 21 (.faddr 2 (.t 1)),
 vl 22 (.load false 1 (.t 21)),
 ⟨some 23,none,.call 42 [(.t 22)]⟩,
 ⟨none,none,.store 1 (.t 2) (.t 23)⟩] [2]) (.ret))) ((.seq (.reg [
 vl 25 (.bin .eql .num (.t 10) (.c (.int .i64 4))),
 mv 24 25] [1,2,10,24]) k16_14))
abbrev k16_16 : MC :=
 .cond (.t 14) ((.seq (.reg [
 vl 16 (.faddr 1 (.t 1)),
 vl 17 (.load false 1 (.t 16)),
 ⟨some 18,none,.call 41 [(.t 17)]⟩,
 ⟨none,none,.store 1 (.t 2) (.t 18)⟩] [2]) (.ret))) ((.seq (.reg [
 vl 20 (.bin .eql .num (.t 10) (.c (.int .i64 3))),
 mv 19 20] [1,2,10,19]) k16_15))
abbrev k16_17 : MC :=
 .cond (.t 11) ((.seq (.reg [
 ⟨some 13,none,.call 40 []⟩,
 ⟨none,none,.store 1 (.t 2) (.t 13)⟩] [2]) (.ret))) ((.seq (.reg [
 vl 15 (.bin .eql .num (.t 10) (.c (.int .i64 2))),
 mv 14 15] [1,2,10,14]) k16_16))
abbrev k16_18 : MC :=
 .block 0 ((.seq (.reg [
 vl 12 (.bin .eql .num (.t 10) (.c (.int .i64 1))),
 mv 11 12] [1,2,10,11]) k16_17))
abbrev k16_19 : MC :=
 (.seq (.reg [
 ⟨some 72,none,.call 47 []⟩,
 ⟨none,none,.store 1 (.t 2) (.t 72)⟩] [2]) (.ret))
abbrev k16_20 : MC :=
 (.seq ((.seq (.reg [
 vl 9 (.faddr 0 (.t 1)),
 vl 10 (.load false 1 (.t 9))] [1,2,10]) k16_18)) k16_19)
abbrev k16 : MC :=
 (.seq (.reg [
 ⟨some 1,none,.boxi (.t 0)⟩,
 ⟨some 2,none,.zalloc [.nilIface]⟩] [1,2]) k16_20)
theorem c16 : Tryz.f16.body.bind (mcOf Tryz.prog (List.contains [1] ·) (List.getD [([],[1,2]),([],[1,2,10]),([],[1,2,10,11]),([],[2]),([],[1,2,10,14]),([],[2]),([],[1,2,10,19]),([],[2]),([],[1,2,10,24]),([],[2,3]),([],[2]),([],[1,2,10,35]),([],[2]),([],[1,2,10,40]),([],[1,2,40]),([],[1,2,5]),([],[1,2,5,6]),([],[1,2,5,6,47]),([],[1,2,5,6]),([],[1,2,5,6]),([],[1,2,5,61]),([],[2]),([],[2,7]),([],[2]),([],[2])] · ([],[])) 73) = some k16 := by kernel_rfl
theorem r16 : rvsOf Tryz.prog Tryz.f16.results.toList = some [.cell 2 true 1] := by kernel_rfl
def toV : Rv → Vl
  | .mk K B N M S L Keys =>
    if K = 1 then .unk else if K = 2 then .bool B else if K = 3 then .int N else if K = 4 then ptV N M else if K = 5 then .text S else if K = 6 then .list (L.map fun x => toV x) else if K = 7 then (mapR Keys (L.map fun x => toV x)).1 else .nul
termination_by r => SizeOf.sizeOf r
decreasing_by
  all_goals (have := List.sizeOf_lt_of_mem ‹_ ∈ L›; simp only [Rv.mk.sizeOf_spec]; omega)
theorem toV_eq (r : Rv) : toV r = if r.K = 1 then .unk else if r.K = 2 then .bool r.B else if r.K = 3 then .int r.N else if r.K = 4 then ptV r.N r.M else if r.K = 5 then .text r.S else if r.K = 6 then .list (r.L.map toV) else if r.K = 7 then (mapR r.Keys (r.L.map toV)).1 else .nul := by
  cases r; rw [toV]; rfl
theorem toV_6 {r : Rv} (h : r.K = 6) : toV r = .list (r.L.map toV) := by rw [toV_eq]; simp [h]
theorem toV_7 {r : Rv} (h : r.K = 7) : toV r = (mapR r.Keys (r.L.map toV)).1 := by rw [toV_eq]; simp [h]
theorem acalls_args {f : Nat} {vs us : List V} {H : AH} {Q : Out → AH → Prop} (h : ACalls Tryz.prog f us H Q) (hs : ∀ s : St,Subs s vs us) : ACalls Tryz.prog f vs H Q := fun s xs hr hv => h s xs hr (vals_sub (hs s) hv)
theorem list_callsA {v : V} {l : List Vl} (hv : ∀ (s : St) x,s.val v x → s.val (.sl 1 (vE l) .no) x) (hl : l.length * 16 ≤ 140000000000000) (H : AH) : ACalls Tryz.prog 45 [v] H (fun o H' => o = .ret (.agg [vV (.list l)]) ∧ H' = H) :=
  acalls_args (list_calls hl H) fun s => .cons (hv s) .nil
theorem map_callsA {v : V} {ks : List (List UInt8)} {t : Tok} {l : List Vl} (hv : ∀ (s : St) x,s.val v x → s.val (.sl 1 (vE l) .no) x) (hl : l.length * 16 ≤ 140000000000000) (H : AH) : ACalls Tryz.prog 46 [.sl 1 (strE ks) t,v] H (fun o H' => o = .ret (.tuple [.agg [vV (mapR ks l).1],.int .i64 (mapR ks l).2]) ∧ H' = H) :=
  acalls_args (map_calls hl H) fun s => .cons (fun _ h => h) (.cons (hv s) .nil)
theorem to_calls : ∀ (r : Rv),r.Fit → ∀ (H : AH),ACalls Tryz.prog 16 [.agg [.int .i64 r.K,.bool r.B,.int .i64 r.N,.int .i64 r.M,.str r.S,.sl 7 (rvE r.L) .no,.sl 1 (strE r.Keys) .no]] H (fun o H' => o = .ret (.agg [vV (toV r)]) ∧ H' = H) := by
  refine Rv.ind fun r ih hf H => ?_
  refine ACalls.drop ?_
  have hb := hf.l
  have tail : ∀ ko,H ko = none → (r.K = 6 ∨ r.K = 7) → AM Tryz.prog Tryz.f16.ntmps (.loop k16_5) (BQ 1 (SQ Tryz.prog Tryz.f16.ntmps k16_10 (BQ 0 (SQ Tryz.prog Tryz.f16.ntmps k16_19 (Body [RV.cell 2 true 1] fun o H' => (∃ u,o = Out.ret u ∧ ∀ (s : St) (x : Value),s.val u x → s.val (V.agg [vV (toV r)]) x) ∧ H.le H')))))
      [(1,.rptr [.int .i64 r.K,.bool r.B,.int .i64 r.N,.int .i64 r.M,.str r.S,.sl 7 (rvE r.L) .no,.sl 1 (strE r.Keys) .no] 0),(2,.ptr ko 0),(5,.nilSl),(6,.int .i64 0)] (H.put ko (.cells [.nilIface])) := by
    intro ko hko hK
    refine am_loop (fun n a H' => ∃ (i : Nat) (v : V),i + n = r.L.length ∧ a = [(1,.rptr [.int .i64 r.K,.bool r.B,.int .i64 r.N,.int .i64 r.M,.str r.S,.sl 7 (rvE r.L) .no,.sl 1 (strE r.Keys) .no] 0),(2,.ptr ko 0),(5,v),(6,.int .i64 i)] ∧ AccP (H.put ko (.cells [.nilIface])) 1 (vE ((r.L.take i).map toV)) v H') ?_ r.L.length ⟨0,.nilSl,by omega,rfl,AH.le_refl _,.inl ⟨rfl,rfl⟩⟩
    rintro n a H' ⟨i,v,hi,rfl,hacc⟩
    have hk : H' ko = some (.cells [.nilIface]) := hacc.le _ _ (AH.put_same _ _ _)
    have hle : H.le H' := AH.le_trans (AH.le_put (AH.le_refl _) hko _) hacc.le
    by_cases hlt : i < r.L.length
    · have hc1 := ih r.L[i] (List.getElem_mem hlt) (hf.m _ (List.getElem_mem hlt))
      have e : vE ((r.L.take i).map toV) ++ [[vV (toV r.L[i])]] = vE ((r.L.take (i + 1)).map toV) := by
        rw [List.take_succ_eq_append_getElem hlt,List.map_append,← vE_app]; rfl
      repeat' (first|with_reducible refine go0 ?_|(with_reducible refine am_cnd ?_ ?_<;>intro hc<;>try (exfalso;omega))|((first|with_reducible (first|refine go1 ?_|refine vc_intro ?_|refine need_el ?_|refine vlen_a ?_|refine need_by ?_|refine call_of (hc1) ?_|refine qcall_of (hc1) ?_|refine need_lk ?_)|((with_reducible refine alloc_intro (fun ko hko=>?_))<;>(try have hne:=fresh_ne (by assumption) hko)<;>(try have hnk:=fresh_ne hk hko)<;>(try simp only [AH.put_none] at hko))|((with_reducible refine vapp_go ?_ (fun v2 H2 hacc hlec=>?_));· simp only [byteCells_length,List.length_cons,List.length_nil,List.length_map,List.length_append,vE_length,mE_length,strE_len,List.length_take,rvE_length];omega)|done)<;>(try simp -implicitDefEqProofs (disch:=omega) only [go_sem,wrap_id,rvE_length,rvE_get hlt])))
      all_goals exact ⟨n - 1,by omega,i + 1,_,by omega,rfl,by rw [← e]; exact hacc⟩
    · have e : r.L.take i = r.L := List.take_of_length_le (by omega)
      rw [e] at hacc
      have hl : (r.L.map toV).length * 16 ≤ 140000000000000 := by rw [List.length_map]; omega
      repeat' (first|with_reducible refine go0 ?_|(with_reducible refine am_cnd ?_ ?_<;>intro hc<;>try (exfalso;omega))|((first|with_reducible (first|refine go1 ?_|refine vc_intro ?_|refine need_el ?_|refine vlen_a ?_|refine need_by ?_|refine call_of (list_callsA (fun s x h=>AccP.sub hacc s x h) hl) ?_|refine qcall_of (list_callsA (fun s x h=>AccP.sub hacc s x h) hl) ?_|refine call_of (map_callsA (fun s x h=>AccP.sub hacc s x h) hl) ?_|refine qcall_of (map_callsA (fun s x h=>AccP.sub hacc s x h) hl) ?_|refine need_lk ?_)|((with_reducible refine alloc_intro (fun ko hko=>?_))<;>(try have hne:=fresh_ne (by assumption) hko)<;>(try have hnk:=fresh_ne hk hko)<;>(try simp only [AH.put_none] at hko))|((with_reducible refine vapp_go ?_ (fun v2 H2 hacc hlec=>?_));· simp only [byteCells_length,List.length_cons,List.length_nil,List.length_map,List.length_append,vE_length,mE_length,strE_len,List.length_take,rvE_length];omega)|done)<;>(try simp -implicitDefEqProofs (disch:=omega) only [go_sem,rvE_length,e,hk])))
      · have h6 : r.K = 6 := by assumption
        rw [toV_6 h6]; (refine drop_end (by (first | exact fun _ _ h => h | (intro s x h; first | exact no_sub _ h | exact nil_no _ h | exact AccP.sub (by assumption) _ _ h | (refine agg_sub rfl ?_ x h; repeat (first | exact .nil | refine .cons (fun _ h => h) ?_ | refine .cons (fun _ h => nil_no _ h) ?_ | refine .cons (fun _ h => no_sub _ h) ?_ | refine .cons (fun _ h => AccP.sub (by assumption) _ _ h) ?_)) | (refine tuple_sub ?_ x h; repeat (first | exact .nil | refine .cons (fun _ h => h) ?_ | refine .cons (fun _ h => nil_no _ h) ?_ | refine .cons (fun _ h => no_sub _ h) ?_ | refine .cons (fun _ h => AccP.sub (by assumption) _ _ h) ?_ | refine .cons (fun _ h => agg_sub rfl (by repeat (first | exact .nil | refine .cons (fun _ h => h) ?_ | refine .cons (fun _ h => nil_no _ h) ?_ | refine .cons (fun _ h => no_sub _ h) ?_ | refine .cons (fun _ h => AccP.sub (by assumption) _ _ h) ?_)) _ h) ?_))))) (by (repeat (first | exact AH.le_refl _ | assumption | exact AccP.le (by assumption) | refine AH.le_put ?_ (by first | assumption | exact none_of_le (by assumption) (by assumption) | exact And.right (by assumption) | exact And.right (And.right (by assumption))) _ | refine AH.le_trans ?_ (AccP.le (by assumption))))))
      · have h7 : r.K = 7 := by omega
        rw [toV_7 h7]; (refine drop_end (by (first | exact fun _ _ h => h | (intro s x h; first | exact no_sub _ h | exact nil_no _ h | exact AccP.sub (by assumption) _ _ h | (refine agg_sub rfl ?_ x h; repeat (first | exact .nil | refine .cons (fun _ h => h) ?_ | refine .cons (fun _ h => nil_no _ h) ?_ | refine .cons (fun _ h => no_sub _ h) ?_ | refine .cons (fun _ h => AccP.sub (by assumption) _ _ h) ?_)) | (refine tuple_sub ?_ x h; repeat (first | exact .nil | refine .cons (fun _ h => h) ?_ | refine .cons (fun _ h => nil_no _ h) ?_ | refine .cons (fun _ h => no_sub _ h) ?_ | refine .cons (fun _ h => AccP.sub (by assumption) _ _ h) ?_ | refine .cons (fun _ h => agg_sub rfl (by repeat (first | exact .nil | refine .cons (fun _ h => h) ?_ | refine .cons (fun _ h => nil_no _ h) ?_ | refine .cons (fun _ h => no_sub _ h) ?_ | refine .cons (fun _ h => AccP.sub (by assumption) _ _ h) ?_)) _ h) ?_))))) (by (repeat (first | exact AH.le_refl _ | assumption | exact AccP.le (by assumption) | refine AH.le_put ?_ (by first | assumption | exact none_of_le (by assumption) (by assumption) | exact And.right (by assumption) | exact And.right (And.right (by assumption))) _ | refine AH.le_trans ?_ (AccP.le (by assumption))))))
  refine acalls Tryz.func16 c16 r16 (by simp [Tryz.ntmps16]) ?_
  repeat' (first|with_reducible refine go0 ?_|(with_reducible refine am_cnd ?_ ?_<;>intro hc<;>try (exfalso;omega))|((first|with_reducible (first|refine go1 ?_|refine vc_intro ?_|refine need_el ?_|refine vlen_a ?_|refine need_by ?_|refine call_of (mlater_calls) ?_|refine qcall_of (mlater_calls) ?_|refine call_of (mof_calls _) ?_|refine qcall_of (mof_calls _) ?_|refine call_of (mint_calls _) ?_|refine qcall_of (mint_calls _) ?_|refine call_of (mpoint_calls _ _) ?_|refine qcall_of (mpoint_calls _ _) ?_|refine call_of (mtext_calls _) ?_|refine qcall_of (mtext_calls _) ?_|refine call_of (munset_calls) ?_|refine qcall_of (munset_calls) ?_|refine need_lk ?_)|((with_reducible refine alloc_intro (fun ko hko=>?_))<;>(try have hne:=fresh_ne (by assumption) hko)<;>(try have hnk:=fresh_ne hk hko)<;>(try simp only [AH.put_none] at hko))|((with_reducible refine vapp_go ?_ (fun v2 H2 hacc hlec=>?_));· simp only [byteCells_length,List.length_cons,List.length_nil,List.length_map,List.length_append,vE_length,mE_length,strE_len,List.length_take,rvE_length];omega)|done)<;>(try simp -implicitDefEqProofs (disch:=omega) only [go_sem])))
  all_goals first
    | exact tail _ hko (.inl (by assumption))
    | exact tail _ hko (.inr (by assumption))
    | (have e := toV_eq r; simp [*] at e; rw [e]; (refine drop_end (by (first | exact fun _ _ h => h | (intro s x h; first | exact no_sub _ h | exact nil_no _ h | exact AccP.sub (by assumption) _ _ h | (refine agg_sub rfl ?_ x h; repeat (first | exact .nil | refine .cons (fun _ h => h) ?_ | refine .cons (fun _ h => nil_no _ h) ?_ | refine .cons (fun _ h => no_sub _ h) ?_ | refine .cons (fun _ h => AccP.sub (by assumption) _ _ h) ?_)) | (refine tuple_sub ?_ x h; repeat (first | exact .nil | refine .cons (fun _ h => h) ?_ | refine .cons (fun _ h => nil_no _ h) ?_ | refine .cons (fun _ h => no_sub _ h) ?_ | refine .cons (fun _ h => AccP.sub (by assumption) _ _ h) ?_ | refine .cons (fun _ h => agg_sub rfl (by repeat (first | exact .nil | refine .cons (fun _ h => h) ?_ | refine .cons (fun _ h => nil_no _ h) ?_ | refine .cons (fun _ h => no_sub _ h) ?_ | refine .cons (fun _ h => AccP.sub (by assumption) _ _ h) ?_)) _ h) ?_))))) (by (repeat (first | exact AH.le_refl _ | assumption | exact AccP.le (by assumption) | refine AH.le_put ?_ (by first | assumption | exact none_of_le (by assumption) (by assumption) | exact And.right (by assumption) | exact And.right (And.right (by assumption))) _ | refine AH.le_trans ?_ (AccP.le (by assumption)))))))
    | skip
end Go.Proofs.YtkldmgnhbomknaaGreat
namespace Go.Proofs.YtkldmgnhbomknaaGreat
open Go.Vm Go.Sort
attribute [local go_sem] eq_self decide_true decide_false AH.put_ne
attribute [local go_sem_proc] Nat.reduceBEq Nat.reduceAdd Nat.reduceSub Nat.reduceMul Nat.reduceEqDiff Nat.reduceLeDiff Nat.reduceLT Int.reduceLE Int.reduceLT Int.reduceToNat Int.reduceAdd Int.reduceEq Int.reduceNeg
attribute [local go_sem] List.drop_zero toNat_succ Nat.sub_zero Int.toNat_natCast Option.map_some Int.natCast_nonneg decide_eq_true_eq decide_eq_false_iff_not
/- flange/flangeref04.Clean -/
abbrev k15_0 : MC :=
 .cond (.t 48) (.skip) (.exit 1)
abbrev k15_1 : MC :=
 .reg [
 mv 49 4,
 vl 50 (.bin .add .num (.t 49) (.c (.int .i64 1))),
 mv 4 50] [1,2,3,4]
abbrev k15_2 : MC :=
 (.seq (.block 2 (.drw [
 vl 51 (.faddr 5 (.t 3)),
 vl 52 (.load false 1 (.t 51)),
 vl 53 (.faddr 5 (.t 1)),
 vl 54 (.load false 1 (.t 53)),
 mv 55 4,
 vl 56 (.iaddr 7 (.t 54) (.t 55)),
 vl 57 (.load true 7 (.t 56)),
 ⟨some 58,none,.call 15 [(.t 57)]⟩,
 ⟨some 59,none,.bslice 7 1 [(.int .i64 0),(.bool false),(.int .i64 0),(.int .i64 0),(.str []),.nilSl,.nilSl] [(0,7,(.t 58))]⟩,
 vl 61 (.faddr 5 (.t 3))] [
 ⟨some 60,none,.app 7 96 (.t 52) (.t 59)⟩,
 ⟨none,none,.store 1 (.t 61) (.t 60)⟩] [1,2,3,4])) k15_1)
abbrev k15_3 : MC :=
 (.seq ((.seq (.reg [
 mv 44 4,
 vl 45 (.faddr 5 (.t 1)),
 vl 46 (.load false 1 (.t 45)),
 vl 47 (.len .sl (.t 46)),
 vl 48 (.bin .lss .num (.t 44) (.t 47))] [1,2,3,4,48]) k15_0)) k15_2)
abbrev k15_4 : MC :=
 .block 1 (.loop k15_3)
abbrev k15_5 : MC :=
 (.seq (.reg [
 vl 62 (.load true 7 (.t 3)),
 ⟨none,none,.store 7 (.t 2) (.t 62)⟩] [2]) (.ret))
abbrev k15_6 : MC :=
 (.seq ((.seq (.reg [
 vl 4 (.mv (.c (.int .i64 0)))] [1,2,3,4]) k15_4)) k15_5)
abbrev k15_7 : MC :=
 .cond (.t 77) (.skip) (.exit 3)
abbrev k15_8 : MC :=
 .cond (.t 97) (.skip) (.exit 5)
abbrev k15_9 : MC :=
 .block 6 (.reg [
 mv 98 7,
 vl 99 (.bin .add .num (.t 98) (.c (.int .i64 1))),
 mv 7 99] [1,2,5,6,7])
abbrev k15_10 : MC :=
 (.seq ((.seq (.drw [
 mv 80 7,
 vl 81 (.faddr 6 (.t 5)),
 vl 82 (.load false 1 (.t 81)),
 vl 83 (.len .sl (.t 82)),
 vl 84 (.bin .lss .num (.t 80) (.t 83)),
 mv 85 84,
 ⟨some 86,(some (85,true)),.val (.faddr 6 (.t 5))⟩,
 ⟨some 87,(some (85,true)),.val (.load false 1 (.t 86))⟩,
 ⟨some 88,(some (85,true)),.val (.mv (.t 7))⟩,
 ⟨some 89,(some (85,true)),.val (.iaddr 1 (.t 87) (.t 88))⟩,
 ⟨some 90,(some (85,true)),.val (.load false 1 (.t 89))⟩,
 ⟨some 91,(some (85,true)),.val (.faddr 6 (.t 1))⟩,
 ⟨some 92,(some (85,true)),.val (.load false 1 (.t 91))⟩,
 ⟨some 93,(some (85,true)),.val (.mv (.t 6))⟩,
 ⟨some 94,(some (85,true)),.val (.iaddr 1 (.t 92) (.t 93))⟩,
 ⟨some 95,(some (85,true)),.val (.load false 1 (.t 94))⟩,
 ⟨some 96,(some (85,true)),.val (.bin .lss .num (.t 90) (.t 95))⟩,
 vl 97 (.pick (.t 85) (.t 96) (.c (.bool false)))] [] [1,2,5,6,7,97]) k15_8)) k15_9)
abbrev k15_11 : MC :=
 .cond (.t 117) (.exit 4) (.skip)
abbrev k15_12 : MC :=
 .reg [
 mv 152 9,
 vl 153 (.faddr 5 (.t 5)),
 vl 154 (.load false 1 (.t 153)),
 mv 155 7,
 vl 156 (.slc (some 7) (.t 154) (some (.t 155)) none none),
 ⟨some 157,none,.app 7 96 (.t 152) (.t 156)⟩,
 vl 158 (.faddr 5 (.t 5)),
 ⟨none,none,.store 1 (.t 158) (.t 157)⟩] [1,2,5,6]
abbrev k15_13 : MC :=
 (.seq (.reg [
 mv 145 8,
 vl 146 (.faddr 6 (.t 5)),
 vl 147 (.load false 1 (.t 146)),
 mv 148 7,
 vl 149 (.slc (some 1) (.t 147) (some (.t 148)) none none),
 ⟨some 150,none,.app 1 16 (.t 145) (.t 149)⟩,
 vl 151 (.faddr 6 (.t 5)),
 ⟨none,none,.store 1 (.t 151) (.t 150)⟩] [1,2,5,6,7,9]) k15_12)
abbrev k15_14 : MC :=
 (.seq (.drw [
 ⟨some 131,none,.bslice 7 0 [] []⟩,
 vl 132 (.faddr 5 (.t 5)),
 vl 133 (.load false 1 (.t 132)),
 mv 134 7,
 vl 135 (.slc (some 7) (.t 133) none (some (.t 134)) none),
 vl 137 (.faddr 5 (.t 1)),
 vl 138 (.load false 1 (.t 137)),
 mv 139 6,
 vl 140 (.iaddr 7 (.t 138) (.t 139)),
 vl 141 (.load true 7 (.t 140)),
 ⟨some 142,none,.call 15 [(.t 141)]⟩,
 ⟨some 143,none,.bslice 7 1 [(.int .i64 0),(.bool false),(.int .i64 0),(.int .i64 0),(.str []),.nilSl,.nilSl] [(0,7,(.t 142))]⟩] [
 ⟨some 136,none,.app 7 96 (.t 131) (.t 135)⟩,
 ⟨some 144,none,.app 7 96 (.t 136) (.t 143)⟩,
 mv 9 144] [1,2,5,6,7,8,9]) k15_13)
abbrev k15_15 : MC :=
 (.seq (.drw [
 ⟨some 118,none,.bslice 1 0 [] []⟩,
 vl 119 (.faddr 6 (.t 5)),
 vl 120 (.load false 1 (.t 119)),
 mv 121 7,
 vl 122 (.slc (some 1) (.t 120) none (some (.t 121)) none),
 vl 124 (.faddr 6 (.t 1)),
 vl 125 (.load false 1 (.t 124)),
 mv 126 6,
 vl 127 (.iaddr 1 (.t 125) (.t 126)),
 vl 128 (.load false 1 (.t 127)),
 ⟨some 129,none,.bslice 1 1 [(.str [])] [(0,1,(.t 128))]⟩] [
 ⟨some 123,none,.app 1 16 (.t 118) (.t 122)⟩,
 ⟨some 130,none,.app 1 16 (.t 123) (.t 129)⟩,
 mv 8 130] [1,2,5,6,7,8]) k15_14)
abbrev k15_16 : MC :=
 (.seq ((.seq (.drw [
 mv 100 7,
 vl 101 (.faddr 6 (.t 5)),
 vl 102 (.load false 1 (.t 101)),
 vl 103 (.len .sl (.t 102)),
 vl 104 (.bin .lss .num (.t 100) (.t 103)),
 mv 105 104,
 ⟨some 106,(some (105,true)),.val (.faddr 6 (.t 5))⟩,
 ⟨some 107,(some (105,true)),.val (.load false 1 (.t 106))⟩,
 ⟨some 108,(some (105,true)),.val (.mv (.t 7))⟩,
 ⟨some 109,(some (105,true)),.val (.iaddr 1 (.t 107) (.t 108))⟩,
 ⟨some 110,(some (105,true)),.val (.load false 1 (.t 109))⟩,
 ⟨some 111,(some (105,true)),.val (.faddr 6 (.t 1))⟩,
 ⟨some 112,(some (105,true)),.val (.load false 1 (.t 111))⟩,
 ⟨some 113,(some (105,true)),.val (.mv (.t 6))⟩,
 ⟨some 114,(some (105,true)),.val (.iaddr 1 (.t 112) (.t 113))⟩,
 ⟨some 115,(some (105,true)),.val (.load false 1 (.t 114))⟩,
 ⟨some 116,(some (105,true)),.val (.bin .eql .num (.t 110) (.t 115))⟩,
 vl 117 (.pick (.t 105) (.t 116) (.c (.bool false)))] [] [1,2,5,6,7,117]) k15_11)) k15_15)
abbrev k15_17 : MC :=
 (.seq (.block 5 (.loop k15_10)) k15_16)
abbrev k15_18 : MC :=
 .reg [
 mv 78 6,
 vl 79 (.bin .add .num (.t 78) (.c (.int .i64 1))),
 mv 6 79] [1,2,5,6]
abbrev k15_19 : MC :=
 (.seq (.block 4 ((.seq (.reg [
 vl 7 (.mv (.c (.int .i64 0)))] [1,2,5,6,7]) k15_17))) k15_18)
abbrev k15_20 : MC :=
 (.seq ((.seq (.reg [
 mv 66 6,
 vl 67 (.faddr 5 (.t 1)),
 vl 68 (.load false 1 (.t 67)),
 vl 69 (.len .sl (.t 68)),
 vl 70 (.bin .lss .num (.t 66) (.t 69)),
 mv 71 70,
 ⟨some 72,(some (71,true)),.val (.mv (.t 6))⟩,
 ⟨some 73,(some (71,true)),.val (.faddr 6 (.t 1))⟩,
 ⟨some 74,(some (71,true)),.val (.load false 1 (.t 73))⟩,
 ⟨some 75,(some (71,true)),.val (.len .sl (.t 74))⟩,
 ⟨some 76,(some (71,true)),.val (.bin .lss .num (.t 72) (.t 75))⟩,
 vl 77 (.pick (.t 71) (.t 76) (.c (.bool false)))] [1,2,5,6,77]) k15_7)) k15_19)
abbrev k15_21 : MC :=
 .block 3 (.loop k15_20)
abbrev k15_22 : MC :=
 (.seq (.reg [
 vl 159 (.load true 7 (.t 5)),
 ⟨none,none,.store 7 (.t 2) (.t 159)⟩] [2]) (.ret))
abbrev k15_23 : MC :=
 (.seq ((.seq (.reg [
 vl 6 (.mv (.c (.int .i64 0)))] [1,2,5,6]) k15_21)) k15_22)
abbrev k15_24 : MC :=
 .cond (.t 63) ((.seq (.reg [
 ⟨some 65,none,.build [(.int .i64 0),(.bool false),(.int .i64 0),(.int .i64 0),(.str []),.nilSl,.nilSl] [(0,1,(.c (.int .i64 7)))]⟩,
 ⟨some 5,none,.zalloc [(.int .i64 0),(.bool false),(.int .i64 0),(.int .i64 0),(.str []),.nilSl,.nilSl]⟩,
 ⟨none,none,.store 7 (.t 5) (.t 65)⟩] [1,2,5]) k15_23)) (.skip)
abbrev k15_25 : MC :=
 .cond (.t 41) ((.seq (.reg [
 ⟨some 43,none,.build [(.int .i64 0),(.bool false),(.int .i64 0),(.int .i64 0),(.str []),.nilSl,.nilSl] [(0,1,(.c (.int .i64 6)))]⟩,
 ⟨some 3,none,.zalloc [(.int .i64 0),(.bool false),(.int .i64 0),(.int .i64 0),(.str []),.nilSl,.nilSl]⟩,
 ⟨none,none,.store 7 (.t 3) (.t 43)⟩] [1,2,3]) k15_6)) ((.seq (.reg [
 vl 64 (.bin .eql .num (.t 11) (.c (.int .i64 7))),
 mv 63 64] [1,2,63]) k15_24))
abbrev k15_26 : MC :=
 .cond (.t 36) ((.seq (.reg [
 vl 38 (.faddr 4 (.t 1)),
 vl 39 (.load false 1 (.t 38)),
 ⟨some 40,none,.build [(.int .i64 0),(.bool false),(.int .i64 0),(.int .i64 0),(.str []),.nilSl,.nilSl] [(0,1,(.c (.int .i64 5))),(4,1,(.t 39))]⟩,
 ⟨none,none,.store 7 (.t 2) (.t 40)⟩] [2]) (.ret))) ((.seq (.reg [
 vl 42 (.bin .eql .num (.t 11) (.c (.int .i64 6))),
 mv 41 42] [1,2,11,41]) k15_25))
abbrev k15_27 : MC :=
 .cond (.t 25) ((.seq (.reg [
 vl 27 (.faddr 2 (.t 1)),
 vl 28 (.load false 1 (.t 27)),
 vl 29 (.mx true (.t 28) (.c (.int .i64 (-9007199254740992)))),
 vl 30 (.mx false (.t 29) (.c (.int .i64 9007199254740992))),
 vl 31 (.faddr 3 (.t 1)),
 vl 32 (.load false 1 (.t 31)),
 vl 33 (.mx true (.t 32) (.c (.int .i64 (-9007199254740992)))),
 vl 34 (.mx false (.t 33) (.c (.int .i64 9007199254740992))),
 ⟨some 35,none,.build [(.int .i64 0),(.bool false),(.int .i64 0),(.int .i64 0),(.str []),.nilSl,.nilSl] [(0,1,(.c (.int .i64 4))),(2,1,(.t 30)),(3,1,(.t 34))]⟩,
 ⟨none,none,.store 7 (.t 2) (.t 35)⟩] [2]) (.ret))) ((.seq (.reg [
 vl 37 (.bin .eql .num (.t 11) (.c (.int .i64 5))),
 mv 36 37] [1,2,11,36]) k15_26))
abbrev k15_28 : MC :=
 .cond (.t 20) ((.seq (.reg [
 vl 22 (.faddr 2 (.t 1)),
 vl 23 (.load false 1 (.t 22)),
 ⟨some 24,none,.build [(.int .i64 0),(.bool false),(.int .i64 0),(.int .i64 0),(.str []),.nilSl,.nilSl] [(0,1,(.c (.int .i64 3))),(2,1,(.t 23))]⟩,
 ⟨none,none,.store 7 (.t 2) (.t 24)⟩] [2]) (.ret))) ((.seq (.reg [
 vl 26 (.bin .eql .num (.t 11) (.c (.int .i64 4))),
 mv 25 26] [1,2,11,25]) k15_27))
abbrev k15_29 : MC :=
 .cond (.t 15) ((.seq (.reg [
 vl 17 (.faddr 1 (.t 1)),
 vl 18 (.load false 1 (.t 17)),
 ⟨some 19,none,.build [(.int .i64 0),(.bool false),(.int .i64 0),(.int .i64 0),(.str []),.nilSl,.nilSl] [(0,1,(.c (.int .i64 2))),(1,1,(.t 18))]⟩,
 ⟨none,none,.store 7 (.t 2) (.t 19)⟩] [2]) (.ret))) ((.seq (.reg [
 vl 21 (.bin .eql .num (.t 11) (.c (.int .i64 3))),
 mv 20 21] [1,2,11,20]) k15_28))
abbrev k15_30 : MC :=
 .cond (.t 12) ((.seq (.reg [
 ⟨some 14,none,.build [(.int .i64 0),(.bool false),(.int .i64 0),(.int .i64 0),(.str []),.nilSl,.nilSl] [(0,1,(.c (.int .i64 1)))]⟩,
 ⟨none,none,.store 7 (.t 2) (.t 14)⟩] [2]) (.ret))) ((.seq (.reg [
 vl 16 (.bin .eql .num (.t 11) (.c (.int .i64 2))),
 mv 15 16] [1,2,11,15]) k15_29))
abbrev k15_31 : MC :=
 .block 0 ((.seq (.reg [
 vl 13 (.bin .eql .num (.t 11) (.c (.int .i64 1))),
 mv 12 13] [1,2,11,12]) k15_30))
abbrev k15_32 : MC :=
 (.seq (.reg [
 ⟨some 160,none,.build [(.int .i64 0),(.bool false),(.int .i64 0),(.int .i64 0),(.str []),.nilSl,.nilSl] []⟩,
 ⟨none,none,.store 7 (.t 2) (.t 160)⟩] [2]) (.ret))
abbrev k15_33 : MC :=
 (.seq ((.seq (.reg [
 vl 10 (.faddr 0 (.t 1)),
 vl 11 (.load false 1 (.t 10))] [1,2,11]) k15_31)) k15_32)
abbrev k15 : MC :=
 (.seq (.reg [
 ⟨some 1,none,.boxi (.t 0)⟩,
 ⟨some 2,none,.zalloc [(.int .i64 0),(.bool false),(.int .i64 0),(.int .i64 0),(.str []),.nilSl,.nilSl]⟩] [1,2]) k15_33)
theorem c15 : Tryz.f15.body.bind (mcOf Tryz.prog (List.contains [1] ·) (List.getD [([],[1,2]),([],[1,2,11]),([],[1,2,11,12]),([],[2]),([],[1,2,11,15]),([],[2]),([],[1,2,11,20]),([],[2]),([],[1,2,11,25]),([],[2]),([],[1,2,11,36]),([],[2]),([],[1,2,11,41]),([],[1,2,3]),([],[1,2,3,4]),([],[1,2,3,4,48]),([],[1,2,3,4]),([0,0,0,0,0,0,0,0,0,2,0,2],[1,2,3,4]),([],[2]),([],[1,2,63]),([],[1,2,5]),([],[1,2,5,6]),([],[1,2,5,6,77]),([],[1,2,5,6]),([],[1,2,5,6,7]),([0,0,0,0,0,0,0,0,0,0,0,0,0,0,0,0,0,0],[1,2,5,6,7,97]),([],[1,2,5,6,7]),([0,0,0,0,0,0,0,0,0,0,0,0,0,0,0,0,0,0],[1,2,5,6,7,117]),([0,0,0,0,0,2,0,0,0,0,0,0,2,2],[1,2,5,6,7,8]),([0,0,0,0,0,2,0,0,0,0,0,0,0,2,2],[1,2,5,6,7,8,9]),([],[1,2,5,6,7,9]),([],[1,2,5,6]),([],[2]),([],[2])] · ([],[])) 161) = some k15 := by kernel_rfl
theorem r15 : rvsOf Tryz.prog Tryz.f15.results.toList = some [.cell 2 true 7] := by kernel_rfl
def cutI (n : Int) : Int := min (max n (-9007199254740992)) 9007199254740992
abbrev Re := List (List UInt8 × Rv)
def posK (k : List UInt8) : Re → Nat
  | [] => 0
  | p :: l => if p.1 < k then posK k l + 1 else 0
def insR (acc : Re) (k : List UInt8) (x : Rv) : Re :=
  if (acc[posK k acc]?.map Prod.fst) = some k then acc else acc.take (posK k acc) ++ (k,x) :: acc.drop (posK k acc)
def cleanR : Rv → Rv
  | .mk K B N M S L Keys =>
    if K = 1 then .mk 1 false 0 0 [] [] [] else if K = 2 then .mk 2 B 0 0 [] [] [] else if K = 3 then .mk 3 false N 0 [] [] [] else if K = 4 then .mk 4 false (cutI N) (cutI M) [] [] []
    else if K = 5 then .mk 5 false 0 0 S [] [] else if K = 6 then .mk 6 false 0 0 [] (L.map fun x => cleanR x) []
    else if K = 7 then .mk 7 false 0 0 [] (((Keys.zip (L.map fun x => cleanR x)).foldl (fun acc p => insR acc p.1 p.2) []).map Prod.snd) (((Keys.zip (L.map fun x => cleanR x)).foldl (fun acc p => insR acc p.1 p.2) []).map Prod.fst)
    else .mk 0 false 0 0 [] [] []
termination_by r => SizeOf.sizeOf r
decreasing_by
  all_goals (have := List.sizeOf_lt_of_mem ‹_ ∈ L›; simp only [Rv.mk.sizeOf_spec]; omega)
def entR (l : List (List UInt8 × Rv)) : Re := l.foldl (fun acc p => insR acc p.1 p.2) []
theorem cleanR_eq (r : Rv) : cleanR r = if r.K = 1 then .mk 1 false 0 0 [] [] [] else if r.K = 2 then .mk 2 r.B 0 0 [] [] [] else if r.K = 3 then .mk 3 false r.N 0 [] [] [] else if r.K = 4 then .mk 4 false (cutI r.N) (cutI r.M) [] [] []
    else if r.K = 5 then .mk 5 false 0 0 r.S [] [] else if r.K = 6 then .mk 6 false 0 0 [] (r.L.map cleanR) []
    else if r.K = 7 then .mk 7 false 0 0 [] ((entR (r.Keys.zip (r.L.map cleanR))).map Prod.snd) ((entR (r.Keys.zip (r.L.map cleanR))).map Prod.fst)
    else .mk 0 false 0 0 [] [] [] := by
  cases r; rw [cleanR]; rfl
theorem cl6 {r : Rv} (h : r.K = 6) : rvC (cleanR r) = [.int .i64 6,.bool false,.int .i64 0,.int .i64 0,.str [],.sl 7 (rvE (r.L.map cleanR)) .no,.sl 1 (strE []) .no] := by
  have e : cleanR r = .mk 6 false 0 0 [] (r.L.map cleanR) [] := by rw [cleanR_eq]; simp [h]
  rw [e,rvC_eq]; rfl
abbrev cleanPost (r : Rv) (H : AH) : Out → AH → Prop := fun o H' => (∃ u,o = Out.ret u ∧ ∀ (s : St) (x : Value),s.val u x → s.val (V.agg (rvC (cleanR r))) x) ∧ H.le H'
abbrev zeroC : List V := [.int .i64 0,.bool false,.int .i64 0,.int .i64 0,.str [],.nilSl,.nilSl]
theorem accp_store {H H' : AH} {sz : Nat} {es : List (List V)} {v : V} {kx : Nat} {cs : List V} (h : AccP H sz es v H') (hx : H kx = none) (hk : H' kx = some (.cells cs)) (p : AObj) : AccP H sz es v (H'.put kx p) := by
  refine ⟨AH.le_put h.1 hx p,h.2.imp id ?_⟩
  rintro ⟨i,hi,h2,h3⟩
  refine ⟨i,hi,h2,?_⟩
  rw [AH.put_ne]; exact h3
  rintro rfl; rw [h3] at hk; cases hk
theorem accp_sl {H H' : AH} {sz : Nat} {es : List (List V)} {c : List V} {v : V} (h : AccP H sz (es ++ [c]) v H') : ∃ k,v = .sl sz (es ++ [c]) (.id k) := by
  rcases h.2 with ⟨h,_⟩ | ⟨k,_,rfl,_⟩
  · exact absurd h (by simp)
  · exact ⟨k,rfl⟩
theorem clean6 {r : Rv} (hf : r.Fit) (h6 : r.K = 6) {H : AH} {kz kx : Nat} (hkz : H kz = none) (hkx : H kx = none) (hzx : kz ≠ kx)
    (ih : ∀ x ∈ r.L,x.Fit → ∀ (H : AH),ACalls Tryz.prog 15 [.agg [.int .i64 x.K,.bool x.B,.int .i64 x.N,.int .i64 x.M,.str x.S,.sl 7 (rvE x.L) .no,.sl 1 (strE x.Keys) .no]] H (fun o H' => o = .ret (.agg (rvC (cleanR x))) ∧ H' = H))
    {G : AH} (g1 : G kz = some (.cells zeroC)) (g2 : G kx = some (.cells [.int .i64 6,.bool false,.int .i64 0,.int .i64 0,.str [],.nilSl,.nilSl])) (g3 : H.le G) :
    AM Tryz.prog Tryz.f15.ntmps (.loop k15_3) (BQ 1 (SQ Tryz.prog Tryz.f15.ntmps k15_5 (BQ 0 (SQ Tryz.prog Tryz.f15.ntmps k15_32 (Body [RV.cell 2 true 7] (cleanPost r H))))))
      [(1,.rptr [.int .i64 r.K,.bool r.B,.int .i64 r.N,.int .i64 r.M,.str r.S,.sl 7 (rvE r.L) .no,.sl 1 (strE r.Keys) .no] 0),(2,.ptr kz 0),(3,.ptr kx 0),(4,.int .i64 0)] G := by
  have hb := hf.l
  refine am_loop (fun n a H' => ∃ (i : Nat) (v : V),i + n = r.L.length ∧ a = [(1,.rptr [.int .i64 r.K,.bool r.B,.int .i64 r.N,.int .i64 r.M,.str r.S,.sl 7 (rvE r.L) .no,.sl 1 (strE r.Keys) .no] 0),(2,.ptr kz 0),(3,.ptr kx 0),(4,.int .i64 i)] ∧ H' kz = some (.cells zeroC) ∧
    H' kx = some (.cells [.int .i64 6,.bool false,.int .i64 0,.int .i64 0,.str [],v,.nilSl]) ∧ AccP H 7 (rvE ((r.L.take i).map cleanR)) v H') ?_ r.L.length ⟨0,.nilSl,by omega,rfl,g1,g2,g3,.inl ⟨rfl,rfl⟩⟩
  rintro n a H' ⟨i,v,hi,rfl,hk,hk2,hacc⟩
  by_cases hlt : i < r.L.length
  · have hc1 := ih r.L[i] (List.getElem_mem hlt) (hf.m _ (List.getElem_mem hlt))
    have e : rvE ((r.L.take i).map cleanR) ++ [rvC (cleanR r.L[i])] = rvE ((r.L.take (i + 1)).map cleanR) := by
      rw [List.take_succ_eq_append_getElem hlt,List.map_append,← rvE_app]; rfl
    rw [rvC_eq] at e
    simp only [rvC_eq] at hc1
    repeat' (first|with_reducible refine go0 ?_|(with_reducible refine am_cnd ?_ ?_<;>intro hc<;>try (exfalso;omega))|((first|with_reducible (first|refine go1 ?_|refine vc_intro ?_|refine need_el ?_|refine vlen_a ?_|refine need_by ?_|refine call_of (hc1) ?_|refine qcall_of (hc1) ?_|refine need_lk ?_)|((with_reducible refine alloc_intro (fun ko hko=>?_))<;>(try have hne:=fresh_ne (by assumption) hko)<;>(try have hnk:=fresh_ne hk hko)<;>(try have hnk2:=fresh_ne hk2 hko)<;>(try simp only [AH.put_none] at hko))|((with_reducible refine vapp_go ?_ (fun v2 H2 hacc hlec=>?_));· simp only [byteCells_length,List.length_cons,List.length_nil,List.length_map,List.length_append,vE_length,mE_length,strE_len,List.length_take,rvE_length];omega)|done)<;>(try simp -implicitDefEqProofs (disch:=omega) only [go_sem,wrap_id,rvE_length,rvE_get hlt,hk2,hzx])))
    have hk' := look_lec hk hlec
    have hk2' := look_lec hk2 hlec
    obtain ⟨kk,rfl⟩ := accp_sl hacc
    have hacc2 := fun p => accp_store hacc hkx hk2' p
    simp -implicitDefEqProofs (disch := omega) only [go_sem,hk2']
    repeat' (first|with_reducible refine go0 ?_|(with_reducible refine am_cnd ?_ ?_<;>intro hc<;>try (exfalso;omega))|((first|with_reducible (first|refine go1 ?_|refine vc_intro ?_|refine need_el ?_|refine vlen_a ?_|refine need_by ?_|refine need_lk ?_)|((with_reducible refine alloc_intro (fun ko hko=>?_))<;>(try have hne:=fresh_ne (by assumption) hko)<;>(try have hnk:=fresh_ne hk hko)<;>(try have hnk2:=fresh_ne hk2 hko)<;>(try simp only [AH.put_none] at hko))|((with_reducible refine vapp_go ?_ (fun v2 H2 hacc hlec=>?_));· simp only [byteCells_length,List.length_cons,List.length_nil,List.length_map,List.length_append,vE_length,mE_length,strE_len,List.length_take,rvE_length];omega)|done)<;>(try simp -implicitDefEqProofs (disch:=omega) only [go_sem,wrap_id,hk2'])))
    all_goals exact ⟨n - 1,by omega,i + 1,_,by omega,rfl,hk',rfl,by rw [← e]; exact hacc2 _⟩
  · have e : r.L.take i = r.L := List.take_of_length_le (by omega)
    rw [e] at hacc
    repeat' (first|with_reducible refine go0 ?_|(with_reducible refine am_cnd ?_ ?_<;>intro hc<;>try (exfalso;omega))|((first|with_reducible (first|refine go1 ?_|refine vc_intro ?_|refine need_el ?_|refine vlen_a ?_|refine need_by ?_|refine need_lk ?_)|((with_reducible refine alloc_intro (fun ko hko=>?_))<;>(try have hne:=fresh_ne (by assumption) hko)<;>(try have hnk:=fresh_ne hk hko)<;>(try have hnk2:=fresh_ne hk2 hko)<;>(try simp only [AH.put_none] at hko))|((with_reducible refine vapp_go ?_ (fun v2 H2 hacc hlec=>?_));· simp only [byteCells_length,List.length_cons,List.length_nil,List.length_map,List.length_append,vE_length,mE_length,strE_len,List.length_take,rvE_length];omega)|done)<;>(try simp -implicitDefEqProofs (disch:=omega) only [go_sem,wrap_id,rvE_length,hk2,hk,hzx])))
    all_goals (refine drop_end (fun s x h => ?_) (AH.le_put hacc.le hkz _); rw [cl6 h6]; exact agg_sub rfl (.cons (fun _ h => h) (.cons (fun _ h => h) (.cons (fun _ h => h) (.cons (fun _ h => h) (.cons (fun _ h => h) (.cons (fun _ h => hacc.sub _ _ h) (.cons (fun _ h => nil_no _ h) .nil))))))) x h)
end Go.Proofs.YtkldmgnhbomknaaGreat
namespace Go.Proofs.YtkldmgnhbomknaaGreat
open Go.Vm Go.Sort
attribute [local go_sem] eq_self decide_true decide_false AH.put_ne
attribute [local go_sem_proc] Nat.reduceBEq Nat.reduceAdd Nat.reduceSub Nat.reduceMul Nat.reduceEqDiff Nat.reduceLeDiff Nat.reduceLT Int.reduceLE Int.reduceLT Int.reduceToNat Int.reduceAdd Int.reduceEq Int.reduceNeg
attribute [local go_sem] List.drop_zero toNat_succ Nat.sub_zero Int.toNat_natCast Option.map_some Int.natCast_nonneg decide_eq_true_eq decide_eq_false_iff_not
abbrev cx7 (acc : Re) : List V := [.int .i64 7,.bool false,.int .i64 0,.int .i64 0,.str [],.sl 7 (rvE (acc.map Prod.snd)) .no,.sl 1 (strE (acc.map Prod.fst)) .no]
theorem get_more (a b : A) {t : Nat} {v : V} (h : A.get a t = some v) : A.get (a ++ b) t = some v := by
  induction a with
  | nil => cases h
  | cons p a ih =>
    obtain ⟨u,w⟩ := p
    simp only [A.get,List.cons_append] at h ⊢
    split
    · rename_i e; rw [if_pos e] at h; exact h
    · rename_i e; rw [if_neg e] at h; exact ih h
theorem cl7 {r : Rv} (h : r.K = 7) : rvC (cleanR r) = [.int .i64 7,.bool false,.int .i64 0,.int .i64 0,.str [],.sl 7 (rvE ((entR (r.Keys.zip (r.L.map cleanR))).map Prod.snd)) .no,.sl 1 (strE ((entR (r.Keys.zip (r.L.map cleanR))).map Prod.fst)) .no] := by
  have e : cleanR r = .mk 7 false 0 0 [] ((entR (r.Keys.zip (r.L.map cleanR))).map Prod.snd) ((entR (r.Keys.zip (r.L.map cleanR))).map Prod.fst) := by rw [cleanR_eq]; simp [h]
  rw [e,rvC_eq]; rfl
theorem clean7_put {r : Rv} (hf : r.Fit) {kz kx i j : Nat} {acc : Re} (hlt : i < r.L.length) (hlt2 : i < r.Keys.length) (hj : j ≤ acc.length) (hal : acc.length ≤ i) {t1 t2 : Tok}
    (hc1 : ∀ (H : AH),ACalls Tryz.prog 15 [.agg [.int .i64 r.L[i].K,.bool r.L[i].B,.int .i64 r.L[i].N,.int .i64 r.L[i].M,.str r.L[i].S,.sl 7 (rvE r.L[i].L) .no,.sl 1 (strE r.L[i].Keys) .no]] H (fun o H' => o = .ret (.agg (rvC (cleanR r.L[i]))) ∧ H' = H))
    {G : AH} (hk2 : G kx = some (.cells [.int .i64 7,.bool false,.int .i64 0,.int .i64 0,.str [],.sl 7 (rvE (acc.map Prod.snd)) t1,.sl 1 (strE (acc.map Prod.fst)) t2]))
    {Q : AExit → A → AH → Prop}
    (hq : ∀ (G2 : AH) (t3 t4 : Tok),(∀ y o,y ≠ kx → G y = some o → G2 y = some o) →
      G2 kx = some (.cells [.int .i64 7,.bool false,.int .i64 0,.int .i64 0,.str [],.sl 7 (rvE ((acc.take j ++ (r.Keys[i],cleanR r.L[i]) :: acc.drop j).map Prod.snd)) t3,.sl 1 (strE ((acc.take j ++ (r.Keys[i],cleanR r.L[i]) :: acc.drop j).map Prod.fst)) t4]) →
      Q .normal [(1,.rptr [.int .i64 r.K,.bool r.B,.int .i64 r.N,.int .i64 r.M,.str r.S,.sl 7 (rvE r.L) .no,.sl 1 (strE r.Keys) .no] 0),(2,.ptr kz 0),(5,.ptr kx 0),(6,.int .i64 i)] G2) :
    AM Tryz.prog Tryz.f15.ntmps k15_15 Q [(1,.rptr [.int .i64 r.K,.bool r.B,.int .i64 r.N,.int .i64 r.M,.str r.S,.sl 7 (rvE r.L) .no,.sl 1 (strE r.Keys) .no] 0),(2,.ptr kz 0),(5,.ptr kx 0),(6,.int .i64 i),(7,.int .i64 j)] G := by
  have hb := hf.l
  have hb2 := hf.k
  simp only [rvC_eq] at hc1
  repeat' (first|with_reducible refine go0 ?_|(with_reducible refine am_cnd ?_ ?_<;>intro hc<;>try (exfalso;omega))|((first|with_reducible (first|refine go1 ?_|refine vc_intro ?_|refine need_el ?_|refine vlen_a ?_|refine need_by ?_|refine call_of (hc1) ?_|refine qcall_of (hc1) ?_|refine need_lk ?_)|((with_reducible (first|apply gd_not|apply gd_of|apply gq_not|apply gq_of|apply pickB_of))<;>intro hc<;>(try simp -implicitDefEqProofs (disch:=omega) only [go_sem,hc,wrap_id,rvE_length,strE_len,List.length_map,rvE_get hlt,strE_get hlt2,hk2])<;>(try simp only [reduceCtorEq,bD,beq_iff_eq] at hc)<;>(try (exfalso;omega)))|((with_reducible refine alloc_intro (fun ko hko=>?_))<;>(try have hne:=fresh_ne (by assumption) hko)<;>(try have hnk2:=fresh_ne hk2 hko)<;>(try simp only [AH.put_none] at hko))|((with_reducible refine vapp_go ?_ (fun v2 H2 hacc hlec=>?_));· simp only [byteCells_length,List.length_cons,List.length_nil,List.length_map,List.length_append,vE_length,mE_length,strE_len,List.length_take,rvE_length,List.length_map];omega)|done)<;>(try simp -implicitDefEqProofs (disch:=omega) only [go_sem,wrap_id,rvE_length,strE_len,List.length_map,rvE_get hlt,strE_get hlt2,hk2])))
  refine ⟨⟨by omega,by simp only [List.length_take,strE_len,List.length_map]; omega⟩,fun k1 hk1 => ⟨⟨by rw [List.nil_append],by simp only [List.nil_append,List.length_take,strE_len,List.length_map]; omega⟩,?_⟩⟩
  have m1 : kx ≠ k1 := fresh_ne hk2 hk1
  repeat' (first|with_reducible refine go0 ?_|(with_reducible refine am_cnd ?_ ?_<;>intro hc<;>try (exfalso;omega))|((first|with_reducible (first|refine go1 ?_|refine vc_intro ?_|refine need_el ?_|refine vlen_a ?_|refine need_by ?_|refine call_of (hc1) ?_|refine qcall_of (hc1) ?_|refine need_lk ?_)|((with_reducible (first|apply gd_not|apply gd_of|apply gq_not|apply gq_of|apply pickB_of))<;>intro hc<;>(try simp -implicitDefEqProofs (disch:=omega) only [go_sem,hc,wrap_id,rvE_length,strE_len,List.length_map,rvE_get hlt,strE_get hlt2,hk2,m1])<;>(try simp only [reduceCtorEq,bD,beq_iff_eq] at hc)<;>(try (exfalso;omega)))|((with_reducible refine alloc_intro (fun ko hko=>?_))<;>(try have hne:=fresh_ne (by assumption) hko)<;>(try have hnk2:=fresh_ne hk2 hko)<;>(try simp only [AH.put_none] at hko))|((with_reducible refine vapp_go ?_ (fun v2 H2 hacc hlec=>?_));· simp only [byteCells_length,List.length_cons,List.length_nil,List.length_map,List.length_append,vE_length,mE_length,strE_len,List.length_take,rvE_length,List.length_map];omega)|done)<;>(try simp -implicitDefEqProofs (disch:=omega) only [go_sem,wrap_id,rvE_length,strE_len,List.length_map,rvE_get hlt,strE_get hlt2,hk2,m1])))
  refine ⟨⟨by omega,by simp only [List.length_take,rvE_length,List.length_map]; omega⟩,fun k3 hk3 => ⟨⟨by rw [List.nil_append],by simp only [List.nil_append,List.length_take,rvE_length,List.length_map]; omega⟩,?_⟩⟩
  rw [AH.put_none] at hk3
  have m3 : kx ≠ k3 := fresh_ne hk2 hk3.2
  have m4 : k1 ≠ k3 := fun e => hk3.1 e.symm
  repeat' (first|with_reducible refine go0 ?_|(with_reducible refine am_cnd ?_ ?_<;>intro hc<;>try (exfalso;omega))|((first|with_reducible (first|refine go1 ?_|refine vc_intro ?_|refine need_el ?_|refine vlen_a ?_|refine need_by ?_|refine call_of (hc1) ?_|refine qcall_of (hc1) ?_|refine need_lk ?_)|((with_reducible (first|apply gd_not|apply gd_of|apply gq_not|apply gq_of|apply pickB_of))<;>intro hc<;>(try simp -implicitDefEqProofs (disch:=omega) only [go_sem,hc,wrap_id,rvE_length,strE_len,List.length_map,rvE_get hlt,strE_get hlt2,hk2,m1,m3,m4,AH.put_same])<;>(try simp only [reduceCtorEq,bD,beq_iff_eq] at hc)<;>(try (exfalso;omega)))|((with_reducible refine alloc_intro (fun ko hko=>?_))<;>(try have hne:=fresh_ne (by assumption) hko)<;>(try have hnk2:=fresh_ne hk2 hko)<;>(try simp only [AH.put_none] at hko))|((with_reducible refine vapp_go ?_ (fun v2 H2 hacc hlec=>?_));· simp only [byteCells_length,List.length_cons,List.length_nil,List.length_map,List.length_append,vE_length,mE_length,strE_len,List.length_take,rvE_length,List.length_map];omega)|done)<;>(try simp -implicitDefEqProofs (disch:=omega) only [go_sem,wrap_id,rvE_length,strE_len,List.length_map,rvE_get hlt,strE_get hlt2,hk2,m1,m3,m4,AH.put_same])))
  refine ⟨⟨by simp only [List.length_append,List.length_cons,List.length_nil],by simp only [List.nil_append,List.length_append,List.length_cons,List.length_nil,List.length_take,List.length_drop,strE_len,List.length_map]; omega⟩,?_⟩
  repeat' (first|with_reducible refine go0 ?_|(with_reducible refine am_cnd ?_ ?_<;>intro hc<;>try (exfalso;omega))|((first|with_reducible (first|refine go1 ?_|refine vc_intro ?_|refine need_el ?_|refine vlen_a ?_|refine need_by ?_|refine call_of (hc1) ?_|refine qcall_of (hc1) ?_|refine need_lk ?_)|((with_reducible (first|apply gd_not|apply gd_of|apply gq_not|apply gq_of|apply pickB_of))<;>intro hc<;>(try simp -implicitDefEqProofs (disch:=omega) only [go_sem,hc,wrap_id,rvE_length,strE_len,List.length_map,rvE_get hlt,strE_get hlt2,hk2,m1,m3,m4,AH.put_same,AH.put_ne _ _ m1,AH.put_ne _ _ m3,AH.put_ne _ _ hk3.1,AH.put_ne _ _ (Ne.symm m3)])<;>(try simp only [reduceCtorEq,bD,beq_iff_eq] at hc)<;>(try (exfalso;omega)))|((with_reducible refine alloc_intro (fun ko hko=>?_))<;>(try have hne:=fresh_ne (by assumption) hko)<;>(try have hnk2:=fresh_ne hk2 hko)<;>(try simp only [AH.put_none] at hko))|((with_reducible refine vapp_go ?_ (fun v2 H2 hacc hlec=>?_));· simp only [byteCells_length,List.length_cons,List.length_nil,List.length_map,List.length_append,vE_length,mE_length,strE_len,List.length_take,rvE_length,List.length_map];omega)|done)<;>(try simp -implicitDefEqProofs (disch:=omega) only [go_sem,wrap_id,rvE_length,strE_len,List.length_map,rvE_get hlt,strE_get hlt2,hk2,m1,m3,m4,AH.put_same,AH.put_ne _ _ m1,AH.put_ne _ _ m3,AH.put_ne _ _ hk3.1,AH.put_ne _ _ (Ne.symm m3)])))
  refine ⟨⟨by simp only [List.length_append,List.length_cons,List.length_nil],by simp only [List.nil_append,List.length_append,List.length_cons,List.length_nil,List.length_take,List.length_drop,rvE_length,List.length_map]; omega⟩,?_⟩
  refine hq _ (.id k3) (.id k1) (fun y o hne hy => ?_) ?_
  · have a1 : y ≠ k1 := fun e => by rw [e,hk1] at hy; cases hy
    have a3 : y ≠ k3 := fun e => by rw [e,hk3.2] at hy; cases hy
    simp only [AH.put_ne _ _ hne,AH.put_ne _ _ a1,AH.put_ne _ _ a3,hy]
  · have e1 : strE ((acc.take j ++ (r.Keys[i],cleanR r.L[i]) :: acc.drop j).map Prod.fst) = [] ++ (strE (acc.map Prod.fst)).take j ++ [[V.str r.Keys[i]]] ++ ((strE (acc.map Prod.fst)).drop j).take (acc.length - j) := by
      have e0 : ((strE (acc.map Prod.fst)).drop j).take (acc.length - j) = (strE (acc.map Prod.fst)).drop j := List.take_of_length_le (by simp [strE])
      rw [e0]
      simp [strE,List.map_take,List.map_drop]
    have e2 : rvE ((acc.take j ++ (r.Keys[i],cleanR r.L[i]) :: acc.drop j).map Prod.snd) = [] ++ (rvE (acc.map Prod.snd)).take j ++ [rvC (cleanR r.L[i])] ++ ((rvE (acc.map Prod.snd)).drop j).take (acc.length - j) := by
      have e0 : ((rvE (acc.map Prod.snd)).drop j).take (acc.length - j) = (rvE (acc.map Prod.snd)).drop j := List.take_of_length_le (by simp [rvE])
      rw [e0]
      simp [rvE,List.map_take,List.map_drop]
    rw [e1,e2,rvC_eq,AH.put_same]
theorem clean7 {r : Rv} (hf : r.Fit) (h7 : r.K = 7) {H : AH} {kz kx : Nat} (hkz : H kz = none) (hkx : H kx = none) (hzx : kz ≠ kx)
    (ih : ∀ x ∈ r.L,x.Fit → ∀ (H : AH),ACalls Tryz.prog 15 [.agg [.int .i64 x.K,.bool x.B,.int .i64 x.N,.int .i64 x.M,.str x.S,.sl 7 (rvE x.L) .no,.sl 1 (strE x.Keys) .no]] H (fun o H' => o = .ret (.agg (rvC (cleanR x))) ∧ H' = H))
    {G : AH} (g1 : G kz = some (.cells zeroC)) (g2 : G kx = some (.cells [.int .i64 7,.bool false,.int .i64 0,.int .i64 0,.str [],.nilSl,.nilSl])) (g3 : H.le G) :
    AM Tryz.prog Tryz.f15.ntmps (.loop k15_20) (BQ 3 (SQ Tryz.prog Tryz.f15.ntmps k15_22 (BQ 0 (SQ Tryz.prog Tryz.f15.ntmps k15_32 (Body [RV.cell 2 true 7] (cleanPost r H))))))
      [(1,.rptr [.int .i64 r.K,.bool r.B,.int .i64 r.N,.int .i64 r.M,.str r.S,.sl 7 (rvE r.L) .no,.sl 1 (strE r.Keys) .no] 0),(2,.ptr kz 0),(5,.ptr kx 0),(6,.int .i64 0)] G := by
  have hb := hf.l
  have hb2 := hf.k
  refine AM.subC (ds := cx7 []) ?_ g2 rfl (fun s => by repeat (first | exact .nil | refine .cons (fun _ h => h) ?_ | refine .cons (fun _ h => nil_no _ h) ?_ | refine .cons (fun _ h => no_sub _ h) ?_ | refine .cons (fun _ h => AccP.sub (by assumption) _ _ h) ?_))
  have hzl : (r.Keys.zip (r.L.map cleanR)).length = min r.Keys.length r.L.length := by rw [List.length_zip,List.length_map]
  refine am_loop (fun n a H' => ∃ (i : Nat) (acc : Re) (t1 t2 : Tok),i + n = min r.Keys.length r.L.length ∧ a = [(1,.rptr [.int .i64 r.K,.bool r.B,.int .i64 r.N,.int .i64 r.M,.str r.S,.sl 7 (rvE r.L) .no,.sl 1 (strE r.Keys) .no] 0),(2,.ptr kz 0),(5,.ptr kx 0),(6,.int .i64 i)] ∧ H' kz = some (.cells zeroC) ∧
    H' kx = some (.cells [.int .i64 7,.bool false,.int .i64 0,.int .i64 0,.str [],.sl 7 (rvE (acc.map Prod.snd)) t1,.sl 1 (strE (acc.map Prod.fst)) t2]) ∧ H.le H' ∧ acc = entR ((r.Keys.zip (r.L.map cleanR)).take i) ∧ acc.length ≤ i) ?_ (min r.Keys.length r.L.length) ⟨0,[],.no,.no,by omega,rfl,by rw [AH.put_ne _ _ hzx]; exact g1,AH.put_same _ _ _,AH.le_put g3 hkx _,rfl,by simp⟩
  rintro n a H' ⟨i,acc,t1,t2,hi,rfl,hk,hk2,hle,hacc,hlen⟩
  by_cases hlt : i < r.L.length ∧ i < r.Keys.length
  · obtain ⟨hlt,hlt2⟩ := hlt
    have hc1 := ih r.L[i] (List.getElem_mem hlt) (hf.m _ (List.getElem_mem hlt))
    have hstep : entR ((r.Keys.zip (r.L.map cleanR)).take (i + 1)) = insR acc r.Keys[i] (cleanR r.L[i]) := by
      rw [hacc,List.take_succ_eq_append_getElem (by omega),entR,List.foldl_append,List.getElem_zip,List.getElem_map]; rfl
    repeat' (first|with_reducible refine go0 ?_|(with_reducible refine am_cnd ?_ ?_<;>intro hc<;>try (exfalso;omega))|((first|with_reducible (first|refine go1 ?_|refine vc_intro ?_|refine need_el ?_|refine vlen_a ?_|refine need_by ?_|refine call_of (hc1) ?_|refine qcall_of (hc1) ?_|refine need_lk ?_)|((with_reducible (first|apply gd_not|apply gd_of|apply gq_not|apply gq_of|apply pickB_of))<;>intro hc<;>(try simp -implicitDefEqProofs (disch:=omega) only [go_sem,hc,wrap_id,rvE_length,strE_len,rvE_get hlt,strE_get hlt2,hk2,hk,hzx])<;>(try simp only [reduceCtorEq,bD,beq_iff_eq] at hc)<;>(try (exfalso;omega)))|((with_reducible refine alloc_intro (fun ko hko=>?_))<;>(try have hne:=fresh_ne (by assumption) hko)<;>(try have hnk:=fresh_ne hk hko)<;>(try have hnk2:=fresh_ne hk2 hko)<;>(try simp only [AH.put_none] at hko))|((with_reducible refine vapp_go ?_ (fun v2 H2 hacc hlec=>?_));· simp only [byteCells_length,List.length_cons,List.length_nil,List.length_map,List.length_append,vE_length,mE_length,strE_len,List.length_take,rvE_length,List.length_map];omega)|done)<;>(try simp -implicitDefEqProofs (disch:=omega) only [go_sem,wrap_id,rvE_length,strE_len,rvE_get hlt,strE_get hlt2,hk2,hk,hzx])))
    refine am_loop (fun n a G => ∃ j : Nat,j + n = acc.length ∧ a = [(1,.rptr [.int .i64 r.K,.bool r.B,.int .i64 r.N,.int .i64 r.M,.str r.S,.sl 7 (rvE r.L) .no,.sl 1 (strE r.Keys) .no] 0),(2,.ptr kz 0),(5,.ptr kx 0),(6,.int .i64 i),(7,.int .i64 j)] ∧ posK r.Keys[i] acc = j + posK r.Keys[i] (acc.drop j) ∧ G = H') ?_ acc.length ⟨0,by omega,rfl,by simp,rfl⟩
    rintro m a G2 ⟨j,hj,rfl,hpos,rfl⟩
    by_cases hjl : j < acc.length
    · rw [List.drop_eq_getElem_cons hjl,posK] at hpos
      have ej : (strE (acc.map Prod.fst))[j]? = some [.str acc[j].1] := by rw [strE_get (by rw [List.length_map]; exact hjl),List.getElem_map]
      by_cases hless : acc[j].1 < r.Keys[i]
      · rw [if_pos hless] at hpos
        have hless' : Op.bytesLess acc[j].1 r.Keys[i] = true := by rw [bytesLess_eq]; exact decide_eq_true hless
        repeat' (first|with_reducible refine go0 ?_|(with_reducible refine am_cnd ?_ ?_<;>intro hc<;>try (exfalso;omega))|((first|with_reducible (first|refine go1 ?_|refine vc_intro ?_|refine need_el ?_|refine vlen_a ?_|refine need_by ?_|refine need_lk ?_)|((with_reducible (first|apply gd_not|apply gd_of|apply gq_not|apply gq_of|apply pickB_of))<;>intro hc<;>(try simp -implicitDefEqProofs (disch:=omega) only [go_sem,hc,wrap_id,rvE_length,strE_len,List.length_map,strE_get hlt2,hk2,hk,hzx,ej,hless'])<;>(try simp only [reduceCtorEq,bD,beq_iff_eq] at hc)<;>(try (exfalso;omega)))|((with_reducible refine alloc_intro (fun ko hko=>?_))<;>(try have hne:=fresh_ne (by assumption) hko)<;>(try have hnk:=fresh_ne hk hko)<;>(try have hnk2:=fresh_ne hk2 hko)<;>(try simp only [AH.put_none] at hko))|((with_reducible refine vapp_go ?_ (fun v2 H2 hacc hlec=>?_));· simp only [byteCells_length,List.length_cons,List.length_nil,List.length_map,List.length_append,vE_length,mE_length,strE_len,List.length_take,rvE_length,List.length_map];omega)|done)<;>(try simp -implicitDefEqProofs (disch:=omega) only [go_sem,wrap_id,rvE_length,strE_len,List.length_map,strE_get hlt2,hk2,hk,hzx,ej,hless'])))
        all_goals exact ⟨m - 1,by omega,j + 1,by omega,rfl,by omega⟩
      · rw [if_neg hless] at hpos
        have hless' : Op.bytesLess acc[j].1 r.Keys[i] = false := by rw [bytesLess_eq]; exact decide_eq_false hless
        have hp : posK r.Keys[i] acc = j := by omega
        by_cases heq : acc[j].1 = r.Keys[i]
        · have hin : insR acc r.Keys[i] (cleanR r.L[i]) = acc := by
            rw [insR,hp,List.getElem?_eq_getElem hjl,Option.map_some,heq,if_pos rfl]
          rw [heq] at hless' ej
          repeat' (first|with_reducible refine go0 ?_|(with_reducible refine am_cnd ?_ ?_<;>intro hc<;>try (exfalso;omega))|((first|with_reducible (first|refine go1 ?_|refine vc_intro ?_|refine need_el ?_|refine vlen_a ?_|refine need_by ?_|refine need_lk ?_)|((with_reducible (first|apply gd_not|apply gd_of|apply gq_not|apply gq_of|apply pickB_of))<;>intro hc<;>(try simp -implicitDefEqProofs (disch:=omega) only [go_sem,hc,wrap_id,rvE_length,strE_len,List.length_map,strE_get hlt2,hk2,hk,hzx,ej,hless'])<;>(try simp only [reduceCtorEq,bD,beq_iff_eq] at hc)<;>(try (exfalso;omega)))|((with_reducible refine alloc_intro (fun ko hko=>?_))<;>(try have hne:=fresh_ne (by assumption) hko)<;>(try have hnk:=fresh_ne hk hko)<;>(try have hnk2:=fresh_ne hk2 hko)<;>(try simp only [AH.put_none] at hko))|((with_reducible refine vapp_go ?_ (fun v2 H2 hacc hlec=>?_));· simp only [byteCells_length,List.length_cons,List.length_nil,List.length_map,List.length_append,vE_length,mE_length,strE_len,List.length_take,rvE_length,List.length_map];omega)|done)<;>(try simp -implicitDefEqProofs (disch:=omega) only [go_sem,wrap_id,rvE_length,strE_len,List.length_map,strE_get hlt2,hk2,hk,hzx,ej,hless'])))
          all_goals exact ⟨n - 1,by omega,i + 1,acc,t1,t2,by omega,rfl,rfl,hle,by rw [hstep,hin],by omega⟩
        · have hin : insR acc r.Keys[i] (cleanR r.L[i]) = acc.take j ++ (r.Keys[i],cleanR r.L[i]) :: acc.drop j := by
            rw [insR,hp,List.getElem?_eq_getElem hjl,Option.map_some,if_neg (by simpa using heq)]
          have put7 : ∀ (b : Bool) (Q : AExit → A → AH → Prop),(∀ (G3 : AH) (t3 t4 : Tok),G3 kz = some (.cells zeroC) → H.le G3 →
              G3 kx = some (.cells [.int .i64 7,.bool false,.int .i64 0,.int .i64 0,.str [],.sl 7 (rvE ((acc.take j ++ (r.Keys[i],cleanR r.L[i]) :: acc.drop j).map Prod.snd)) t3,.sl 1 (strE ((acc.take j ++ (r.Keys[i],cleanR r.L[i]) :: acc.drop j).map Prod.fst)) t4]) →
              Q .normal [(1,.rptr [.int .i64 r.K,.bool r.B,.int .i64 r.N,.int .i64 r.M,.str r.S,.sl 7 (rvE r.L) .no,.sl 1 (strE r.Keys) .no] 0),(2,.ptr kz 0),(5,.ptr kx 0),(6,.int .i64 i)] G3) → AM Tryz.prog Tryz.f15.ntmps k15_15 Q [(1,.rptr [.int .i64 r.K,.bool r.B,.int .i64 r.N,.int .i64 r.M,.str r.S,.sl 7 (rvE r.L) .no,.sl 1 (strE r.Keys) .no] 0),(2,.ptr kz 0),(5,.ptr kx 0),(6,.int .i64 i),(7,.int .i64 j),(117,.bool b)] G2 := by
            intro b Q hQ
            refine AM.sub (clean7_put hf (kz := kz) hlt hlt2 (j := j) (acc := acc) (by omega) hlen hc1 hk2 (fun G3 t3 t4 q1 q2 => hQ G3 t3 t4 (q1 _ _ hzx hk) (fun y o hy => q1 y o (fun e => by rw [e,hkx] at hy; cases hy) (hle y o hy)) q2)) ?_
            exact fun t v h => get_more _ [(_,_)] h
          repeat' (first|(((with_reducible refine put7 _ _ (fun G3 t3 t4 q3 q4 q5=>?_));(simp -implicitDefEqProofs (disch:=omega) only [go_sem,wrap_id])))|with_reducible refine go0 ?_|(with_reducible refine am_cnd ?_ ?_<;>intro hc<;>try (exfalso;omega))|((first|with_reducible (first|refine go1 ?_|refine vc_intro ?_|refine need_el ?_|refine vlen_a ?_|refine need_by ?_|refine need_lk ?_)|((with_reducible (first|apply gd_not|apply gd_of|apply gq_not|apply gq_of|apply pickB_of))<;>intro hc<;>(try simp -implicitDefEqProofs (disch:=omega) only [go_sem,hc,wrap_id,rvE_length,strE_len,List.length_map,strE_get hlt2,hk2,hk,hzx,ej,hless',heq])<;>(try simp only [reduceCtorEq,bD,beq_iff_eq] at hc)<;>(try (exfalso;omega)))|((with_reducible refine alloc_intro (fun ko hko=>?_))<;>(try have hne:=fresh_ne (by assumption) hko)<;>(try have hnk:=fresh_ne hk hko)<;>(try have hnk2:=fresh_ne hk2 hko)<;>(try simp only [AH.put_none] at hko))|((with_reducible refine vapp_go ?_ (fun v2 H2 hacc hlec=>?_));· simp only [byteCells_length,List.length_cons,List.length_nil,List.length_map,List.length_append,vE_length,mE_length,strE_len,List.length_take,rvE_length,List.length_map];omega)|done)<;>(try simp -implicitDefEqProofs (disch:=omega) only [go_sem,wrap_id,rvE_length,strE_len,List.length_map,strE_get hlt2,hk2,hk,hzx,ej,hless',heq])))
          all_goals exact ⟨n - 1,by omega,i + 1,_,t3,t4,by omega,rfl,q3,q5,q4,by rw [hstep,hin],by simp only [List.length_append,List.length_cons,List.length_take,List.length_drop]; omega⟩
    · rw [List.drop_eq_nil_of_le (by omega),posK] at hpos
      have hp : posK r.Keys[i] acc = j := by omega
      have hin : insR acc r.Keys[i] (cleanR r.L[i]) = acc.take j ++ (r.Keys[i],cleanR r.L[i]) :: acc.drop j := by
        rw [insR,hp,List.getElem?_eq_none (by omega),Option.map_none,if_neg (by simp)]
      have put7 : ∀ (b : Bool) (Q : AExit → A → AH → Prop),(∀ (G3 : AH) (t3 t4 : Tok),G3 kz = some (.cells zeroC) → H.le G3 →
          G3 kx = some (.cells [.int .i64 7,.bool false,.int .i64 0,.int .i64 0,.str [],.sl 7 (rvE ((acc.take j ++ (r.Keys[i],cleanR r.L[i]) :: acc.drop j).map Prod.snd)) t3,.sl 1 (strE ((acc.take j ++ (r.Keys[i],cleanR r.L[i]) :: acc.drop j).map Prod.fst)) t4]) →
          Q .normal [(1,.rptr [.int .i64 r.K,.bool r.B,.int .i64 r.N,.int .i64 r.M,.str r.S,.sl 7 (rvE r.L) .no,.sl 1 (strE r.Keys) .no] 0),(2,.ptr kz 0),(5,.ptr kx 0),(6,.int .i64 i)] G3) → AM Tryz.prog Tryz.f15.ntmps k15_15 Q [(1,.rptr [.int .i64 r.K,.bool r.B,.int .i64 r.N,.int .i64 r.M,.str r.S,.sl 7 (rvE r.L) .no,.sl 1 (strE r.Keys) .no] 0),(2,.ptr kz 0),(5,.ptr kx 0),(6,.int .i64 i),(7,.int .i64 j),(117,.bool b)] G2 := by
        intro b Q hQ
        refine AM.sub (clean7_put hf (kz := kz) hlt hlt2 (j := j) (acc := acc) (by omega) hlen hc1 hk2 (fun G3 t3 t4 q1 q2 => hQ G3 t3 t4 (q1 _ _ hzx hk) (fun y o hy => q1 y o (fun e => by rw [e,hkx] at hy; cases hy) (hle y o hy)) q2)) ?_
        exact fun t v h => get_more _ [(_,_)] h
      repeat' (first|(((with_reducible refine put7 _ _ (fun G3 t3 t4 q3 q4 q5=>?_));(simp -implicitDefEqProofs (disch:=omega) only [go_sem,wrap_id])))|with_reducible refine go0 ?_|(with_reducible refine am_cnd ?_ ?_<;>intro hc<;>try (exfalso;omega))|((first|with_reducible (first|refine go1 ?_|refine vc_intro ?_|refine need_el ?_|refine vlen_a ?_|refine need_by ?_|refine need_lk ?_)|((with_reducible (first|apply gd_not|apply gd_of|apply gq_not|apply gq_of|apply pickB_of))<;>intro hc<;>(try simp -implicitDefEqProofs (disch:=omega) only [go_sem,hc,wrap_id,rvE_length,strE_len,List.length_map,strE_get hlt2,hk2,hk,hzx])<;>(try simp only [reduceCtorEq,bD,beq_iff_eq] at hc)<;>(try (exfalso;omega)))|((with_reducible refine alloc_intro (fun ko hko=>?_))<;>(try have hne:=fresh_ne (by assumption) hko)<;>(try have hnk:=fresh_ne hk hko)<;>(try have hnk2:=fresh_ne hk2 hko)<;>(try simp only [AH.put_none] at hko))|((with_reducible refine vapp_go ?_ (fun v2 H2 hacc hlec=>?_));· simp only [byteCells_length,List.length_cons,List.length_nil,List.length_map,List.length_append,vE_length,mE_length,strE_len,List.length_take,rvE_length,List.length_map];omega)|done)<;>(try simp -implicitDefEqProofs (disch:=omega) only [go_sem,wrap_id,rvE_length,strE_len,List.length_map,strE_get hlt2,hk2,hk,hzx])))
      all_goals exact ⟨n - 1,by omega,i + 1,_,t3,t4,by omega,rfl,q3,q5,q4,by rw [hstep,hin],by simp only [List.length_append,List.length_cons,List.length_take,List.length_drop]; omega⟩
  · have hfin : acc = entR (r.Keys.zip (r.L.map cleanR)) := by rw [hacc,List.take_of_length_le (by omega)]
    repeat' (first|with_reducible refine go0 ?_|(with_reducible refine am_cnd ?_ ?_<;>intro hc<;>try (exfalso;omega))|((first|with_reducible (first|refine go1 ?_|refine vc_intro ?_|refine need_el ?_|refine vlen_a ?_|refine need_by ?_|refine need_lk ?_)|((with_reducible (first|apply gd_not|apply gd_of|apply gq_not|apply gq_of|apply pickB_of))<;>intro hc<;>(try simp -implicitDefEqProofs (disch:=omega) only [go_sem,hc,rvE_length,strE_len,hk2,hk,hzx])<;>(try simp only [reduceCtorEq,bD,beq_iff_eq] at hc)<;>(try (exfalso;omega)))|((with_reducible refine alloc_intro (fun ko hko=>?_))<;>(try have hne:=fresh_ne (by assumption) hko)<;>(try have hnk:=fresh_ne hk hko)<;>(try have hnk2:=fresh_ne hk2 hko)<;>(try simp only [AH.put_none] at hko))|((with_reducible refine vapp_go ?_ (fun v2 H2 hacc hlec=>?_));· simp only [byteCells_length,List.length_cons,List.length_nil,List.length_map,List.length_append,vE_length,mE_length,strE_len,List.length_take,rvE_length,List.length_map];omega)|done)<;>(try simp -implicitDefEqProofs (disch:=omega) only [go_sem,rvE_length,strE_len,hk2,hk,hzx])))
    all_goals (refine drop_end (fun s x h => ?_) (AH.le_put hle hkz _); rw [cl7 h7,← hfin]; exact agg_sub rfl (.cons (fun _ h => h) (.cons (fun _ h => h) (.cons (fun _ h => h) (.cons (fun _ h => h) (.cons (fun _ h => h) (.cons (fun _ h => no_sub _ h) (.cons (fun _ h => no_sub _ h) .nil))))))) x h)
end Go.Proofs.YtkldmgnhbomknaaGreat
namespace Go.Proofs.YtkldmgnhbomknaaGreat
open Go.Vm Go.Sort
attribute [local go_sem] eq_self decide_true decide_false AH.put_ne
attribute [local go_sem_proc] Nat.reduceBEq Nat.reduceAdd Nat.reduceSub Nat.reduceMul Nat.reduceEqDiff Nat.reduceLeDiff Nat.reduceLT Int.reduceLE Int.reduceLT Int.reduceToNat Int.reduceAdd Int.reduceEq Int.reduceNeg
attribute [local go_sem] List.drop_zero toNat_succ Nat.sub_zero Int.toNat_natCast Option.map_some Int.natCast_nonneg decide_eq_true_eq decide_eq_false_iff_not
theorem clean_end {r y : Rv} {H H' : AH} (he : cleanR r = y) (hl : y.L = []) (hk : y.Keys = []) (h : H.le H') : (∃ u,Out.ret (.agg [.int .i64 y.K,.bool y.B,.int .i64 y.N,.int .i64 y.M,.str y.S,.nilSl,.nilSl]) = Out.ret u ∧ ∀ (s : St) (x : Value),s.val u x → s.val (V.agg (rvC (cleanR r))) x) ∧ H.le H' := by
  refine drop_end (fun s x h => ?_) h
  rw [he,rvC_eq,hl,hk]
  exact agg_sub rfl (.cons (fun _ h => h) (.cons (fun _ h => h) (.cons (fun _ h => h) (.cons (fun _ h => h) (.cons (fun _ h => h) (.cons (fun _ h => nil_no _ h) (.cons (fun _ h => nil_no _ h) .nil))))))) x h
theorem clean_calls : ∀ (r : Rv),r.Fit → ∀ (H : AH),ACalls Tryz.prog 15 [.agg [.int .i64 r.K,.bool r.B,.int .i64 r.N,.int .i64 r.M,.str r.S,.sl 7 (rvE r.L) .no,.sl 1 (strE r.Keys) .no]] H (fun o H' => o = .ret (.agg (rvC (cleanR r))) ∧ H' = H) := by
  refine Rv.ind fun r ih hf H => ?_
  refine ACalls.drop ?_
  refine acalls Tryz.func15 c15 r15 (by simp [Tryz.ntmps15]) ?_
  repeat' (first|with_reducible refine go0 ?_|(with_reducible refine am_cnd ?_ ?_<;>intro hc<;>try (exfalso;omega))|((first|with_reducible (first|refine go1 ?_|refine vc_intro ?_|refine need_el ?_|refine vlen_a ?_|refine need_by ?_|refine need_lk ?_)|((with_reducible (first|apply gd_not|apply gd_of|apply gq_not|apply gq_of|apply pickB_of))<;>intro hc<;>(try simp -implicitDefEqProofs (disch:=omega) only [go_sem,hc])<;>(try simp only [reduceCtorEq,bD,beq_iff_eq] at hc)<;>(try (exfalso;omega)))|((with_reducible refine alloc_intro (fun ko hko=>?_))<;>(try have hne:=fresh_ne (by assumption) hko)<;>(try simp only [AH.put_none] at hko))|((with_reducible refine vapp_go ?_ (fun v2 H2 hacc hlec=>?_));· simp only [byteCells_length,List.length_cons,List.length_nil,List.length_map,List.length_append];omega)|done)<;>(try simp -implicitDefEqProofs (disch:=omega) only [go_sem])))
  · exact clean_end (y := .mk 1 false 0 0 [] [] []) (by rw [cleanR_eq]; simp [*]) rfl rfl (AH.le_put (AH.le_refl _) hko _)
  · exact clean_end (y := .mk 2 r.B 0 0 [] [] []) (by rw [cleanR_eq]; simp [*]) rfl rfl (AH.le_put (AH.le_refl _) hko _)
  · exact clean_end (y := .mk 3 false r.N 0 [] [] []) (by rw [cleanR_eq]; simp [*]) rfl rfl (AH.le_put (AH.le_refl _) hko _)
  · exact clean_end (y := .mk 4 false (cutI r.N) (cutI r.M) [] [] []) (by rw [cleanR_eq]; simp [*]) rfl rfl (AH.le_put (AH.le_refl _) hko _)
  · exact clean_end (y := .mk 5 false 0 0 r.S [] []) (by rw [cleanR_eq]; simp [*]) rfl rfl (AH.le_put (AH.le_refl _) hko _)
  · rename_i kz hkz _ _ _ _ _ 
    exact clean6 hf hc hkz hko.2 (Ne.symm hko.1) ih (look_put (AH.put_same _ _ _) (by rw [AH.put_none]; exact hko)) (AH.put_same _ _ _) (AH.le_put (AH.le_put (AH.le_refl _) hkz _) hko.2 _)
  · rename_i kz hkz _ _ _ _ _ _
    exact clean7 hf hc hkz hko.2 (Ne.symm hko.1) ih (look_put (AH.put_same _ _ _) (by rw [AH.put_none]; exact hko)) (AH.put_same _ _ _) (AH.le_put (AH.le_put (AH.le_refl _) hkz _) hko.2 _)
  · exact clean_end (y := .mk 0 false 0 0 [] [] []) (by rw [cleanR_eq]; simp [*]) rfl rfl (AH.le_put (AH.le_refl _) hko _)
end Go.Proofs.YtkldmgnhbomknaaGreat
