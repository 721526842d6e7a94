/- Contracts of functions of the given program. Conditions: as each theorem says. -/
import Derived.Test.YtkldmgnhbomknaaGreatYQ5
import Derived.Test.YtkldmgnhbomknaaGreatYQQC
import Derived.Test.YtkldmgnhbomknaaGreatQZVA
import Derived.Test.YtkldmgnhbomknaaGreatQZKV21
import Derived.Test.YtkldmgnhbomknaaGreatVmV
set_option linter.unusedVariables false
set_option linter.unusedSimpArgs false
/- Requests: the law's helpers. -/
namespace Go.Proofs.YtkldmgnhbomknaaGreat
open Go.Vm
attribute [local go_sem] eq_self decide_true decide_false AH.put_ne
attribute [local go_sem_proc] Nat.reduceBEq Nat.reduceAdd Nat.reduceSub Nat.reduceMul Nat.reduceEqDiff Nat.reduceLeDiff Nat.reduceLT Int.reduceLE Int.reduceLT Int.reduceToNat Int.reduceAdd Int.reduceEq Int.reduceNeg
attribute [local go_sem] vE_length byteCells_length byteCells_get bytes_cells bytesOf_cells fldC fldsE_get fldsE_length List.drop_zero toNat_succ Nat.sub_zero Int.toNat_natCast Option.map_some Int.natCast_nonneg decide_eq_true_eq decide_eq_false_iff_not
/- flange/flangelaw22.clean -/
abbrev k6_0 : MC :=
 (.seq (.reg [
 vl 15 (.load true 27 (.t 1)),
 ⟨none,none,.store 27 (.t 2) (.t 15)⟩] [2]) (.ret))
abbrev k6_1 : MC :=
 (.seq (.drw [
 vl 3 (.faddr 3 (.t 1)),
 vl 4 (.load true 7 (.t 3)),
 ⟨some 5,none,.call 15 [(.t 4)]⟩,
 vl 6 (.faddr 10 (.t 1)),
 vl 7 (.load true 7 (.t 6)),
 ⟨some 8,none,.call 15 [(.t 7)]⟩,
 vl 9 (.faddr 17 (.t 1)),
 vl 10 (.load true 7 (.t 9)),
 ⟨some 11,none,.call 15 [(.t 10)]⟩,
 vl 12 (.faddr 3 (.t 1)),
 vl 13 (.faddr 10 (.t 1)),
 vl 14 (.faddr 17 (.t 1))] [
 ⟨none,none,.store 7 (.t 12) (.t 5)⟩,
 ⟨none,none,.store 7 (.t 13) (.t 8)⟩,
 ⟨none,none,.store 7 (.t 14) (.t 11)⟩] [1,2]) k6_0)
abbrev k6 : MC :=
 (.seq (.reg [
 ⟨some 1,none,.box (.t 0)⟩,
 ⟨some 2,none,.zalloc [(.int .i64 0),(.int .i64 0),(.str []),(.int .i64 0),(.bool false),(.int .i64 0),(.int .i64 0),(.str []),.nilSl,.nilSl,(.int .i64 0),(.bool false),(.int .i64 0),(.int .i64 0),(.str []),.nilSl,.nilSl,(.int .i64 0),(.bool false),(.int .i64 0),(.int .i64 0),(.str []),.nilSl,.nilSl,.nilSl,(.int .i64 0),(.str [])]⟩] [1,2]) k6_1)
theorem c6 : Tryz.f6.body.bind (mcOf Tryz.prog (List.contains [] ·) (List.getD [([],[1,2]),([0,0,0,0,0,0,0,0,0,0,2,0,2,0,2],[1,2]),([],[2])] · ([],[])) 16) = some k6 := by kernel_rfl
theorem r6 : rvsOf Tryz.prog Tryz.f6.results.toList = some [.cell 2 true 27] := by kernel_rfl
/- flange/flangelaw22.To -/
abbrev k7_0 : MC :=
 (.seq (.drw [
 vl 3 (.faddr 0 (.t 1)),
 vl 4 (.load false 1 (.t 3)),
 vl 5 (.faddr 1 (.t 1)),
 vl 6 (.load false 1 (.t 5)),
 vl 7 (.faddr 2 (.t 1)),
 vl 8 (.load false 1 (.t 7)),
 vl 9 (.faddr 3 (.t 1)),
 vl 10 (.load true 7 (.t 9)),
 ⟨some 11,none,.call 16 [(.t 10)]⟩,
 vl 12 (.faddr 10 (.t 1)),
 vl 13 (.load true 7 (.t 12)),
 ⟨some 14,none,.call 16 [(.t 13)]⟩,
 vl 15 (.faddr 17 (.t 1)),
 vl 16 (.load true 7 (.t 15)),
 ⟨some 17,none,.call 16 [(.t 16)]⟩,
 ⟨some 18,none,.bslice 1 0 [] []⟩,
 vl 19 (.faddr 24 (.t 1)),
 vl 20 (.load false 1 (.t 19)),
 vl 22 (.faddr 25 (.t 1)),
 vl 23 (.load false 1 (.t 22)),
 vl 24 (.faddr 26 (.t 1)),
 vl 25 (.load false 1 (.t 24))] [
 ⟨some 21,none,.app 1 1 (.t 18) (.t 20)⟩,
 ⟨some 26,none,.build [(.int .i64 0),(.int .i64 0),(.str []),.nilIface,.nilIface,.nilIface,.nilSl,(.int .i64 0),(.str [])] [(0,1,(.t 4)),(1,1,(.t 6)),(2,1,(.t 8)),(3,1,(.t 11)),(4,1,(.t 14)),(5,1,(.t 17)),(6,1,(.t 21)),(7,1,(.t 23)),(8,1,(.t 25))]⟩,
 ⟨none,none,.store 9 (.t 2) (.t 26)⟩] [2]) (.ret))
abbrev k7 : MC :=
 (.seq (.reg [
 ⟨some 1,none,.boxi (.t 0)⟩,
 ⟨some 2,none,.zalloc [(.int .i64 0),(.int .i64 0),(.str []),.nilIface,.nilIface,.nilIface,.nilSl,(.int .i64 0),(.str [])]⟩] [1,2]) k7_0)
theorem c7 : Tryz.f7.body.bind (mcOf Tryz.prog (List.contains [1] ·) (List.getD [([],[1,2]),([0,0,0,0,0,0,0,0,0,0,0,0,0,0,0,0,0,0,2,0,0,0,0,2,2],[2])] · ([],[])) 27) = some k7 := by kernel_rfl
theorem r7 : rvsOf Tryz.prog Tryz.f7.results.toList = some [.cell 2 true 9] := by kernel_rfl
theorem vV_one (v : Vl) : (vV v).one = true := by
  cases v <;> simp only [vV_nul,vV_unk,vV_bool,vV_int,vV_pt,vV_text,vV_list,vV_map] <;> rfl
def Rq.clean (r : Rq) : Rq := ⟨r.N,r.O,r.K,cleanR r.c,cleanR r.p,cleanR r.q,r.P,r.V,r.I⟩
theorem lclean_calls {r : Rq} (fc : r.c.Fit) (fp : r.p.Fit) (fq : r.q.Fit) (H : AH) : ACalls Tryz.prog 6 [.agg [.int .i64 r.N,.int .i64 r.O,.str r.K,.int .i64 r.c.K,.bool r.c.B,.int .i64 r.c.N,.int .i64 r.c.M,.str r.c.S,.sl 7 (rvE r.c.L) .no,.sl 1 (strE r.c.Keys) .no,.int .i64 r.p.K,.bool r.p.B,.int .i64 r.p.N,.int .i64 r.p.M,.str r.p.S,.sl 7 (rvE r.p.L) .no,.sl 1 (strE r.p.Keys) .no,.int .i64 r.q.K,.bool r.q.B,.int .i64 r.q.N,.int .i64 r.q.M,.str r.q.S,.sl 7 (rvE r.q.L) .no,.sl 1 (strE r.q.Keys) .no,.sl 1 (byteCells r.P) .no,.int .i64 r.V,.str r.I]] H (fun o H' => o = .ret (.agg [.int .i64 r.N,.int .i64 r.O,.str r.K,.int .i64 (cleanR r.c).K,.bool (cleanR r.c).B,.int .i64 (cleanR r.c).N,.int .i64 (cleanR r.c).M,.str (cleanR r.c).S,.sl 7 (rvE (cleanR r.c).L) .no,.sl 1 (strE (cleanR r.c).Keys) .no,.int .i64 (cleanR r.p).K,.bool (cleanR r.p).B,.int .i64 (cleanR r.p).N,.int .i64 (cleanR r.p).M,.str (cleanR r.p).S,.sl 7 (rvE (cleanR r.p).L) .no,.sl 1 (strE (cleanR r.p).Keys) .no,.int .i64 (cleanR r.q).K,.bool (cleanR r.q).B,.int .i64 (cleanR r.q).N,.int .i64 (cleanR r.q).M,.str (cleanR r.q).S,.sl 7 (rvE (cleanR r.q).L) .no,.sl 1 (strE (cleanR r.q).Keys) .no,.sl 1 (byteCells r.P) .no,.int .i64 r.V,.str r.I]) ∧ H' = H) := by
  have c1 := clean_calls r.c fc
  have c2 := clean_calls r.p fp
  have c3 := clean_calls r.q fq
  simp only [rvC_eq] at c1 c2 c3
  generalize cleanR r.c = x at *
  generalize cleanR r.p = y at *
  generalize cleanR r.q = z at *
  refine ACalls.drop ?_
  refine acalls Tryz.func6 c6 r6 (by simp [Tryz.ntmps6]) ?_
  repeat' (first|with_reducible refine go0 ?_|(with_reducible refine am_cnd ?_ ?_<;>intro hc<;>try (exfalso;omega))|((first|with_reducible (first|refine go1 ?_|refine vc_intro ?_|refine need_el ?_|refine vlen_a ?_|refine need_by ?_|refine call_of (c1) ?_|refine qcall_of (c1) ?_|refine call_of (c2) ?_|refine qcall_of (c2) ?_|refine call_of (c3) ?_|refine qcall_of (c3) ?_|refine need_lk ?_)|((with_reducible refine alloc_intro (fun ko hko=>?_))<;>(try have hne:=fresh_ne (by assumption) hko)<;>(try simp only [AH.put_none] at hko))|done)<;>(try simp (maxSteps:=1000000) -implicitDefEqProofs (disch:=omega) only [go_sem])))
  all_goals exact drop_end (fun _ _ h => h) (fun i p hp => by repeat (first | assumption | refine look_ne (ne_of_look hp (by first | assumption | exact And.right (by assumption) | exact And.right (And.right (by assumption)))) ?_))
theorem lto_calls {r : Rq} (fc : r.c.Fit) (fp : r.p.Fit) (fq : r.q.Fit) (hp : r.P.length ≤ 5000) (H : AH) : ACalls Tryz.prog 7 [.agg [.int .i64 r.N,.int .i64 r.O,.str r.K,.int .i64 r.c.K,.bool r.c.B,.int .i64 r.c.N,.int .i64 r.c.M,.str r.c.S,.sl 7 (rvE r.c.L) .no,.sl 1 (strE r.c.Keys) .no,.int .i64 r.p.K,.bool r.p.B,.int .i64 r.p.N,.int .i64 r.p.M,.str r.p.S,.sl 7 (rvE r.p.L) .no,.sl 1 (strE r.p.Keys) .no,.int .i64 r.q.K,.bool r.q.B,.int .i64 r.q.N,.int .i64 r.q.M,.str r.q.S,.sl 7 (rvE r.q.L) .no,.sl 1 (strE r.q.Keys) .no,.sl 1 (byteCells r.P) .no,.int .i64 r.V,.str r.I]] H (fun o H' => o = .ret (.agg [.int .i64 r.N,.int .i64 r.O,.str r.K,vV (toV r.c),vV (toV r.p),vV (toV r.q),.sl 1 (byteCells r.P) .no,.int .i64 r.V,.str r.I]) ∧ H' = H) := by
  have c1 := to_calls r.c fc
  have c2 := to_calls r.p fp
  have c3 := to_calls r.q fq
  refine ACalls.drop ?_
  refine acalls Tryz.func7 c7 r7 (by simp [Tryz.ntmps7]) ?_
  repeat' (first|with_reducible refine go0 ?_|(with_reducible refine am_cnd ?_ ?_<;>intro hc<;>try (exfalso;omega))|((first|with_reducible (first|refine go1 ?_|refine vc_intro ?_|refine need_el ?_|refine vlen_a ?_|refine need_by ?_|refine call_of (c1) ?_|refine qcall_of (c1) ?_|refine call_of (c2) ?_|refine qcall_of (c2) ?_|refine call_of (c3) ?_|refine qcall_of (c3) ?_|refine need_lk ?_)|((with_reducible refine alloc_intro (fun ko hko=>?_))<;>(try have hne:=fresh_ne (by assumption) hko)<;>(try simp only [AH.put_none] at hko))|((with_reducible refine vapp_go ?_ (fun v2 H2 hacc hlec=>?_));· simp only [byteCells_length,List.length_cons,List.length_nil,List.length_map,List.length_append,vE_length,fldsE_length,strE_len,rvE_length];omega)|done)<;>(try simp (maxSteps:=1000000) -implicitDefEqProofs (disch:=omega) only [go_sem])))
  all_goals exact drop_end (fun s x h => agg_sub (by simp only [ones,List.all_cons,List.all_nil,vV_one]; rfl) (.cons (fun _ h => h) (.cons (fun _ h => h) (.cons (fun _ h => h) (.cons (fun _ h => h) (.cons (fun _ h => h) (.cons (fun _ h => h) (.cons (fun _ h => no_sub _ h) (.cons (fun _ h => h) (.cons (fun _ h => h) .nil))))))))) x h) (fun i p hp => by repeat (first | assumption | refine look_ne (ne_of_look hp (by first | assumption | exact And.right (by assumption) | exact And.right (And.right (by assumption)))) ?_))
end Go.Proofs.YtkldmgnhbomknaaGreat
/- Requests: the law. -/
namespace Go.Proofs.YtkldmgnhbomknaaGreat
open Go.Vm
attribute [local go_sem] eq_self decide_true decide_false AH.put_ne
attribute [local go_sem_proc] Nat.reduceBEq Nat.reduceAdd Nat.reduceSub Nat.reduceMul Nat.reduceEqDiff Nat.reduceLeDiff Nat.reduceLT Int.reduceLE Int.reduceLT Int.reduceToNat Int.reduceAdd Int.reduceEq Int.reduceNeg
attribute [local go_sem] vE_length byteCells_length byteCells_get bytes_cells bytesOf_cells fldC fldsE_get fldsE_length List.drop_zero toNat_succ Nat.sub_zero Int.toNat_natCast Option.map_some Int.natCast_nonneg decide_eq_true_eq decide_eq_false_iff_not
/- flange/flangelaw22.awake -/
abbrev k5_0 : MC :=
 (.seq (.reg [
 mv 15 2,
 vl 16 (.bin .eql .num (.t 15) (.c (.int .i64 0))),
 mv 17 16,
 ⟨some 18,(some (17,true)),.val (.mv (.t 4))⟩,
 ⟨some 19,(some (17,true)),.val (.bin .eql .num (.t 18) (.c (.int .i64 0)))⟩,
 vl 20 (.pick (.t 17) (.t 19) (.c (.bool false))),
 mv 21 20,
 ⟨some 22,(some (21,true)),.val (.faddr 0 (.t 3))⟩,
 ⟨some 23,(some (21,true)),.val (.load false 1 (.t 22))⟩,
 ⟨some 24,(some (21,true)),.val (.bin .eql .num (.t 23) (.c (.int .i64 1)))⟩,
 vl 25 (.pick (.t 21) (.t 24) (.c (.bool false))),
 mv 26 25,
 ⟨some 27,(some (26,true)),.val (.faddr 1 (.t 3))⟩,
 ⟨some 28,(some (26,true)),.val (.load false 1 (.t 27))⟩,
 ⟨some 29,(some (26,true)),.val (.bin .eql .num (.t 28) (.c (.int .i64 1)))⟩,
 vl 30 (.pick (.t 26) (.t 29) (.c (.bool false))),
 mv 31 30,
 ⟨some 32,(some (31,true)),.val (.faddr 1 (.t 3))⟩,
 ⟨some 33,(some (31,true)),.val (.load false 1 (.t 32))⟩,
 ⟨some 34,(some (31,true)),.call 14 [(.t 33)]⟩,
 ⟨some 35,(some (31,true)),.val (.bin .eql .num (.t 34) (.c (.str [115,99,104,101,109,97])))⟩,
 vl 36 (.pick (.t 31) (.t 35) (.c (.bool false))),
 mv 0 36] [0]) (.ret))
abbrev k5_1 : MC :=
 (.seq (.reg [
 mv 11 1,
 ⟨some 12,none,.call 10 [(.t 11)]⟩,
 mv 10 12,
 vl 13 (.ext (.t 10) 0),
 vl 14 (.ext (.t 10) 1),
 ⟨some 3,none,.zalloc [(.int .i64 0),(.int .i64 0),(.str []),.nilIface,.nilIface,.nilIface,.nilSl,(.int .i64 0),(.str [])]⟩,
 ⟨none,none,.store 9 (.t 3) (.t 13)⟩,
 mv 4 14] [2,3,4]) k5_0)
abbrev k5_2 : MC :=
 (.seq (.reg [
 ⟨some 6,none,.build [(.int .i64 0),(.int .i64 0),(.str []),.nilIface,.nilIface,.nilIface,.nilSl,(.int .i64 0),(.str [])] [(0,1,(.c (.int .i64 1))),(1,1,(.c (.int .i64 1)))]⟩,
 ⟨some 7,none,.call 8 [(.t 6)]⟩,
 mv 5 7,
 vl 8 (.ext (.t 5) 0),
 vl 9 (.ext (.t 5) 1),
 mv 1 8,
 mv 2 9] [1,2]) k5_1)
abbrev k5 : MC :=
 (.seq (.reg [
 vl 0 (.mv (.c (.bool false)))] []) k5_2)
theorem c5 : Tryz.f5.body.bind (mcOf Tryz.prog (List.contains [] ·) (List.getD [([],[]),([],[1,2]),([],[2,3,4]),([],[0])] · ([],[])) 37) = some k5 := by kernel_rfl
theorem r5 : rvsOf Tryz.prog Tryz.f5.results.toList = some [.tmp 0] := by kernel_rfl
theorem enc_rv0 : encM rv0 = ([2,0],0) := by
  have hr : rightM rv0 = true := by
    rw [rightM,deepI_eq,allM_eq]
    have : deepL rv0.L = 0 := rfl
    rw [this]
    decide
  have he : Vm.encS (fldM rv0 ((rv0.L.map encM).map Prod.fst)) = ([2,0],0) := by
    have : fldM rv0 ((rv0.L.map encM).map Prod.fst) = [⟨1,false,0,[]⟩] := rfl
    rw [this,Vm.encS]
    have h2 : layL [⟨1,false,0,[]⟩] = [2,0] := by
      simp only [layL,layF,List.flatMap_cons,List.flatMap_nil,keyN]
      simp [vb]
    rw [h2]
    decide
  rw [encM_eq,he,if_neg]
  rw [hr]
  have : badL (rv0.L.map encM) = false := rfl
  rw [this]; simp
def r1 : Rq := ⟨1,1,[],rv0,rv0,rv0,[],0,[]⟩
theorem enc_r1 : ∃ c,r1.enc = (c,0) := by
  have h0 : r1.e0 = 0 := by
    have hr : r1.right = true := by decide
    unfold Rq.e0
    rw [if_neg (by rw [hr]; decide),if_neg]
    simp only [r1,enc_rv0]; decide
  have hf : r1.fl = [⟨1,false,1,[]⟩,⟨2,false,1,[]⟩,⟨3,true,0,[]⟩,⟨4,true,0,[2,0]⟩,⟨5,true,0,[2,0]⟩,⟨6,true,0,[2,0]⟩,⟨7,true,0,[]⟩,⟨8,false,0,[]⟩,⟨9,true,0,[]⟩] := by
    have u1 : un 1 = 1 := by decide
    have u0 : un 0 = 0 := by decide
    simp only [Rq.fl,r1,enc_rv0,u1,u0]
  have hz : (Vm.encS r1.fl).2 = 0 := by
    rw [hf,Vm.encS]
    have h2 : layL [⟨1,false,1,[]⟩,⟨2,false,1,[]⟩,⟨3,true,0,[]⟩,⟨4,true,0,[2,0]⟩,⟨5,true,0,[2,0]⟩,⟨6,true,0,[2,0]⟩,⟨7,true,0,[]⟩,⟨8,false,0,[]⟩,⟨9,true,0,[]⟩] = [2,1,4,1,7,0,9,2,2,0,11,2,2,0,13,2,2,0,15,0,16,0,19,0] := by
      simp only [layL,layF,List.flatMap_cons,List.flatMap_nil,keyN]
      simp [vb]
    rw [h2]
    decide
  exact ⟨(Vm.encS r1.fl).1,by rw [Rq.enc,doneS,h0,if_neg (by decide),if_neg (by rw [hz]; decide)]⟩
theorem rg_rv0 : Rg rv0 := rg_leaf (by intro h; cases h) rfl
theorem awake_calls {g : Nat} {H : AH} (hg : H g = some .nodr) : ACalls Tryz.prog 5 [] H (fun o H' => o = .ret (.bool true) ∧ H' = H) := by
  obtain ⟨c,hc⟩ := enc_r1
  have hq0 : RqOk r1 .nul .nul .nul := ⟨⟨by decide,by decide,by decide⟩,sm_nul0,sm_nul0,sm_nul0,.nul,.nul,.nul,rg_rv0,rg_rv0,rg_rv0⟩
  obtain ⟨v,hv,hsv⟩ := dec_encM rv0 .nul sm_nul0 .nul rg_rv0 (encM rv0).1 (Prod.ext rfl (by rw [enc_rv0]))
  have hov := (decV_fine _ (encM rv0).1 (Nat.le_refl _) v hv).1
  have hq1 : RqOk r1 v v v := ⟨⟨by decide,by decide,by decide⟩,hsv,hsv,hsv,hov,hov,hov,rg_rv0,rg_rv0,rg_rv0⟩
  have ec := ACalls.sub (vs := [.agg [.int .i64 1,.int .i64 1,.str [],.nilIface,.nilIface,.nilIface,.nilSl,.int .i64 0,.str []]]) (fun s => .cons (fun x h => agg_sub (by simp only [ones,List.all_cons,List.all_nil,vV_one]; rfl) (.cons (fun _ h => h) (.cons (fun _ h => h) (.cons (fun _ h => h) (.cons (fun _ h => by rw [vV_nul]; exact h) (.cons (fun _ h => by rw [vV_nul]; exact h) (.cons (fun _ h => by rw [vV_nul]; exact h) (.cons (fun _ h => nil_no _ h) (.cons (fun _ h => h) (.cons (fun _ h => h) .nil))))))))) x h) .nil) (renc_calls (t := .no) hq0 hg)
  have rc := rreq_calls (t := .no) hq1 hc hv hv hv hg
  rw [hc] at ec
  have nm := fun H => name_calls (n := 1) H
  rw [show nameS 1 = [115,99,104,101,109,97] from rfl] at nm
  simp only [r1] at rc
  refine ACalls.drop ?_
  refine acalls Tryz.func5 c5 r5 (by simp [Tryz.ntmps5]) ?_
  repeat' (first|with_reducible refine go0 ?_|(with_reducible refine am_cnd ?_ ?_<;>intro hc<;>try (exfalso;omega))|((first|with_reducible (first|refine go1 ?_|refine vc_intro ?_|refine need_el ?_|refine vlen_a ?_|refine need_by ?_|refine call_turn (ec) ?_|refine call_turn (rc) ?_|refine call_of (nm) ?_|refine qcall_of (nm) ?_|refine need_lk ?_)|((with_reducible (first|apply gd_not|apply gd_of|apply gq_not|apply gq_of|apply pickB_of))<;>intro hc<;>(try simp (maxSteps:=1000000) -implicitDefEqProofs (disch:=omega) only [go_sem,hc])<;>(try simp only [reduceCtorEq,bD,beq_iff_eq] at hc)<;>(try (exfalso;omega)))|((with_reducible refine alloc_intro (fun ko hko=>?_))<;>(try have hne:=fresh_ne (by assumption) hko)<;>(try simp only [AH.put_none] at hko))|done)<;>(try simp (maxSteps:=1000000) -implicitDefEqProofs (disch:=omega) only [go_sem])))
  all_goals exact drop_end (fun _ _ h => h) (AH.le_put (AH.le_refl _) hko _)
end Go.Proofs.YtkldmgnhbomknaaGreat
