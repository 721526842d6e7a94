/- Requests: the reference's message. -/
import Derived.Test.YtkldmgnhbomknaaGreatYQQB
import Derived.Test.YtkldmgnhbomknaaGreatVm38
import Derived.Test.YtkldmgnhbomknaaGreatVmV
set_option linter.unusedVariables false
set_option linter.unusedSimpArgs false
namespace Go.Proofs.YtkldmgnhbomknaaGreat
open Go.Vm
attribute [local go_sem] eq_self decide_true decide_false AH.put_ne
attribute [local go_sem_proc] Nat.reduceBEq Nat.reduceAdd Nat.reduceSub Nat.reduceMul Nat.reduceEqDiff Nat.reduceLeDiff Nat.reduceLT Int.reduceLE Int.reduceLT Int.reduceToNat Int.reduceAdd Int.reduceEq Int.reduceNeg
attribute [local go_sem] vE_length byteCells_length byteCells_get bytes_cells bytesOf_cells fldC fldsE_get fldsE_length List.drop_zero toNat_succ Nat.sub_zero Int.toNat_natCast Option.map_some Int.natCast_nonneg decide_eq_true_eq decide_eq_false_iff_not
/- flange/flangeref22.Ask -/
abbrev k9_0 : MC :=
 .cond (.t 19) (.reg [
 vl 20 (.faddr 2 (.t 1)),
 vl 21 (.load false 1 (.t 20)),
 vl 22 (.bin .eql .num (.t 21) (.c (.str []))),
 mv 4 22] [1,4]) (.skip)
abbrev k9_1 : MC :=
 .cond (.t 60) ((.seq (.reg [
 vl 2 (.mv (.c .nilSl)),
 vl 3 (.mv (.c (.int .i64 1)))] [2,3]) (.ret))) (.skip)
abbrev k9_2 : MC :=
 .cond (.t 94) ((.seq (.reg [
 vl 2 (.mv (.c .nilSl)),
 vl 3 (.mv (.c (.int .i64 3)))] [2,3]) (.ret))) (.skip)
abbrev k9_3 : MC :=
 .cond (.t 133) ((.seq (.reg [
 vl 2 (.mv (.c .nilSl)),
 vl 3 (.mv (.c (.int .i64 3)))] [2,3]) (.ret))) (.skip)
abbrev k9_4 : MC :=
 (.seq (.reg [
 mv 134 12,
 mv 2 134,
 vl 3 (.mv (.c (.int .i64 0)))] [2,3]) (.ret))
abbrev k9_5 : MC :=
 (.seq ((.seq (.reg [
 mv 132 13,
 vl 133 (.bin .neq .num (.t 132) (.c (.int .i64 0)))] [12,133]) k9_3)) k9_4)
abbrev k9_6 : MC :=
 (.seq (.reg [
 mv 128 11,
 ⟨some 129,none,.call 26 [(.t 128)]⟩,
 mv 127 129,
 vl 130 (.ext (.t 127) 0),
 vl 131 (.ext (.t 127) 1),
 mv 12 130,
 mv 13 131] [12,13]) k9_5)
abbrev k9_7 : MC :=
 (.seq (.drw (
 vl 95 (.faddr 0 (.t 1))::
 vl 96 (.load false 1 (.t 95))::
 vl 97 (.i2i .u64 (.t 96))::
 ⟨some 98,none,.build [(.int .i64 0),(.bool false),(.int .u64 0),.nilSl] [(0,1,(.c (.int .i64 1))),(2,1,(.t 97))]⟩::
 vl 99 (.faddr 1 (.t 1))::
 vl 100 (.load false 1 (.t 99))::
 vl 101 (.i2i .u64 (.t 100))::
 ⟨some 102,none,.build [(.int .i64 0),(.bool false),(.int .u64 0),.nilSl] [(0,1,(.c (.int .i64 2))),(2,1,(.t 101))]⟩::
 vl 103 (.faddr 2 (.t 1))::
 vl 104 (.load false 1 (.t 103))::
 ⟨some 105,none,.call 25 [(.c (.int .i64 3)),(.t 104)]⟩::
 mv 106 5::
 vl 107 (.b2s (.t 106))::
 ⟨some 108,none,.call 25 [(.c (.int .i64 4)),(.t 107)]⟩::
 mv 109 7::
 vl 110 (.b2s (.t 109))::
 ⟨some 111,none,.call 25 [(.c (.int .i64 5)),(.t 110)]⟩::
 mv 112 9::
 vl 113 (.b2s (.t 112))::
 ⟨some 114,none,.call 25 [(.c (.int .i64 6)),(.t 113)]⟩::
 vl 115 (.faddr 24 (.t 1))::
 vl 116 (.load false 1 (.t 115))::
 vl 117 (.b2s (.t 116))::
 ⟨some 118,none,.call 25 [(.c (.int .i64 7)),(.t 117)]⟩::
 vl 119 (.faddr 25 (.t 1))::
 vl 120 (.load false 1 (.t 119))::
 vl 121 (.i2i .u64 (.t 120))::
 ⟨some 122,none,.build [(.int .i64 0),(.bool false),(.int .u64 0),.nilSl] [(0,1,(.c (.int .i64 8))),(2,1,(.t 121))]⟩::
 vl 123 (.faddr 26 (.t 1))::
 vl 124 (.load false 1 (.t 123))::
 ⟨some 125,none,.call 25 [(.c (.int .i64 9)),(.t 124)]⟩::
 ⟨some 126,none,.bslice 4 9 ((.int .i64 0)::(.bool false)::(.int .u64 0)::.nilSl::(.int .i64 0)::(.bool false)::(.int .u64 0)::.nilSl::(.int .i64 0)::(.bool false)::(.int .u64 0)::.nilSl::(.int .i64 0)::(.bool false)::(.int .u64 0)::.nilSl::(.int .i64 0)::(.bool false)::(.int .u64 0)::.nilSl::(.int .i64 0)::(.bool false)::(.int .u64 0)::.nilSl::(.int .i64 0)::(.bool false)::(.int .u64 0)::.nilSl::(.int .i64 0)::(.bool false)::(.int .u64 0)::.nilSl::(.int .i64 0)::(.bool false)::(.int .u64 0)::.nilSl::[]) [(0,4,(.t 98)),(4,4,(.t 102)),(8,4,(.t 105)),(12,4,(.t 108)),(16,4,(.t 111)),(20,4,(.t 114)),(24,4,(.t 118)),(28,4,(.t 122)),(32,4,(.t 125))]⟩::
 mv 11 126::[]) [] [11]) k9_6)
abbrev k9_8 : MC :=
 (.seq ((.seq (.reg [
 vl 79 (.faddr 24 (.t 1)),
 vl 80 (.load false 1 (.t 79)),
 vl 81 (.len .sl (.t 80)),
 vl 82 (.bin .gtr .num (.t 81) (.c (.int .i64 256))),
 mv 83 82,
 ⟨some 84,(some (83,false)),.val (.mv (.t 6))⟩,
 ⟨some 85,(some (83,false)),.val (.not (.t 84))⟩,
 vl 86 (.pick (.t 83) (.c (.bool true)) (.t 85)),
 mv 87 86,
 ⟨some 88,(some (87,false)),.val (.mv (.t 8))⟩,
 ⟨some 89,(some (87,false)),.val (.not (.t 88))⟩,
 vl 90 (.pick (.t 87) (.c (.bool true)) (.t 89)),
 mv 91 90,
 ⟨some 92,(some (91,false)),.val (.mv (.t 10))⟩,
 ⟨some 93,(some (91,false)),.val (.not (.t 92))⟩,
 vl 94 (.pick (.t 91) (.c (.bool true)) (.t 93))] [1,5,7,9,94]) k9_2)) k9_7)
abbrev k9_9 : MC :=
 (.seq (.reg [
 vl 74 (.faddr 17 (.t 1)),
 vl 75 (.load true 7 (.t 74)),
 ⟨some 76,none,.call 24 [(.t 75)]⟩,
 mv 73 76,
 vl 77 (.ext (.t 73) 0),
 vl 78 (.ext (.t 73) 1),
 mv 9 77,
 mv 10 78] [1,5,6,7,8,9,10]) k9_8)
abbrev k9_10 : MC :=
 (.seq (.reg [
 vl 68 (.faddr 10 (.t 1)),
 vl 69 (.load true 7 (.t 68)),
 ⟨some 70,none,.call 24 [(.t 69)]⟩,
 mv 67 70,
 vl 71 (.ext (.t 67) 0),
 vl 72 (.ext (.t 67) 1),
 mv 7 71,
 mv 8 72] [1,5,6,7,8]) k9_9)
abbrev k9_11 : MC :=
 (.seq (.reg [
 vl 62 (.faddr 3 (.t 1)),
 vl 63 (.load true 7 (.t 62)),
 ⟨some 64,none,.call 24 [(.t 63)]⟩,
 mv 61 64,
 vl 65 (.ext (.t 61) 0),
 vl 66 (.ext (.t 61) 1),
 mv 5 65,
 mv 6 66] [1,5,6]) k9_10)
abbrev k9_12 : MC :=
 (.seq ((.seq (.reg (
 vl 23 (.faddr 0 (.t 1))::
 vl 24 (.load false 1 (.t 23))::
 vl 25 (.bin .lss .num (.t 24) (.c (.int .i64 0)))::
 mv 26 25::
 ⟨some 27,(some (26,false)),.val (.faddr 0 (.t 1))⟩::
 ⟨some 28,(some (26,false)),.val (.load false 1 (.t 27))⟩::
 ⟨some 29,(some (26,false)),.val (.bin .gtr .num (.t 28) (.c (.int .i64 4611686018427387904)))⟩::
 vl 30 (.pick (.t 26) (.c (.bool true)) (.t 29))::
 mv 31 30::
 ⟨some 32,(some (31,false)),.val (.faddr 1 (.t 1))⟩::
 ⟨some 33,(some (31,false)),.val (.load false 1 (.t 32))⟩::
 ⟨some 34,(some (31,false)),.val (.bin .lss .num (.t 33) (.c (.int .i64 1)))⟩::
 vl 35 (.pick (.t 31) (.c (.bool true)) (.t 34))::
 mv 36 35::
 ⟨some 37,(some (36,false)),.val (.faddr 1 (.t 1))⟩::
 ⟨some 38,(some (36,false)),.val (.load false 1 (.t 37))⟩::
 ⟨some 39,(some (36,false)),.val (.bin .gtr .num (.t 38) (.c (.int .i64 7)))⟩::
 vl 40 (.pick (.t 36) (.c (.bool true)) (.t 39))::
 mv 41 40::
 ⟨some 42,(some (41,false)),.val (.mv (.t 4))⟩::
 ⟨some 43,(some (41,false)),.val (.not (.t 42))⟩::
 vl 44 (.pick (.t 41) (.c (.bool true)) (.t 43))::
 mv 45 44::
 ⟨some 46,(some (45,false)),.val (.faddr 25 (.t 1))⟩::
 ⟨some 47,(some (45,false)),.val (.load false 1 (.t 46))⟩::
 ⟨some 48,(some (45,false)),.val (.bin .lss .num (.t 47) (.c (.int .i64 0)))⟩::
 vl 49 (.pick (.t 45) (.c (.bool true)) (.t 48))::
 mv 50 49::
 ⟨some 51,(some (50,false)),.val (.faddr 25 (.t 1))⟩::
 ⟨some 52,(some (50,false)),.val (.load false 1 (.t 51))⟩::
 ⟨some 53,(some (50,false)),.val (.bin .gtr .num (.t 52) (.c (.int .i64 1000)))⟩::
 vl 54 (.pick (.t 50) (.c (.bool true)) (.t 53))::
 mv 55 54::
 ⟨some 56,(some (55,false)),.val (.faddr 26 (.t 1))⟩::
 ⟨some 57,(some (55,false)),.val (.load false 1 (.t 56))⟩::
 ⟨some 58,(some (55,false)),.val (.len .str (.t 57))⟩::
 ⟨some 59,(some (55,false)),.val (.bin .gtr .num (.t 58) (.c (.int .i64 80)))⟩::
 vl 60 (.pick (.t 55) (.c (.bool true)) (.t 59))::[]) [1,60]) k9_1)) k9_11)
abbrev k9_13 : MC :=
 (.seq ((.seq (.reg [
 vl 17 (.faddr 1 (.t 1)),
 vl 18 (.load false 1 (.t 17)),
 vl 19 (.bin .eql .num (.t 18) (.c (.int .i64 1)))] [1,4,19]) k9_0)) k9_12)
abbrev k9_14 : MC :=
 (.seq (.reg [
 vl 14 (.faddr 2 (.t 1)),
 vl 15 (.load false 1 (.t 14)),
 ⟨some 16,none,.call 23 [(.t 15)]⟩,
 mv 4 16] [1,4]) k9_13)
abbrev k9 : MC :=
 (.seq (.reg [
 ⟨some 1,none,.boxi (.t 0)⟩,
 vl 2 (.mv (.c .nilSl)),
 vl 3 (.mv (.c (.int .i64 0)))] [1]) k9_14)
theorem c9 : Tryz.f9.body.bind (mcOf Tryz.prog (List.contains [1] ·) (List.getD [([],[1]),([],[1,4]),([],[1,4,19]),([],[1,4]),([],[1,60]),([],[2,3]),([],[1,5,6]),([],[1,5,6,7,8]),([],[1,5,6,7,8,9,10]),([],[1,5,7,9,94]),([],[2,3]),([0,0,0,0,0,0,0,0,0,0,0,0,0,0,0,0,0,0,0,0,0,0,0,0,0,0,0,0,0,0,0,0,0],[11]),([],[12,13]),([],[12,133]),([],[2,3]),([],[2,3])] · ([],[])) 135) = some k9 := by kernel_rfl
theorem r9 : rvsOf Tryz.prog Tryz.f9.results.toList = some [.tmp 2,.tmp 3] := by kernel_rfl
def Sup (a : A) : A → Prop
  | [] => True
  | (t,v) :: r => a.get t = some v ∧ Sup a r
theorem sup_get {a : A} : ∀ (a' : A),Sup a a' → ∀ t v,a'.get t = some v → a.get t = some v
  | [],_,t,v,h => by cases h
  | (u,w) :: r,hs,t,v,h => by
    simp only [A.get] at h
    split at h
    · rename_i e; subst e; rw [← h]; exact hs.1
    · exact sup_get r hs.2 t v h
abbrev askQ (r : Rq) (H : AH) : AExit → A → AH → Prop := Body [RV.tmp 2,RV.tmp 3] fun o H' => (∃ u,o = Out.ret u ∧ ∀ (s : St) (x : Value),s.val u x → s.val (.tuple [.sl 1 (byteCells r.enc.1) .no,.int .i64 r.enc.2]) x) ∧ H.le H'
theorem Rq.num_iff (r : Rq) : r.num = true ↔ (0 ≤ r.N ∧ r.N ≤ 4611686018427387904 ∧ 1 ≤ r.O ∧ r.O ≤ 7 ∧ 0 ≤ r.V ∧ r.V ≤ 1000 ∧ r.I.length ≤ 80) := by rw [Rq.num,decide_eq_true_eq]
theorem Rq.enc_bad {r : Rq} (h : r.right = false) : r.enc = ([],1) := by rw [Rq.enc,Rq.e0,if_pos h]; rfl
theorem Rq.enc_mid {r : Rq} (h : r.right = true) (h2 : 256 < r.P.length ∨ (encM r.c).2 ≠ 0 ∨ (encM r.p).2 ≠ 0 ∨ (encM r.q).2 ≠ 0) : r.enc = ([],3) := by rw [Rq.enc,Rq.e0,if_neg (by rw [h]; decide),if_pos h2]; rfl
theorem Rq.enc_ok {r : Rq} (h : r.right = true) (h2 : ¬ (256 < r.P.length ∨ (encM r.c).2 ≠ 0 ∨ (encM r.p).2 ≠ 0 ∨ (encM r.q).2 ≠ 0)) : r.enc = if (Vm.encS r.fl).2 ≠ 0 then ([],3) else ((Vm.encS r.fl).1,0) := by rw [Rq.enc,Rq.e0,if_neg (by rw [h]; decide),if_neg h2]; rfl
theorem ask_bad {r : Rq} {t : Tok} {H : AH} (hr : r.right = false) : AM Tryz.prog Tryz.f9.ntmps k9_12 (askQ r H) [(1,.rptr [.int .i64 r.N,.int .i64 r.O,.str r.K,.int .i64 r.c.K,.bool r.c.B,.int .i64 r.c.N,.int .i64 r.c.M,.str r.c.S,.sl 7 (rvE r.c.L) .no,.sl 1 (strE r.c.Keys) .no,.int .i64 r.p.K,.bool r.p.B,.int .i64 r.p.N,.int .i64 r.p.M,.str r.p.S,.sl 7 (rvE r.p.L) .no,.sl 1 (strE r.p.Keys) .no,.int .i64 r.q.K,.bool r.q.B,.int .i64 r.q.N,.int .i64 r.q.M,.str r.q.S,.sl 7 (rvE r.q.L) .no,.sl 1 (strE r.q.Keys) .no,.sl 1 (byteCells r.P) t,.int .i64 r.V,.str r.I] 0),(4,.bool r.nm)] H := by
  unfold askQ
  rw [Rq.enc_bad hr]
  cases hn : r.nm
  · repeat' (first|with_reducible refine go0 ?_|(with_reducible refine am_cnd ?_ ?_<;>intro hc<;>try (exfalso;omega))|((first|with_reducible (first|refine go1 ?_|refine vc_intro ?_|refine need_el ?_|refine vlen_a ?_|refine need_by ?_|refine need_lk ?_)|((with_reducible (first|apply gd_not|apply gd_of|apply gq_not|apply gq_of|apply pickB_of))<;>intro hc<;>(try simp (maxSteps:=1000000) -implicitDefEqProofs (disch:=omega) only [go_sem,hc])<;>(try simp only [reduceCtorEq,bD,beq_iff_eq] at hc)<;>(try (exfalso;omega)))|((with_reducible refine alloc_intro (fun ko hko=>?_))<;>(try have hne:=fresh_ne (by assumption) hko)<;>(try simp only [AH.put_none] at hko))|done)<;>(try simp (maxSteps:=1000000) -implicitDefEqProofs (disch:=omega) only [go_sem])))
    all_goals exact drop_end (by (first | exact fun _ _ h => h | (intro s x h; first | exact no_sub _ h | exact nil_no _ h | exact AccP.sub (by assumption) _ _ h | (refine agg_sub rfl ?_ x h; repeat (first | exact .nil | refine .cons (fun _ h => h) ?_ | refine .cons (fun _ h => nil_no _ h) ?_ | refine .cons (fun _ h => no_sub _ h) ?_ | refine .cons (fun _ h => AccP.sub (by assumption) _ _ h) ?_)) | (refine tuple_sub ?_ x h; repeat (first | exact .nil | refine .cons (fun _ h => h) ?_ | refine .cons (fun _ h => nil_no _ h) ?_ | refine .cons (fun _ h => no_sub _ h) ?_ | refine .cons (fun _ h => AccP.sub (by assumption) _ _ h) ?_ | refine .cons (fun _ h => agg_sub rfl (by repeat (first | exact .nil | refine .cons (fun _ h => h) ?_ | refine .cons (fun _ h => nil_no _ h) ?_ | refine .cons (fun _ h => no_sub _ h) ?_ | refine .cons (fun _ h => AccP.sub (by assumption) _ _ h) ?_)) _ h) ?_))))) (AH.le_refl _)
  · have hu : ¬ _ := fun h => by rw [show r.right = (r.nm && r.num) from rfl,hn,r.num_iff.2 h] at hr; cases hr
    repeat' (first|with_reducible refine go0 ?_|(with_reducible refine am_cnd ?_ ?_<;>intro hc<;>try (exfalso;omega))|((first|with_reducible (first|refine go1 ?_|refine vc_intro ?_|refine need_el ?_|refine vlen_a ?_|refine need_by ?_|refine need_lk ?_)|((with_reducible (first|apply gd_not|apply gd_of|apply gq_not|apply gq_of|apply pickB_of))<;>intro hc<;>(try simp (maxSteps:=1000000) -implicitDefEqProofs (disch:=omega) only [go_sem,hc])<;>(try simp only [reduceCtorEq,bD,beq_iff_eq] at hc)<;>(try (exfalso;omega)))|((with_reducible refine alloc_intro (fun ko hko=>?_))<;>(try have hne:=fresh_ne (by assumption) hko)<;>(try simp only [AH.put_none] at hko))|done)<;>(try simp (maxSteps:=1000000) -implicitDefEqProofs (disch:=omega) only [go_sem])))
    all_goals exact drop_end (by (first | exact fun _ _ h => h | (intro s x h; first | exact no_sub _ h | exact nil_no _ h | exact AccP.sub (by assumption) _ _ h | (refine agg_sub rfl ?_ x h; repeat (first | exact .nil | refine .cons (fun _ h => h) ?_ | refine .cons (fun _ h => nil_no _ h) ?_ | refine .cons (fun _ h => no_sub _ h) ?_ | refine .cons (fun _ h => AccP.sub (by assumption) _ _ h) ?_)) | (refine tuple_sub ?_ x h; repeat (first | exact .nil | refine .cons (fun _ h => h) ?_ | refine .cons (fun _ h => nil_no _ h) ?_ | refine .cons (fun _ h => no_sub _ h) ?_ | refine .cons (fun _ h => AccP.sub (by assumption) _ _ h) ?_ | refine .cons (fun _ h => agg_sub rfl (by repeat (first | exact .nil | refine .cons (fun _ h => h) ?_ | refine .cons (fun _ h => nil_no _ h) ?_ | refine .cons (fun _ h => no_sub _ h) ?_ | refine .cons (fun _ h => AccP.sub (by assumption) _ _ h) ?_)) _ h) ?_))))) (AH.le_refl _)
theorem ask_P {r : Rq} {a b d : Vl} {t : Tok} (hq : RqOk r a b d) (fa : r.c.FitB 140737488351232) (fb : r.p.FitB 140737488351232) (fd : r.q.FitB 140737488351232) {H : AH} (hr : r.right = true) (hP : 256 < r.P.length) : AM Tryz.prog Tryz.f9.ntmps k9_12 (askQ r H) [(1,.rptr [.int .i64 r.N,.int .i64 r.O,.str r.K,.int .i64 r.c.K,.bool r.c.B,.int .i64 r.c.N,.int .i64 r.c.M,.str r.c.S,.sl 7 (rvE r.c.L) .no,.sl 1 (strE r.c.Keys) .no,.int .i64 r.p.K,.bool r.p.B,.int .i64 r.p.N,.int .i64 r.p.M,.str r.p.S,.sl 7 (rvE r.p.L) .no,.sl 1 (strE r.p.Keys) .no,.int .i64 r.q.K,.bool r.q.B,.int .i64 r.q.N,.int .i64 r.q.M,.str r.q.S,.sl 7 (rvE r.q.L) .no,.sl 1 (strE r.q.Keys) .no,.sl 1 (byteCells r.P) t,.int .i64 r.V,.str r.I] 0),(4,.bool r.nm)] H := by
  obtain ⟨hs,sa,sb,sd,oa,ob,od,ra,rb,rd⟩ := hq
  unfold askQ
  have hrr := hr
  rw [show r.right = (r.nm && r.num) from rfl,Bool.and_eq_true,r.num_iff] at hrr
  obtain ⟨hn,hu⟩ := hrr
  rw [hn]
  have b1 := rb6_calls r.c a sa oa fa ra
  have b2 := rb6_calls r.p b sb ob fb rb
  have b3 := rb6_calls r.q d sd od fd rd
  rw [Rq.enc_mid hr (.inl hP)]
  have hP' : (256 : Int) < (r.P.length : Int) := by omega
  repeat' (first|with_reducible refine go0 ?_|(with_reducible refine am_cnd ?_ ?_<;>intro hc<;>try (exfalso;omega))|((first|with_reducible (first|refine go1 ?_|refine vc_intro ?_|refine need_el ?_|refine vlen_a ?_|refine need_by ?_|refine call_of (b1) ?_|refine qcall_of (b1) ?_|refine call_of (b2) ?_|refine qcall_of (b2) ?_|refine call_of (b3) ?_|refine qcall_of (b3) ?_|refine need_lk ?_)|((with_reducible (first|apply gd_not|apply gd_of|apply gq_not|apply gq_of|apply pickB_of))<;>intro hc<;>(try simp (maxSteps:=1000000) -implicitDefEqProofs (disch:=omega) only [go_sem,hc,hP',Bool.not_true])<;>(try simp only [reduceCtorEq,bD,beq_iff_eq] at hc)<;>(try (exfalso;omega)))|((with_reducible refine alloc_intro (fun ko hko=>?_))<;>(try have hne:=fresh_ne (by assumption) hko)<;>(try simp only [AH.put_none] at hko))|done)<;>(try simp (maxSteps:=1000000) -implicitDefEqProofs (disch:=omega) only [go_sem,hP',Bool.not_true])))
  all_goals exact drop_end (by (first | exact fun _ _ h => h | (intro s x h; first | exact no_sub _ h | exact nil_no _ h | exact AccP.sub (by assumption) _ _ h | (refine agg_sub rfl ?_ x h; repeat (first | exact .nil | refine .cons (fun _ h => h) ?_ | refine .cons (fun _ h => nil_no _ h) ?_ | refine .cons (fun _ h => no_sub _ h) ?_ | refine .cons (fun _ h => AccP.sub (by assumption) _ _ h) ?_)) | (refine tuple_sub ?_ x h; repeat (first | exact .nil | refine .cons (fun _ h => h) ?_ | refine .cons (fun _ h => nil_no _ h) ?_ | refine .cons (fun _ h => no_sub _ h) ?_ | refine .cons (fun _ h => AccP.sub (by assumption) _ _ h) ?_ | refine .cons (fun _ h => agg_sub rfl (by repeat (first | exact .nil | refine .cons (fun _ h => h) ?_ | refine .cons (fun _ h => nil_no _ h) ?_ | refine .cons (fun _ h => no_sub _ h) ?_ | refine .cons (fun _ h => AccP.sub (by assumption) _ _ h) ?_)) _ h) ?_))))) (AH.le_refl _)
theorem ask_1 {r : Rq} {a b d : Vl} {t : Tok} (hq : RqOk r a b d) (fa : r.c.FitB 140737488351232) (fb : r.p.FitB 140737488351232) (fd : r.q.FitB 140737488351232) {H : AH} (hr : r.right = true) (hP : ¬ 256 < r.P.length) (h1 : (encM r.c).2 ≠ 0) : AM Tryz.prog Tryz.f9.ntmps k9_12 (askQ r H) [(1,.rptr [.int .i64 r.N,.int .i64 r.O,.str r.K,.int .i64 r.c.K,.bool r.c.B,.int .i64 r.c.N,.int .i64 r.c.M,.str r.c.S,.sl 7 (rvE r.c.L) .no,.sl 1 (strE r.c.Keys) .no,.int .i64 r.p.K,.bool r.p.B,.int .i64 r.p.N,.int .i64 r.p.M,.str r.p.S,.sl 7 (rvE r.p.L) .no,.sl 1 (strE r.p.Keys) .no,.int .i64 r.q.K,.bool r.q.B,.int .i64 r.q.N,.int .i64 r.q.M,.str r.q.S,.sl 7 (rvE r.q.L) .no,.sl 1 (strE r.q.Keys) .no,.sl 1 (byteCells r.P) t,.int .i64 r.V,.str r.I] 0),(4,.bool r.nm)] H := by
  obtain ⟨hs,sa,sb,sd,oa,ob,od,ra,rb,rd⟩ := hq
  unfold askQ
  have hrr := hr
  rw [show r.right = (r.nm && r.num) from rfl,Bool.and_eq_true,r.num_iff] at hrr
  obtain ⟨hn,hu⟩ := hrr
  rw [hn]
  have b1 := rb6_calls r.c a sa oa fa ra
  have b2 := rb6_calls r.p b sb ob fb rb
  have b3 := rb6_calls r.q d sd od fd rd
  rw [Rq.enc_mid hr (.inr (.inl h1))]
  have hP' : ¬ (256 : Int) < (r.P.length : Int) := by omega
  rw [decide_eq_false h1] at b1
  repeat' (first|with_reducible refine go0 ?_|(with_reducible refine am_cnd ?_ ?_<;>intro hc<;>try (exfalso;omega))|((first|with_reducible (first|refine go1 ?_|refine vc_intro ?_|refine need_el ?_|refine vlen_a ?_|refine need_by ?_|refine call_of (b1) ?_|refine qcall_of (b1) ?_|refine call_of (b2) ?_|refine qcall_of (b2) ?_|refine call_of (b3) ?_|refine qcall_of (b3) ?_|refine need_lk ?_)|((with_reducible (first|apply gd_not|apply gd_of|apply gq_not|apply gq_of|apply pickB_of))<;>intro hc<;>(try simp (maxSteps:=1000000) -implicitDefEqProofs (disch:=omega) only [go_sem,hc,hP',Bool.not_true,Bool.not_false])<;>(try simp only [reduceCtorEq,bD,beq_iff_eq] at hc)<;>(try (exfalso;omega)))|((with_reducible refine alloc_intro (fun ko hko=>?_))<;>(try have hne:=fresh_ne (by assumption) hko)<;>(try simp only [AH.put_none] at hko))|done)<;>(try simp (maxSteps:=1000000) -implicitDefEqProofs (disch:=omega) only [go_sem,hP',Bool.not_true,Bool.not_false])))
  all_goals exact drop_end (by (first | exact fun _ _ h => h | (intro s x h; first | exact no_sub _ h | exact nil_no _ h | exact AccP.sub (by assumption) _ _ h | (refine agg_sub rfl ?_ x h; repeat (first | exact .nil | refine .cons (fun _ h => h) ?_ | refine .cons (fun _ h => nil_no _ h) ?_ | refine .cons (fun _ h => no_sub _ h) ?_ | refine .cons (fun _ h => AccP.sub (by assumption) _ _ h) ?_)) | (refine tuple_sub ?_ x h; repeat (first | exact .nil | refine .cons (fun _ h => h) ?_ | refine .cons (fun _ h => nil_no _ h) ?_ | refine .cons (fun _ h => no_sub _ h) ?_ | refine .cons (fun _ h => AccP.sub (by assumption) _ _ h) ?_ | refine .cons (fun _ h => agg_sub rfl (by repeat (first | exact .nil | refine .cons (fun _ h => h) ?_ | refine .cons (fun _ h => nil_no _ h) ?_ | refine .cons (fun _ h => no_sub _ h) ?_ | refine .cons (fun _ h => AccP.sub (by assumption) _ _ h) ?_)) _ h) ?_))))) (AH.le_refl _)
theorem ask_2 {r : Rq} {a b d : Vl} {t : Tok} (hq : RqOk r a b d) (fa : r.c.FitB 140737488351232) (fb : r.p.FitB 140737488351232) (fd : r.q.FitB 140737488351232) {H : AH} (hr : r.right = true) (hP : ¬ 256 < r.P.length) (h1 : (encM r.c).2 = 0) (h2 : (encM r.p).2 ≠ 0) : AM Tryz.prog Tryz.f9.ntmps k9_12 (askQ r H) [(1,.rptr [.int .i64 r.N,.int .i64 r.O,.str r.K,.int .i64 r.c.K,.bool r.c.B,.int .i64 r.c.N,.int .i64 r.c.M,.str r.c.S,.sl 7 (rvE r.c.L) .no,.sl 1 (strE r.c.Keys) .no,.int .i64 r.p.K,.bool r.p.B,.int .i64 r.p.N,.int .i64 r.p.M,.str r.p.S,.sl 7 (rvE r.p.L) .no,.sl 1 (strE r.p.Keys) .no,.int .i64 r.q.K,.bool r.q.B,.int .i64 r.q.N,.int .i64 r.q.M,.str r.q.S,.sl 7 (rvE r.q.L) .no,.sl 1 (strE r.q.Keys) .no,.sl 1 (byteCells r.P) t,.int .i64 r.V,.str r.I] 0),(4,.bool r.nm)] H := by
  obtain ⟨hs,sa,sb,sd,oa,ob,od,ra,rb,rd⟩ := hq
  unfold askQ
  have hrr := hr
  rw [show r.right = (r.nm && r.num) from rfl,Bool.and_eq_true,r.num_iff] at hrr
  obtain ⟨hn,hu⟩ := hrr
  rw [hn]
  have b1 := rb6_calls r.c a sa oa fa ra
  have b2 := rb6_calls r.p b sb ob fb rb
  have b3 := rb6_calls r.q d sd od fd rd
  rw [Rq.enc_mid hr (.inr (.inr (.inl h2)))]
  have hP' : ¬ (256 : Int) < (r.P.length : Int) := by omega
  rw [decide_eq_true h1] at b1
  rw [decide_eq_false h2] at b2
  repeat' (first|with_reducible refine go0 ?_|(with_reducible refine am_cnd ?_ ?_<;>intro hc<;>try (exfalso;omega))|((first|with_reducible (first|refine go1 ?_|refine vc_intro ?_|refine need_el ?_|refine vlen_a ?_|refine need_by ?_|refine call_of (b1) ?_|refine qcall_of (b1) ?_|refine call_of (b2) ?_|refine qcall_of (b2) ?_|refine call_of (b3) ?_|refine qcall_of (b3) ?_|refine need_lk ?_)|((with_reducible (first|apply gd_not|apply gd_of|apply gq_not|apply gq_of|apply pickB_of))<;>intro hc<;>(try simp (maxSteps:=1000000) -implicitDefEqProofs (disch:=omega) only [go_sem,hc,hP',Bool.not_true,Bool.not_false])<;>(try simp only [reduceCtorEq,bD,beq_iff_eq] at hc)<;>(try (exfalso;omega)))|((with_reducible refine alloc_intro (fun ko hko=>?_))<;>(try have hne:=fresh_ne (by assumption) hko)<;>(try simp only [AH.put_none] at hko))|done)<;>(try simp (maxSteps:=1000000) -implicitDefEqProofs (disch:=omega) only [go_sem,hP',Bool.not_true,Bool.not_false])))
  all_goals exact drop_end (by (first | exact fun _ _ h => h | (intro s x h; first | exact no_sub _ h | exact nil_no _ h | exact AccP.sub (by assumption) _ _ h | (refine agg_sub rfl ?_ x h; repeat (first | exact .nil | refine .cons (fun _ h => h) ?_ | refine .cons (fun _ h => nil_no _ h) ?_ | refine .cons (fun _ h => no_sub _ h) ?_ | refine .cons (fun _ h => AccP.sub (by assumption) _ _ h) ?_)) | (refine tuple_sub ?_ x h; repeat (first | exact .nil | refine .cons (fun _ h => h) ?_ | refine .cons (fun _ h => nil_no _ h) ?_ | refine .cons (fun _ h => no_sub _ h) ?_ | refine .cons (fun _ h => AccP.sub (by assumption) _ _ h) ?_ | refine .cons (fun _ h => agg_sub rfl (by repeat (first | exact .nil | refine .cons (fun _ h => h) ?_ | refine .cons (fun _ h => nil_no _ h) ?_ | refine .cons (fun _ h => no_sub _ h) ?_ | refine .cons (fun _ h => AccP.sub (by assumption) _ _ h) ?_)) _ h) ?_))))) (AH.le_refl _)
theorem ask_3 {r : Rq} {a b d : Vl} {t : Tok} (hq : RqOk r a b d) (fa : r.c.FitB 140737488351232) (fb : r.p.FitB 140737488351232) (fd : r.q.FitB 140737488351232) {H : AH} (hr : r.right = true) (hP : ¬ 256 < r.P.length) (h1 : (encM r.c).2 = 0) (h2 : (encM r.p).2 = 0) (h3 : (encM r.q).2 ≠ 0) : AM Tryz.prog Tryz.f9.ntmps k9_12 (askQ r H) [(1,.rptr [.int .i64 r.N,.int .i64 r.O,.str r.K,.int .i64 r.c.K,.bool r.c.B,.int .i64 r.c.N,.int .i64 r.c.M,.str r.c.S,.sl 7 (rvE r.c.L) .no,.sl 1 (strE r.c.Keys) .no,.int .i64 r.p.K,.bool r.p.B,.int .i64 r.p.N,.int .i64 r.p.M,.str r.p.S,.sl 7 (rvE r.p.L) .no,.sl 1 (strE r.p.Keys) .no,.int .i64 r.q.K,.bool r.q.B,.int .i64 r.q.N,.int .i64 r.q.M,.str r.q.S,.sl 7 (rvE r.q.L) .no,.sl 1 (strE r.q.Keys) .no,.sl 1 (byteCells r.P) t,.int .i64 r.V,.str r.I] 0),(4,.bool r.nm)] H := by
  obtain ⟨hs,sa,sb,sd,oa,ob,od,ra,rb,rd⟩ := hq
  unfold askQ
  have hrr := hr
  rw [show r.right = (r.nm && r.num) from rfl,Bool.and_eq_true,r.num_iff] at hrr
  obtain ⟨hn,hu⟩ := hrr
  rw [hn]
  have b1 := rb6_calls r.c a sa oa fa ra
  have b2 := rb6_calls r.p b sb ob fb rb
  have b3 := rb6_calls r.q d sd od fd rd
  rw [Rq.enc_mid hr (.inr (.inr (.inr h3)))]
  have hP' : ¬ (256 : Int) < (r.P.length : Int) := by omega
  rw [decide_eq_true h1] at b1
  rw [decide_eq_true h2] at b2
  rw [decide_eq_false h3] at b3
  repeat' (first|with_reducible refine go0 ?_|(with_reducible refine am_cnd ?_ ?_<;>intro hc<;>try (exfalso;omega))|((first|with_reducible (first|refine go1 ?_|refine vc_intro ?_|refine need_el ?_|refine vlen_a ?_|refine need_by ?_|refine call_of (b1) ?_|refine qcall_of (b1) ?_|refine call_of (b2) ?_|refine qcall_of (b2) ?_|refine call_of (b3) ?_|refine qcall_of (b3) ?_|refine need_lk ?_)|((with_reducible (first|apply gd_not|apply gd_of|apply gq_not|apply gq_of|apply pickB_of))<;>intro hc<;>(try simp (maxSteps:=1000000) -implicitDefEqProofs (disch:=omega) only [go_sem,hc,hP',Bool.not_true,Bool.not_false])<;>(try simp only [reduceCtorEq,bD,beq_iff_eq] at hc)<;>(try (exfalso;omega)))|((with_reducible refine alloc_intro (fun ko hko=>?_))<;>(try have hne:=fresh_ne (by assumption) hko)<;>(try simp only [AH.put_none] at hko))|done)<;>(try simp (maxSteps:=1000000) -implicitDefEqProofs (disch:=omega) only [go_sem,hP',Bool.not_true,Bool.not_false])))
  all_goals exact drop_end (by (first | exact fun _ _ h => h | (intro s x h; first | exact no_sub _ h | exact nil_no _ h | exact AccP.sub (by assumption) _ _ h | (refine agg_sub rfl ?_ x h; repeat (first | exact .nil | refine .cons (fun _ h => h) ?_ | refine .cons (fun _ h => nil_no _ h) ?_ | refine .cons (fun _ h => no_sub _ h) ?_ | refine .cons (fun _ h => AccP.sub (by assumption) _ _ h) ?_)) | (refine tuple_sub ?_ x h; repeat (first | exact .nil | refine .cons (fun _ h => h) ?_ | refine .cons (fun _ h => nil_no _ h) ?_ | refine .cons (fun _ h => no_sub _ h) ?_ | refine .cons (fun _ h => AccP.sub (by assumption) _ _ h) ?_ | refine .cons (fun _ h => agg_sub rfl (by repeat (first | exact .nil | refine .cons (fun _ h => h) ?_ | refine .cons (fun _ h => nil_no _ h) ?_ | refine .cons (fun _ h => no_sub _ h) ?_ | refine .cons (fun _ h => AccP.sub (by assumption) _ _ h) ?_)) _ h) ?_))))) (AH.le_refl _)
set_option maxHeartbeats 2000000 in
set_option maxRecDepth 10000 in
theorem ask_reg {r : Rq} {a b d : Vl} {t : Tok} (hq : RqOk r a b d) {H : AH} (he : r.enc = if (Vm.encS r.fl).2 ≠ 0 then ([],3) else ((Vm.encS r.fl).1,0)) : AM Tryz.prog Tryz.f9.ntmps k9_7 (askQ r H) [(1,.rptr [.int .i64 r.N,.int .i64 r.O,.str r.K,.int .i64 r.c.K,.bool r.c.B,.int .i64 r.c.N,.int .i64 r.c.M,.str r.c.S,.sl 7 (rvE r.c.L) .no,.sl 1 (strE r.c.Keys) .no,.int .i64 r.p.K,.bool r.p.B,.int .i64 r.p.N,.int .i64 r.p.M,.str r.p.S,.sl 7 (rvE r.p.L) .no,.sl 1 (strE r.p.Keys) .no,.int .i64 r.q.K,.bool r.q.B,.int .i64 r.q.N,.int .i64 r.q.M,.str r.q.S,.sl 7 (rvE r.q.L) .no,.sl 1 (strE r.q.Keys) .no,.sl 1 (byteCells r.P) t,.int .i64 r.V,.str r.I] 0),(5,.sl 1 (byteCells (encM r.c).1) .no),(7,.sl 1 (byteCells (encM r.p).1) .no),(9,.sl 1 (byteCells (encM r.q).1) .no)] H := by
  obtain ⟨hs,sa,sb,sd,oa,ob,od,ra,rb,rd⟩ := hq
  unfold askQ
  have hk := hs.k
  have hi := hs.i
  have hpl := hs.p
  have la := encM_len r.c
  have lb := encM_len r.p
  have ld := encM_len r.q
  have t3 := fun H => rtext_calls (t := 3) (s := r.K) (by omega) H
  have t4 := fun H => rtext_calls (t := 4) (s := (encM r.c).1) (by omega) H
  have t5 := fun H => rtext_calls (t := 5) (s := (encM r.p).1) (by omega) H
  have t6 := fun H => rtext_calls (t := 6) (s := (encM r.q).1) (by omega) H
  have t7 := fun H => rtext_calls (t := 7) (s := r.P) (by omega) H
  have t9 := fun H => rtext_calls (t := 9) (s := r.I) (by omega) H
  have ec : ∀ H : AH,ACalls Tryz.prog 26 [.sl 4 (r.fl.map fldN) .tight] H (fun o H' => o = .ret (.tuple [.sl 1 (byteCells (Vm.encS r.fl).1) .no,.int .i64 (Vm.encS r.fl).2]) ∧ H' = H) := fun H => ACalls.sub (fun s => .cons (fun x h => sl_fld (by intro f hf; simp [Rq.fl] at hf; rcases hf with rfl | rfl | rfl | rfl | rfl | rfl | rfl | rfl | rfl <;> simp) x (no_sub x h)) .nil) (Msg.rencode_calls (l := r.fl) (t := .no) (by simp [Rq.fl]) hs.ok H)
  have hfl : r.fl.map fldN = [[.int .i64 1,.bool false,.int .u64 (un r.N),.nilSl],[.int .i64 2,.bool false,.int .u64 (un r.O),.nilSl],[.int .i64 3,.bool true,.int .u64 0,.sl 1 (byteCells r.K) .no],[.int .i64 4,.bool true,.int .u64 0,.sl 1 (byteCells (encM r.c).1) .no],[.int .i64 5,.bool true,.int .u64 0,.sl 1 (byteCells (encM r.p).1) .no],[.int .i64 6,.bool true,.int .u64 0,.sl 1 (byteCells (encM r.q).1) .no],[.int .i64 7,.bool true,.int .u64 0,.sl 1 (byteCells r.P) .no],[.int .i64 8,.bool false,.int .u64 (un r.V),.nilSl],[.int .i64 9,.bool true,.int .u64 0,.sl 1 (byteCells r.I) .no]] := rfl
  rw [hfl] at ec
  simp only [fldC] at t3 t4 t5 t6 t7 t9
  have w1 := wrap_un r.N
  have w2 := wrap_un r.O
  have w3 := wrap_un r.V
  rw [he]
  generalize Vm.encS r.fl = z at *
  generalize encM r.c = x1 at *
  generalize encM r.p = x2 at *
  generalize encM r.q = x3 at *
  clear sa sb sd oa ob od ra rb rd he hfl
  by_cases hz : z.2 = 0
  · rw [if_neg (by simp [hz])]
    repeat' (first|with_reducible refine go0 ?_|(with_reducible refine am_cnd ?_ ?_<;>intro hc<;>try (exfalso;omega))|((first|with_reducible (first|refine go1 ?_|refine vc_intro ?_|refine need_el ?_|refine vlen_a ?_|refine need_by ?_|refine call_of (t3) ?_|refine qcall_of (t3) ?_|refine call_of (t4) ?_|refine qcall_of (t4) ?_|refine call_of (t5) ?_|refine qcall_of (t5) ?_|refine call_of (t6) ?_|refine qcall_of (t6) ?_|refine call_of (t7) ?_|refine qcall_of (t7) ?_|refine call_of (t9) ?_|refine qcall_of (t9) ?_|refine call_of (ec) ?_|refine qcall_of (ec) ?_|refine need_lk ?_)|((with_reducible refine alloc_intro (fun ko hko=>?_))<;>(try have hne:=fresh_ne (by assumption) hko)<;>(try have hnk:=fresh_ne hk hko)<;>(try simp only [AH.put_none] at hko))|done)<;>(try simp (maxSteps:=1000000) -implicitDefEqProofs (disch:=omega) only [go_sem,w1,w2,w3,hz])))
    all_goals exact drop_end (by (first | exact fun _ _ h => h | (intro s x h; first | exact no_sub _ h | exact nil_no _ h | exact AccP.sub (by assumption) _ _ h | (refine agg_sub rfl ?_ x h; repeat (first | exact .nil | refine .cons (fun _ h => h) ?_ | refine .cons (fun _ h => nil_no _ h) ?_ | refine .cons (fun _ h => no_sub _ h) ?_ | refine .cons (fun _ h => AccP.sub (by assumption) _ _ h) ?_)) | (refine tuple_sub ?_ x h; repeat (first | exact .nil | refine .cons (fun _ h => h) ?_ | refine .cons (fun _ h => nil_no _ h) ?_ | refine .cons (fun _ h => no_sub _ h) ?_ | refine .cons (fun _ h => AccP.sub (by assumption) _ _ h) ?_ | refine .cons (fun _ h => agg_sub rfl (by repeat (first | exact .nil | refine .cons (fun _ h => h) ?_ | refine .cons (fun _ h => nil_no _ h) ?_ | refine .cons (fun _ h => no_sub _ h) ?_ | refine .cons (fun _ h => AccP.sub (by assumption) _ _ h) ?_)) _ h) ?_))))) (AH.le_refl _)
  · rw [if_pos hz]
    repeat' (first|with_reducible refine go0 ?_|(with_reducible refine am_cnd ?_ ?_<;>intro hc<;>try (exfalso;omega))|((first|with_reducible (first|refine go1 ?_|refine vc_intro ?_|refine need_el ?_|refine vlen_a ?_|refine need_by ?_|refine call_of (t3) ?_|refine qcall_of (t3) ?_|refine call_of (t4) ?_|refine qcall_of (t4) ?_|refine call_of (t5) ?_|refine qcall_of (t5) ?_|refine call_of (t6) ?_|refine qcall_of (t6) ?_|refine call_of (t7) ?_|refine qcall_of (t7) ?_|refine call_of (t9) ?_|refine qcall_of (t9) ?_|refine call_of (ec) ?_|refine qcall_of (ec) ?_|refine need_lk ?_)|((with_reducible refine alloc_intro (fun ko hko=>?_))<;>(try have hne:=fresh_ne (by assumption) hko)<;>(try have hnk:=fresh_ne hk hko)<;>(try simp only [AH.put_none] at hko))|done)<;>(try simp (maxSteps:=1000000) -implicitDefEqProofs (disch:=omega) only [go_sem,w1,w2,w3,hz])))
    all_goals exact drop_end (by (first | exact fun _ _ h => h | (intro s x h; first | exact no_sub _ h | exact nil_no _ h | exact AccP.sub (by assumption) _ _ h | (refine agg_sub rfl ?_ x h; repeat (first | exact .nil | refine .cons (fun _ h => h) ?_ | refine .cons (fun _ h => nil_no _ h) ?_ | refine .cons (fun _ h => no_sub _ h) ?_ | refine .cons (fun _ h => AccP.sub (by assumption) _ _ h) ?_)) | (refine tuple_sub ?_ x h; repeat (first | exact .nil | refine .cons (fun _ h => h) ?_ | refine .cons (fun _ h => nil_no _ h) ?_ | refine .cons (fun _ h => no_sub _ h) ?_ | refine .cons (fun _ h => AccP.sub (by assumption) _ _ h) ?_ | refine .cons (fun _ h => agg_sub rfl (by repeat (first | exact .nil | refine .cons (fun _ h => h) ?_ | refine .cons (fun _ h => nil_no _ h) ?_ | refine .cons (fun _ h => no_sub _ h) ?_ | refine .cons (fun _ h => AccP.sub (by assumption) _ _ h) ?_)) _ h) ?_))))) (AH.le_refl _)
theorem ask_ok {r : Rq} {a b d : Vl} {t : Tok} (hq : RqOk r a b d) (fa : r.c.FitB 140737488351232) (fb : r.p.FitB 140737488351232) (fd : r.q.FitB 140737488351232) {H : AH} (hr : r.right = true) (hP : ¬ 256 < r.P.length) (h1 : (encM r.c).2 = 0) (h2 : (encM r.p).2 = 0) (h3 : (encM r.q).2 = 0) : AM Tryz.prog Tryz.f9.ntmps k9_12 (askQ r H) [(1,.rptr [.int .i64 r.N,.int .i64 r.O,.str r.K,.int .i64 r.c.K,.bool r.c.B,.int .i64 r.c.N,.int .i64 r.c.M,.str r.c.S,.sl 7 (rvE r.c.L) .no,.sl 1 (strE r.c.Keys) .no,.int .i64 r.p.K,.bool r.p.B,.int .i64 r.p.N,.int .i64 r.p.M,.str r.p.S,.sl 7 (rvE r.p.L) .no,.sl 1 (strE r.p.Keys) .no,.int .i64 r.q.K,.bool r.q.B,.int .i64 r.q.N,.int .i64 r.q.M,.str r.q.S,.sl 7 (rvE r.q.L) .no,.sl 1 (strE r.q.Keys) .no,.sl 1 (byteCells r.P) t,.int .i64 r.V,.str r.I] 0),(4,.bool r.nm)] H := by
  have tail := ask_reg (t := t) (H := H) hq (Rq.enc_ok hr (by simp [hP,h1,h2,h3]))
  obtain ⟨hs,sa,sb,sd,oa,ob,od,ra,rb,rd⟩ := hq
  have hrr := hr
  rw [show r.right = (r.nm && r.num) from rfl,Bool.and_eq_true,r.num_iff] at hrr
  obtain ⟨hn,hu⟩ := hrr
  rw [hn]
  have b1 := rb6_calls r.c a sa oa fa ra
  have b2 := rb6_calls r.p b sb ob fb rb
  have b3 := rb6_calls r.q d sd od fd rd
  have hP' : ¬ (256 : Int) < (r.P.length : Int) := by omega
  rw [decide_eq_true h1] at b1
  rw [decide_eq_true h2] at b2
  rw [decide_eq_true h3] at b3
  repeat' (first|(((with_reducible refine AM.sub tail ?_);exact sup_get _ ⟨rfl,rfl,rfl,rfl,trivial⟩))|with_reducible refine go0 ?_|(with_reducible refine am_cnd ?_ ?_<;>intro hc<;>try (exfalso;omega))|((first|with_reducible (first|refine go1 ?_|refine vc_intro ?_|refine need_el ?_|refine vlen_a ?_|refine need_by ?_|refine call_of (b1) ?_|refine qcall_of (b1) ?_|refine call_of (b2) ?_|refine qcall_of (b2) ?_|refine call_of (b3) ?_|refine qcall_of (b3) ?_|refine need_lk ?_)|((with_reducible (first|apply gd_not|apply gd_of|apply gq_not|apply gq_of|apply pickB_of))<;>intro hc<;>(try simp (maxSteps:=1000000) -implicitDefEqProofs (disch:=omega) only [go_sem,hc,hP',Bool.not_true])<;>(try simp only [reduceCtorEq,bD,beq_iff_eq] at hc)<;>(try (exfalso;omega)))|((with_reducible refine alloc_intro (fun ko hko=>?_))<;>(try have hne:=fresh_ne (by assumption) hko)<;>(try simp only [AH.put_none] at hko))|done)<;>(try simp (maxSteps:=1000000) -implicitDefEqProofs (disch:=omega) only [go_sem,hP',Bool.not_true])))
theorem ask_calls {r : Rq} {a b d : Vl} {t : Tok} (hq : RqOk r a b d) (fa : r.c.FitB 140737488351232) (fb : r.p.FitB 140737488351232) (fd : r.q.FitB 140737488351232) (H : AH) : ACalls Tryz.prog 9 [.agg [.int .i64 r.N,.int .i64 r.O,.str r.K,.int .i64 r.c.K,.bool r.c.B,.int .i64 r.c.N,.int .i64 r.c.M,.str r.c.S,.sl 7 (rvE r.c.L) .no,.sl 1 (strE r.c.Keys) .no,.int .i64 r.p.K,.bool r.p.B,.int .i64 r.p.N,.int .i64 r.p.M,.str r.p.S,.sl 7 (rvE r.p.L) .no,.sl 1 (strE r.p.Keys) .no,.int .i64 r.q.K,.bool r.q.B,.int .i64 r.q.N,.int .i64 r.q.M,.str r.q.S,.sl 7 (rvE r.q.L) .no,.sl 1 (strE r.q.Keys) .no,.sl 1 (byteCells r.P) t,.int .i64 r.V,.str r.I]] H (fun o H' => o = .ret (.tuple [.sl 1 (byteCells r.enc.1) .no,.int .i64 r.enc.2]) ∧ H' = H) := by
  have tail : AM Tryz.prog Tryz.f9.ntmps k9_12 (askQ r H) [(1,.rptr [.int .i64 r.N,.int .i64 r.O,.str r.K,.int .i64 r.c.K,.bool r.c.B,.int .i64 r.c.N,.int .i64 r.c.M,.str r.c.S,.sl 7 (rvE r.c.L) .no,.sl 1 (strE r.c.Keys) .no,.int .i64 r.p.K,.bool r.p.B,.int .i64 r.p.N,.int .i64 r.p.M,.str r.p.S,.sl 7 (rvE r.p.L) .no,.sl 1 (strE r.p.Keys) .no,.int .i64 r.q.K,.bool r.q.B,.int .i64 r.q.N,.int .i64 r.q.M,.str r.q.S,.sl 7 (rvE r.q.L) .no,.sl 1 (strE r.q.Keys) .no,.sl 1 (byteCells r.P) t,.int .i64 r.V,.str r.I] 0),(4,.bool r.nm)] H := by
    cases hr : r.right with
    | false => exact ask_bad hr
    | true =>
      by_cases hP : 256 < r.P.length
      · exact ask_P hq fa fb fd hr hP
      · by_cases h1 : (encM r.c).2 = 0
        · by_cases h2 : (encM r.p).2 = 0
          · by_cases h3 : (encM r.q).2 = 0
            · exact ask_ok hq fa fb fd hr hP h1 h2 h3
            · exact ask_3 hq fa fb fd hr hP h1 h2 h3
          · exact ask_2 hq fa fb fd hr hP h1 h2
        · exact ask_1 hq fa fb fd hr hP h1
  have hk := hq.s.k
  have nc := fun H => rnamed_calls (s := r.K) (by omega) H
  refine ACalls.drop ?_
  refine acalls Tryz.func9 c9 r9 (by simp [Tryz.ntmps9]) ?_
  unfold Rq.nm at tail
  by_cases ho : r.O = 1
  · rw [if_pos ho,ho] at tail
    repeat' (first|(((with_reducible refine AM.sub tail ?_);exact sup_get _ ⟨rfl,rfl,trivial⟩))|with_reducible refine go0 ?_|(with_reducible refine am_cnd ?_ ?_<;>intro hc<;>try (exfalso;omega))|((first|with_reducible (first|refine go1 ?_|refine vc_intro ?_|refine need_el ?_|refine vlen_a ?_|refine need_by ?_|refine call_of (nc) ?_|refine qcall_of (nc) ?_|refine need_lk ?_)|((with_reducible (first|apply gd_not|apply gd_of|apply gq_not|apply gq_of|apply pickB_of))<;>intro hc<;>(try simp (maxSteps:=1000000) -implicitDefEqProofs (disch:=omega) only [go_sem,hc,ho])<;>(try simp only [reduceCtorEq,bD,beq_iff_eq] at hc)<;>(try (exfalso;omega)))|((with_reducible refine alloc_intro (fun ko hko=>?_))<;>(try have hne:=fresh_ne (by assumption) hko)<;>(try have hnk:=fresh_ne hk hko)<;>(try simp only [AH.put_none] at hko))|done)<;>(try simp (maxSteps:=1000000) -implicitDefEqProofs (disch:=omega) only [go_sem,ho])))
  · rw [if_neg ho] at tail
    repeat' (first|(((with_reducible refine AM.sub tail ?_);exact sup_get _ ⟨rfl,rfl,trivial⟩))|with_reducible refine go0 ?_|(with_reducible refine am_cnd ?_ ?_<;>intro hc<;>try (exfalso;omega))|((first|with_reducible (first|refine go1 ?_|refine vc_intro ?_|refine need_el ?_|refine vlen_a ?_|refine need_by ?_|refine call_of (nc) ?_|refine qcall_of (nc) ?_|refine need_lk ?_)|((with_reducible (first|apply gd_not|apply gd_of|apply gq_not|apply gq_of|apply pickB_of))<;>intro hc<;>(try simp (maxSteps:=1000000) -implicitDefEqProofs (disch:=omega) only [go_sem,hc,ho])<;>(try simp only [reduceCtorEq,bD,beq_iff_eq] at hc)<;>(try (exfalso;omega)))|((with_reducible refine alloc_intro (fun ko hko=>?_))<;>(try have hne:=fresh_ne (by assumption) hko)<;>(try have hnk:=fresh_ne hk hko)<;>(try simp only [AH.put_none] at hko))|done)<;>(try simp (maxSteps:=1000000) -implicitDefEqProofs (disch:=omega) only [go_sem,ho])))
end Go.Proofs.YtkldmgnhbomknaaGreat
