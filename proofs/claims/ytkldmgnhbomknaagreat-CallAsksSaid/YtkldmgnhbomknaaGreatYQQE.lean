/- Contracts of functions of the given program. Conditions: as each theorem says. -/
import Derived.Test.YtkldmgnhbomknaaGreatYQQD
import Derived.Test.YtkldmgnhbomknaaGreatVmV
import Derived.Test.YtkldmgnhbomknaaGreatQZKV21
import Derived.Test.YtkldmgnhbomknaaGreatYQQB
import Derived.Test.YtkldmgnhbomknaaGreatVm32
import Derived.Test.YtkldmgnhbomknaaGreatProg
import Derived.KernelRfl
set_option linter.unusedVariables false
set_option linter.unusedSimpArgs false
/- CallAsks. -/
namespace Go.Proofs.YtkldmgnhbomknaaGreat
open Go.Vm
attribute [local go_sem] eq_self decide_true decide_false AH.put_ne
attribute [local go_sem_proc] Nat.reduceBEq Nat.reduceAdd Nat.reduceSub Nat.reduceMul Nat.reduceEqDiff Nat.reduceLeDiff Nat.reduceLT Int.reduceLE Int.reduceLT Int.reduceToNat Int.reduceAdd Int.reduceEq Int.reduceNeg
attribute [local go_sem] vE_length byteCells_length byteCells_get bytes_cells bytesOf_cells fldC fldsE_get fldsE_length List.drop_zero toNat_succ Nat.sub_zero Int.toNat_natCast Option.map_some Int.natCast_nonneg decide_eq_true_eq decide_eq_false_iff_not
/- flange/flangelaw22.CallAsks -/
abbrev k3_0 : MC :=
 .cond (.t 43) ((.seq (.reg [
 ⟨some 44,none,.call 5 []⟩,
 mv 2 44] [2]) (.ret))) (.skip)
abbrev k3_1 : MC :=
 .cond (.t 67) ((.seq (.reg [
 vl 2 (.mv (.c (.bool false)))] [2]) (.ret))) (.skip)
abbrev k3_2 : MC :=
 .cond (.t 69) ((.seq (.reg [
 vl 2 (.mv (.c (.bool true)))] [2]) (.ret))) (.skip)
abbrev k3_3 : MC :=
 (.seq (.drw (
 mv 75 9::
 vl 76 (.bin .eql .num (.t 75) (.c (.int .i64 0)))::
 mv 77 76::
 ⟨some 78,(some (77,true)),.val (.faddr 0 (.t 8))⟩::
 ⟨some 79,(some (77,true)),.val (.load false 1 (.t 78))⟩::
 ⟨some 80,(some (77,true)),.val (.faddr 0 (.t 3))⟩::
 ⟨some 81,(some (77,true)),.val (.load false 1 (.t 80))⟩::
 ⟨some 82,(some (77,true)),.val (.bin .eql .num (.t 79) (.t 81))⟩::
 vl 83 (.pick (.t 77) (.t 82) (.c (.bool false)))::
 mv 84 83::
 ⟨some 85,(some (84,true)),.val (.faddr 1 (.t 8))⟩::
 ⟨some 86,(some (84,true)),.val (.load false 1 (.t 85))⟩::
 ⟨some 87,(some (84,true)),.val (.faddr 1 (.t 3))⟩::
 ⟨some 88,(some (84,true)),.val (.load false 1 (.t 87))⟩::
 ⟨some 89,(some (84,true)),.val (.bin .eql .num (.t 86) (.t 88))⟩::
 vl 90 (.pick (.t 84) (.t 89) (.c (.bool false)))::
 mv 91 90::
 ⟨some 92,(some (91,true)),.val (.faddr 2 (.t 8))⟩::
 ⟨some 93,(some (91,true)),.val (.load false 1 (.t 92))⟩::
 ⟨some 94,(some (91,true)),.val (.faddr 2 (.t 3))⟩::
 ⟨some 95,(some (91,true)),.val (.load false 1 (.t 94))⟩::
 ⟨some 96,(some (91,true)),.val (.bin .eql .num (.t 93) (.t 95))⟩::
 vl 97 (.pick (.t 91) (.t 96) (.c (.bool false)))::
 mv 98 97::
 ⟨some 99,(some (98,true)),.val (.faddr 3 (.t 8))⟩::
 ⟨some 100,(some (98,true)),.val (.load true 1 (.t 99))⟩::
 ⟨some 101,(some (98,true)),.val (.faddr 3 (.t 3))⟩::
 ⟨some 102,(some (98,true)),.val (.load true 7 (.t 101))⟩::
 ⟨some 103,(some (98,true)),.call 11 [(.t 100),(.t 102)]⟩::
 ⟨some 104,(some (98,true)),.val (.faddr 4 (.t 8))⟩::
 ⟨some 105,(some (98,true)),.val (.load true 1 (.t 104))⟩::
 ⟨some 106,(some (98,true)),.val (.faddr 10 (.t 3))⟩::
 ⟨some 107,(some (98,true)),.val (.load true 7 (.t 106))⟩::
 ⟨some 108,(some (98,true)),.call 11 [(.t 105),(.t 107)]⟩::
 ⟨some 109,(some (98,true)),.val (.bin .add .num (.t 103) (.t 108))⟩::
 ⟨some 110,(some (98,true)),.val (.faddr 5 (.t 8))⟩::
 ⟨some 111,(some (98,true)),.val (.load true 1 (.t 110))⟩::
 ⟨some 112,(some (98,true)),.val (.faddr 17 (.t 3))⟩::
 ⟨some 113,(some (98,true)),.val (.load true 7 (.t 112))⟩::
 ⟨some 114,(some (98,true)),.call 11 [(.t 111),(.t 113)]⟩::
 ⟨some 115,(some (98,true)),.val (.bin .add .num (.t 109) (.t 114))⟩::
 ⟨some 116,(some (98,true)),.val (.bin .eql .num (.t 115) (.c (.int .i64 0)))⟩::
 vl 117 (.pick (.t 98) (.t 116) (.c (.bool false)))::
 mv 118 117::
 ⟨some 119,(some (118,true)),.val (.faddr 6 (.t 8))⟩::
 ⟨some 120,(some (118,true)),.val (.load false 1 (.t 119))⟩::
 ⟨some 121,(some (118,true)),.val (.b2s (.t 120))⟩::
 ⟨some 122,(some (118,true)),.val (.faddr 24 (.t 3))⟩::
 ⟨some 123,(some (118,true)),.val (.load false 1 (.t 122))⟩::
 ⟨some 124,(some (118,true)),.val (.b2s (.t 123))⟩::
 ⟨some 125,(some (118,true)),.val (.bin .eql .num (.t 121) (.t 124))⟩::
 vl 126 (.pick (.t 118) (.t 125) (.c (.bool false)))::
 mv 127 126::
 ⟨some 128,(some (127,true)),.val (.faddr 7 (.t 8))⟩::
 ⟨some 129,(some (127,true)),.val (.load false 1 (.t 128))⟩::
 ⟨some 130,(some (127,true)),.val (.faddr 25 (.t 3))⟩::
 ⟨some 131,(some (127,true)),.val (.load false 1 (.t 130))⟩::
 ⟨some 132,(some (127,true)),.val (.bin .eql .num (.t 129) (.t 131))⟩::
 vl 133 (.pick (.t 127) (.t 132) (.c (.bool false)))::
 mv 134 133::
 ⟨some 135,(some (134,true)),.val (.faddr 8 (.t 8))⟩::
 ⟨some 136,(some (134,true)),.val (.load false 1 (.t 135))⟩::
 ⟨some 137,(some (134,true)),.val (.faddr 26 (.t 3))⟩::
 ⟨some 138,(some (134,true)),.val (.load false 1 (.t 137))⟩::
 ⟨some 139,(some (134,true)),.val (.bin .eql .num (.t 136) (.t 138))⟩::
 vl 140 (.pick (.t 134) (.t 139) (.c (.bool false)))::
 mv 2 140::[]) [] [2]) (.ret))
abbrev k3_4 : MC :=
 (.seq (.reg [
 mv 71 4,
 ⟨some 72,none,.call 10 [(.t 71)]⟩,
 mv 70 72,
 vl 73 (.ext (.t 70) 0),
 vl 74 (.ext (.t 70) 1),
 ⟨some 8,none,.zalloc [(.int .i64 0),(.int .i64 0),(.str []),.nilIface,.nilIface,.nilIface,.nilSl,(.int .i64 0),(.str [])]⟩,
 ⟨none,none,.store 9 (.t 8) (.t 73)⟩,
 mv 9 74] [3,8,9]) k3_3)
abbrev k3_5 : MC :=
 (.seq ((.seq (.reg [
 mv 68 7,
 vl 69 (.bin .neq .num (.t 68) (.c (.int .i64 0)))] [3,4,69]) k3_2)) k3_4)
abbrev k3_6 : MC :=
 (.seq ((.seq (.reg [
 mv 58 4,
 vl 59 (.b2s (.t 58)),
 mv 60 6,
 vl 61 (.b2s (.t 60)),
 vl 62 (.bin .neq .num (.t 59) (.t 61)),
 mv 63 62,
 ⟨some 64,(some (63,false)),.val (.mv (.t 5))⟩,
 ⟨some 65,(some (63,false)),.val (.mv (.t 7))⟩,
 ⟨some 66,(some (63,false)),.val (.bin .neq .num (.t 64) (.t 65))⟩,
 vl 67 (.pick (.t 63) (.c (.bool true)) (.t 66))] [3,4,7,67]) k3_1)) k3_5)
abbrev k3_7 : MC :=
 (.seq (.reg [
 vl 54 (.load true 27 (.t 3)),
 ⟨some 55,none,.call 9 [(.t 54)]⟩,
 mv 53 55,
 vl 56 (.ext (.t 53) 0),
 vl 57 (.ext (.t 53) 1),
 mv 6 56,
 mv 7 57] [3,4,5,6,7]) k3_6)
abbrev k3_8 : MC :=
 (.seq (.reg [
 vl 48 (.load true 27 (.t 3)),
 ⟨some 49,none,.call 7 [(.t 48)]⟩,
 ⟨some 50,none,.call 8 [(.t 49)]⟩,
 mv 47 50,
 vl 51 (.ext (.t 47) 0),
 vl 52 (.ext (.t 47) 1),
 mv 4 51,
 mv 5 52] [3,4,5]) k3_7)
abbrev k3_9 : MC :=
 (.seq (.reg [
 vl 45 (.load true 27 (.t 1)),
 ⟨some 46,none,.call 6 [(.t 45)]⟩,
 ⟨some 3,none,.zalloc [(.int .i64 0),(.int .i64 0),(.str []),(.int .i64 0),(.bool false),(.int .i64 0),(.int .i64 0),(.str []),.nilSl,.nilSl,(.int .i64 0),(.bool false),(.int .i64 0),(.int .i64 0),(.str []),.nilSl,.nilSl,(.int .i64 0),(.bool false),(.int .i64 0),(.int .i64 0),(.str []),.nilSl,.nilSl,.nilSl,(.int .i64 0),(.str [])]⟩,
 ⟨none,none,.store 27 (.t 3) (.t 46)⟩] [3]) k3_8)
abbrev k3_10 : MC :=
 (.seq ((.seq (.drw (
 vl 10 (.faddr 3 (.t 1))::
 vl 11 (.load true 7 (.t 10))::
 ⟨some 12,none,.call 4 [(.t 11)]⟩::
 vl 13 (.faddr 10 (.t 1))::
 vl 14 (.load true 7 (.t 13))::
 ⟨some 15,none,.call 4 [(.t 14)]⟩::
 vl 16 (.bin .add .num (.t 12) (.t 15))::
 vl 17 (.faddr 17 (.t 1))::
 vl 18 (.load true 7 (.t 17))::
 ⟨some 19,none,.call 4 [(.t 18)]⟩::
 vl 20 (.bin .add .num (.t 16) (.t 19))::
 vl 21 (.bin .gtr .num (.t 20) (.c (.int .i64 0)))::
 mv 22 21::
 ⟨some 23,(some (22,false)),.val (.faddr 2 (.t 1))⟩::
 ⟨some 24,(some (22,false)),.val (.load false 1 (.t 23))⟩::
 ⟨some 25,(some (22,false)),.val (.len .str (.t 24))⟩::
 ⟨some 26,(some (22,false)),.val (.bin .gtr .num (.t 25) (.c (.int .i64 60)))⟩::
 vl 27 (.pick (.t 22) (.c (.bool true)) (.t 26))::
 mv 28 27::
 ⟨some 29,(some (28,false)),.val (.faddr 24 (.t 1))⟩::
 ⟨some 30,(some (28,false)),.val (.load false 1 (.t 29))⟩::
 ⟨some 31,(some (28,false)),.val (.len .sl (.t 30))⟩::
 ⟨some 32,(some (28,false)),.val (.bin .gtr .num (.t 31) (.c (.int .i64 300)))⟩::
 vl 33 (.pick (.t 28) (.c (.bool true)) (.t 32))::
 mv 34 33::
 ⟨some 35,(some (34,false)),.val (.faddr 26 (.t 1))⟩::
 ⟨some 36,(some (34,false)),.val (.load false 1 (.t 35))⟩::
 ⟨some 37,(some (34,false)),.val (.len .str (.t 36))⟩::
 ⟨some 38,(some (34,false)),.val (.bin .gtr .num (.t 37) (.c (.int .i64 200)))⟩::
 vl 39 (.pick (.t 34) (.c (.bool true)) (.t 38))::
 mv 40 39::
 ⟨some 41,(some (40,false)),.call 5 []⟩::
 ⟨some 42,(some (40,false)),.val (.not (.t 41))⟩::
 vl 43 (.pick (.t 40) (.c (.bool true)) (.t 42))::[]) [] [1,43]) k3_0)) k3_9)
abbrev k3 : MC :=
 (.seq (.reg [
 ⟨some 1,none,.boxi (.t 0)⟩,
 vl 2 (.mv (.c (.bool false)))] [1]) k3_10)
theorem c3 : Tryz.f3.body.bind (mcOf Tryz.prog (List.contains [1] ·) (List.getD [([],[1]),([0,0,0,0,0,0,0,0,0,0,0,0,0,0,0,0,0,0,0,0,0,0,0,0,0,0,0,0,0,0,0,0,0,0],[1,43]),([],[2]),([],[3]),([],[3,4,5]),([],[3,4,5,6,7]),([],[3,4,7,67]),([],[2]),([],[3,4,69]),([],[2]),([],[3,8,9]),([0,0,0,0,0,0,0,0,0,0,0,0,0,0,0,0,0,0,0,0,0,0,0,0,0,0,0,0,0,0,0,0,0,0,0,0,0,0,0,0,0,0,0,0,0,0,0,0,0,0,0,0,0,0,0,0,0,0,0,0,0,0,0,0,0,0,0],[2])] · ([],[])) 141) = some k3 := by kernel_rfl
theorem r3 : rvsOf Tryz.prog Tryz.f3.results.toList = some [.tmp 2] := by kernel_rfl
set_option maxRecDepth 20000 in
set_option maxHeartbeats 1000000 in
theorem asks_big {r : Rq} (fc : r.c.FitB 140737488351232) (fp : r.p.FitB 140737488351232) (fq : r.q.FitB 140737488351232) (gc : Rg r.c) (gp : Rg r.p) (gq : Rg r.q) {g : Nat} {H : AH} (hg : H g = some .nodr) (hb : 60 < r.K.length ∨ 300 < r.P.length ∨ 200 < r.I.length) : ACalls Tryz.prog 3 [.agg [.int .i64 r.N,.int .i64 r.O,.str r.K,.int .i64 r.c.K,.bool r.c.B,.int .i64 r.c.N,.int .i64 r.c.M,.str r.c.S,.sl 7 (rvE r.c.L) .no,.sl 1 (strE r.c.Keys) .no,.int .i64 r.p.K,.bool r.p.B,.int .i64 r.p.N,.int .i64 r.p.M,.str r.p.S,.sl 7 (rvE r.p.L) .no,.sl 1 (strE r.p.Keys) .no,.int .i64 r.q.K,.bool r.q.B,.int .i64 r.q.N,.int .i64 r.q.M,.str r.q.S,.sl 7 (rvE r.q.L) .no,.sl 1 (strE r.q.Keys) .no,.sl 1 (byteCells r.P) .no,.int .i64 r.V,.str r.I]] H (fun o H' => o = .ret (.bool true) ∧ H' = H) := by
  have f1 : r.c.Fit := Rv.FitB.mono (by decide) _ fc
  have f2 : r.p.Fit := Rv.FitB.mono (by decide) _ fp
  have f3 : r.q.Fit := Rv.FitB.mono (by decide) _ fq
  have k1 := great_calls r.c f1
  have k2 := great_calls r.p f2
  have k3 := great_calls r.q f3
  have ac := fun (G : AH) (h : G g = some .nodr) => awake_calls h
  generalize greatI r.c = m1 at *
  generalize greatI r.p = m2 at *
  generalize greatI r.q = m3 at *
  refine ACalls.drop ?_
  refine acalls Tryz.func3 c3 r3 (by simp [Tryz.ntmps3]) ?_
  repeat' (first|with_reducible refine go0 ?_|(with_reducible refine am_cnd ?_ ?_<;>intro hc<;>try (exfalso;omega))|((first|with_reducible (first|refine go1 ?_|refine vc_intro ?_|refine need_el ?_|refine vlen_a ?_|refine need_by ?_|refine call_of (k1) ?_|refine qcall_of (k1) ?_|refine call_of (k2) ?_|refine qcall_of (k2) ?_|refine call_of (k3) ?_|refine qcall_of (k3) ?_|refine call_turn (ac _ (by assumption)) ?_|refine call_at (fun G hl=>ac _ (nodr_lec hg hl)) ?_|refine qcall_at (fun G hl=>ac _ (nodr_lec hg hl)) ?_|refine need_lk ?_)|((with_reducible (first|apply gd_not|apply gd_of|apply gq_not|apply gq_of|apply pickB_of))<;>intro hc<;>(try simp (maxSteps:=1000000) -implicitDefEqProofs (disch:=omega) only [go_sem,hc,Bool.not_true])<;>(try simp only [reduceCtorEq,bD,beq_iff_eq] at hc)<;>(try (exfalso;omega)))|((with_reducible refine alloc_intro (fun ko hko=>?_))<;>(try have hne:=fresh_ne (by assumption) hko)<;>(try simp only [AH.put_none] at hko))|done)<;>(try simp (maxSteps:=1000000) -implicitDefEqProofs (disch:=omega) only [go_sem,Bool.not_true])))
  all_goals first | exact end_same | trace_state
  all_goals sorry
set_option maxRecDepth 20000 in
set_option maxHeartbeats 1000000 in
theorem asks_bad {r : Rq} (fc : r.c.FitB 140737488351232) (fp : r.p.FitB 140737488351232) (fq : r.q.FitB 140737488351232) (gc : Rg r.c) (gp : Rg r.p) (gq : Rg r.q) {g : Nat} {H : AH} (hg : H g = some .nodr) (hK : r.K.length ≤ 60) (hP : r.P.length ≤ 300) (hI : r.I.length ≤ 200) (he : r.clean.enc.2 ≠ 0) : ACalls Tryz.prog 3 [.agg [.int .i64 r.N,.int .i64 r.O,.str r.K,.int .i64 r.c.K,.bool r.c.B,.int .i64 r.c.N,.int .i64 r.c.M,.str r.c.S,.sl 7 (rvE r.c.L) .no,.sl 1 (strE r.c.Keys) .no,.int .i64 r.p.K,.bool r.p.B,.int .i64 r.p.N,.int .i64 r.p.M,.str r.p.S,.sl 7 (rvE r.p.L) .no,.sl 1 (strE r.p.Keys) .no,.int .i64 r.q.K,.bool r.q.B,.int .i64 r.q.N,.int .i64 r.q.M,.str r.q.S,.sl 7 (rvE r.q.L) .no,.sl 1 (strE r.q.Keys) .no,.sl 1 (byteCells r.P) .no,.int .i64 r.V,.str r.I]] H (fun o H' => o = .ret (.bool true) ∧ H' = H) := by
  have f1 : r.c.Fit := Rv.FitB.mono (by decide) _ fc
  have f2 : r.p.Fit := Rv.FitB.mono (by decide) _ fp
  have f3 : r.q.Fit := Rv.FitB.mono (by decide) _ fq
  have k1 := great_calls r.c f1
  have k2 := great_calls r.p f2
  have k3 := great_calls r.q f3
  have ac := fun (G : AH) (h : G g = some .nodr) => awake_calls h
  have cl := lclean_calls f1 f2 f3
  have lt := fun H => lto_calls (r := r.clean) (fit_clean _ f1) (fit_clean _ f2) (fit_clean _ f3) (by show r.P.length ≤ 5000; omega) H
  have hq : RqOk r.clean (toV (cleanR r.c)) (toV (cleanR r.p)) (toV (cleanR r.q)) := ⟨⟨by show r.K.length ≤ 5000; omega,by show r.P.length ≤ 5000; omega,by show r.I.length ≤ 5000; omega⟩,sm_clean _,sm_clean _,sm_clean _,ok_clean _ f1,ok_clean _ f2,ok_clean _ f3,rg_clean _ gc,rg_clean _ gp,rg_clean _ gq⟩
  have ec := fun (G : AH) (h : G g = some .nodr) => renc_calls (t := .no) hq h
  have ak := fun (G : AH) => ask_calls (t := .no) hq (fit_cleanB _ fc) (fit_cleanB _ fp) (fit_cleanB _ fq) G
  have hK' : ¬ (60 : Int) < (r.K.length : Int) := by omega
  have hP' : ¬ (300 : Int) < (r.P.length : Int) := by omega
  have hI' : ¬ (200 : Int) < (r.I.length : Int) := by omega
  generalize r.clean.enc = E at *
  simp only [Rq.clean] at lt ec ak
  generalize greatI r.c = m1 at *
  generalize greatI r.p = m2 at *
  generalize greatI r.q = m3 at *
  generalize cleanR r.c = x at *
  generalize cleanR r.p = y at *
  generalize cleanR r.q = z at *
  refine ACalls.drop ?_
  refine acalls Tryz.func3 c3 r3 (by simp [Tryz.ntmps3]) ?_
  repeat' (first|with_reducible refine go0 ?_|(with_reducible refine am_cnd ?_ ?_<;>intro hc<;>try (exfalso;omega))|((first|with_reducible (first|refine go1 ?_|refine vc_intro ?_|refine need_el ?_|refine vlen_a ?_|refine need_by ?_|refine call_of (k1) ?_|refine qcall_of (k1) ?_|refine call_of (k2) ?_|refine qcall_of (k2) ?_|refine call_of (k3) ?_|refine qcall_of (k3) ?_|refine call_turn (ac _ (by assumption)) ?_|refine call_at (fun G hl=>ac _ (nodr_lec hg hl)) ?_|refine qcall_at (fun G hl=>ac _ (nodr_lec hg hl)) ?_|refine call_of (cl) ?_|refine qcall_of (cl) ?_|refine call_of (lt) ?_|refine qcall_of (lt) ?_|refine call_of (ak) ?_|refine qcall_of (ak) ?_|refine call_turn (ec _ (by repeat (first|assumption|refine look_ne (by first|assumption|exact ne_of_look hg (by first|assumption|exact And.right (by assumption)|exact And.right (And.right (by assumption)))) ?_))) ?_|refine need_lk ?_)|((with_reducible (first|apply gd_not|apply gd_of|apply gq_not|apply gq_of|apply pickB_of))<;>intro hc<;>(try simp (maxSteps:=1000000) -implicitDefEqProofs (disch:=omega) only [go_sem,hc,Bool.not_true,hK',hP',hI',he,bne_self_eq_false])<;>(try simp only [reduceCtorEq,bD,beq_iff_eq] at hc)<;>(try (exfalso;omega)))|((with_reducible refine alloc_intro (fun ko hko=>?_))<;>(try have hne:=fresh_ne (by assumption) hko)<;>(try simp only [AH.put_none] at hko))|done)<;>(try simp (maxSteps:=1000000) -implicitDefEqProofs (disch:=omega) only [go_sem,Bool.not_true,hK',hP',hI',he,bne_self_eq_false])))
  all_goals first | exact end_same | exact drop_end (fun _ _ h => h) (fun i p hp => by repeat (first | assumption | refine look_ne (ne_of_look hp (by first | assumption | exact And.right (by assumption) | exact And.right (And.right (by assumption)))) ?_)) | trace_state
  all_goals sorry
set_option maxRecDepth 20000 in
set_option maxHeartbeats 1000000 in
theorem asks_ok {r : Rq} (fc : r.c.FitB 140737488351232) (fp : r.p.FitB 140737488351232) (fq : r.q.FitB 140737488351232) (gc : Rg r.c) (gp : Rg r.p) (gq : Rg r.q) {g : Nat} {H : AH} (hg : H g = some .nodr) (hK : r.K.length ≤ 60) (hP : r.P.length ≤ 300) (hI : r.I.length ≤ 200) {c : List UInt8} (he : r.clean.enc = (c,0)) : ACalls Tryz.prog 3 [.agg [.int .i64 r.N,.int .i64 r.O,.str r.K,.int .i64 r.c.K,.bool r.c.B,.int .i64 r.c.N,.int .i64 r.c.M,.str r.c.S,.sl 7 (rvE r.c.L) .no,.sl 1 (strE r.c.Keys) .no,.int .i64 r.p.K,.bool r.p.B,.int .i64 r.p.N,.int .i64 r.p.M,.str r.p.S,.sl 7 (rvE r.p.L) .no,.sl 1 (strE r.p.Keys) .no,.int .i64 r.q.K,.bool r.q.B,.int .i64 r.q.N,.int .i64 r.q.M,.str r.q.S,.sl 7 (rvE r.q.L) .no,.sl 1 (strE r.q.Keys) .no,.sl 1 (byteCells r.P) .no,.int .i64 r.V,.str r.I]] H (fun o H' => o = .ret (.bool true) ∧ H' = H) := by
  have f1 : r.c.Fit := Rv.FitB.mono (by decide) _ fc
  have f2 : r.p.Fit := Rv.FitB.mono (by decide) _ fp
  have f3 : r.q.Fit := Rv.FitB.mono (by decide) _ fq
  have k1 := great_calls r.c f1
  have k2 := great_calls r.p f2
  have k3 := great_calls r.q f3
  have ac := fun (G : AH) (h : G g = some .nodr) => awake_calls h
  have cl := lclean_calls f1 f2 f3
  have lt := fun H => lto_calls (r := r.clean) (fit_clean _ f1) (fit_clean _ f2) (fit_clean _ f3) (by show r.P.length ≤ 5000; omega) H
  have hq : RqOk r.clean (toV (cleanR r.c)) (toV (cleanR r.p)) (toV (cleanR r.q)) := ⟨⟨by show r.K.length ≤ 5000; omega,by show r.P.length ≤ 5000; omega,by show r.I.length ≤ 5000; omega⟩,sm_clean _,sm_clean _,sm_clean _,ok_clean _ f1,ok_clean _ f2,ok_clean _ f3,rg_clean _ gc,rg_clean _ gp,rg_clean _ gq⟩
  have ec := fun (G : AH) (h : G g = some .nodr) => renc_calls (t := .no) hq h
  have ak := fun (G : AH) => ask_calls (t := .no) hq (fit_cleanB _ fc) (fit_cleanB _ fp) (fit_cleanB _ fq) G
  have hK' : ¬ (60 : Int) < (r.K.length : Int) := by omega
  have hP' : ¬ (300 : Int) < (r.P.length : Int) := by omega
  have hI' : ¬ (200 : Int) < (r.I.length : Int) := by omega
  obtain ⟨e0,_,_⟩ := enc_zero he
  obtain ⟨_,z1,z2,z3⟩ := e0_zero e0
  obtain ⟨v1,d1,s1⟩ := dec_encM (cleanR r.c) _ (sm_clean _) (ok_clean _ f1) (rg_clean _ gc) (encM (cleanR r.c)).1 (Prod.ext rfl z1)
  obtain ⟨v2,d2,s2⟩ := dec_encM (cleanR r.p) _ (sm_clean _) (ok_clean _ f2) (rg_clean _ gp) (encM (cleanR r.p)).1 (Prod.ext rfl z2)
  obtain ⟨v3,d3,s3⟩ := dec_encM (cleanR r.q) _ (sm_clean _) (ok_clean _ f3) (rg_clean _ gq) (encM (cleanR r.q)).1 (Prod.ext rfl z3)
  have o1 := (decV_fine _ (encM (cleanR r.c)).1 (Nat.le_refl _) v1 d1).1
  have o2 := (decV_fine _ (encM (cleanR r.p)).1 (Nat.le_refl _) v2 d2).1
  have o3 := (decV_fine _ (encM (cleanR r.q)).1 (Nat.le_refl _) v3 d3).1
  have rr := fun (G : AH) (h : G g = some .nodr) => rreq_calls (t := .no) (r := r.clean) ⟨hq.s,s1,s2,s3,o1,o2,o3,hq.ra,hq.rb,hq.rd⟩ he d1 d2 d3 h
  have u1 := unlike_calls _ _ s1 o1 g
  have u2 := unlike_calls _ _ s2 o2 g
  have u3 := unlike_calls _ _ s3 o3 g
  have hw0 : IntKind.i64.wrap 0 = 0 := rfl
  rw [he] at ec ak
  clear he e0 z1 z2 z3 d1 d2 d3 s1 s2 s3 o1 o2 o3 hq
  simp only [Rq.clean] at lt ec ak rr
  generalize greatI r.c = m1 at *
  generalize greatI r.p = m2 at *
  generalize greatI r.q = m3 at *
  generalize toV (cleanR r.c) = w1 at *
  generalize toV (cleanR r.p) = w2 at *
  generalize toV (cleanR r.q) = w3 at *
  generalize cleanR r.c = x at *
  generalize cleanR r.p = y at *
  generalize cleanR r.q = z at *
  refine ACalls.drop ?_
  refine acalls Tryz.func3 c3 r3 (by simp [Tryz.ntmps3]) ?_
  repeat' (first|with_reducible refine go0 ?_|(with_reducible refine am_cnd ?_ ?_<;>intro hc<;>try (exfalso;omega))|((first|with_reducible (first|refine go1 ?_|refine vc_intro ?_|refine need_el ?_|refine vlen_a ?_|refine need_by ?_|refine call_of (k1) ?_|refine qcall_of (k1) ?_|refine call_of (k2) ?_|refine qcall_of (k2) ?_|refine call_of (k3) ?_|refine qcall_of (k3) ?_|refine call_turn (ac _ (by assumption)) ?_|refine call_at (fun G hl=>ac _ (nodr_lec hg hl)) ?_|refine qcall_at (fun G hl=>ac _ (nodr_lec hg hl)) ?_|refine call_of (cl) ?_|refine qcall_of (cl) ?_|refine call_of (lt) ?_|refine qcall_of (lt) ?_|refine call_of (ak) ?_|refine qcall_of (ak) ?_|refine call_turn (ec _ (by repeat (first|assumption|refine look_ne (by first|assumption|exact ne_of_look hg (by first|assumption|exact And.right (by assumption)|exact And.right (And.right (by assumption)))) ?_))) ?_|refine call_turn (rr _ (by repeat (first|assumption|refine look_ne (by first|assumption|exact ne_of_look hg (by first|assumption|exact And.right (by assumption)|exact And.right (And.right (by assumption)))) ?_))) ?_|refine call_at (fun G hl=>u1 _ (nodr_lec (by repeat (first|assumption|refine look_ne (by first|assumption|exact ne_of_look hg (by first|assumption|exact And.right (by assumption)|exact And.right (And.right (by assumption)))) ?_)) hl)) ?_|refine qcall_at (fun G hl=>u1 _ (nodr_lec (by repeat (first|assumption|refine look_ne (by first|assumption|exact ne_of_look hg (by first|assumption|exact And.right (by assumption)|exact And.right (And.right (by assumption)))) ?_)) hl)) ?_|refine call_at (fun G hl=>u2 _ (nodr_lec (by repeat (first|assumption|refine look_ne (by first|assumption|exact ne_of_look hg (by first|assumption|exact And.right (by assumption)|exact And.right (And.right (by assumption)))) ?_)) hl)) ?_|refine qcall_at (fun G hl=>u2 _ (nodr_lec (by repeat (first|assumption|refine look_ne (by first|assumption|exact ne_of_look hg (by first|assumption|exact And.right (by assumption)|exact And.right (And.right (by assumption)))) ?_)) hl)) ?_|refine call_at (fun G hl=>u3 _ (nodr_lec (by repeat (first|assumption|refine look_ne (by first|assumption|exact ne_of_look hg (by first|assumption|exact And.right (by assumption)|exact And.right (And.right (by assumption)))) ?_)) hl)) ?_|refine qcall_at (fun G hl=>u3 _ (nodr_lec (by repeat (first|assumption|refine look_ne (by first|assumption|exact ne_of_look hg (by first|assumption|exact And.right (by assumption)|exact And.right (And.right (by assumption)))) ?_)) hl)) ?_|refine need_lk ?_)|((with_reducible (first|apply gd_not|apply gd_of|apply gq_not|apply gq_of|apply pickB_of))<;>intro hc<;>(try simp (maxSteps:=1000000) -implicitDefEqProofs (disch:=omega) only [go_sem,hc,Bool.not_true,hK',hP',hI',bne_self_eq_false,hw0])<;>(try simp only [reduceCtorEq,bD,beq_iff_eq] at hc)<;>(try (exfalso;omega)))|((with_reducible refine alloc_intro (fun ko hko=>?_))<;>(try have hne:=fresh_ne (by assumption) hko)<;>(try simp only [AH.put_none] at hko))|done)<;>(try simp (maxSteps:=1000000) -implicitDefEqProofs (disch:=omega) only [go_sem,Bool.not_true,hK',hP',hI',bne_self_eq_false,hw0])))
  all_goals first | exact end_same | exact drop_end (fun _ _ h => h) (fun i p hp => by repeat (first | assumption | refine look_ne (ne_of_look hp (by first | assumption | exact And.right (by assumption) | exact And.right (And.right (by assumption)))) ?_)) | trace_state
  all_goals sorry
set_option maxRecDepth 20000 in
set_option maxHeartbeats 1000000 in
theorem asks_calls {r : Rq} (fc : r.c.FitB 140737488351232) (fp : r.p.FitB 140737488351232) (fq : r.q.FitB 140737488351232) (gc : Rg r.c) (gp : Rg r.p) (gq : Rg r.q) {g : Nat} {H : AH} (hg : H g = some .nodr) : ACalls Tryz.prog 3 [.agg [.int .i64 r.N,.int .i64 r.O,.str r.K,.int .i64 r.c.K,.bool r.c.B,.int .i64 r.c.N,.int .i64 r.c.M,.str r.c.S,.sl 7 (rvE r.c.L) .no,.sl 1 (strE r.c.Keys) .no,.int .i64 r.p.K,.bool r.p.B,.int .i64 r.p.N,.int .i64 r.p.M,.str r.p.S,.sl 7 (rvE r.p.L) .no,.sl 1 (strE r.p.Keys) .no,.int .i64 r.q.K,.bool r.q.B,.int .i64 r.q.N,.int .i64 r.q.M,.str r.q.S,.sl 7 (rvE r.q.L) .no,.sl 1 (strE r.q.Keys) .no,.sl 1 (byteCells r.P) .no,.int .i64 r.V,.str r.I]] H (fun o H' => o = .ret (.bool true) ∧ H' = H) := by
  by_cases hb : 60 < r.K.length ∨ 300 < r.P.length ∨ 200 < r.I.length
  · exact asks_big fc fp fq gc gp gq hg hb
  · by_cases he : r.clean.enc.2 = 0
    · exact asks_ok fc fp fq gc gp gq hg (by omega) (by omega) (by omega) (c := r.clean.enc.1) (Prod.ext rfl he)
    · exact asks_bad fc fp fq gc gp gq hg (by omega) (by omega) (by omega) he
end Go.Proofs.YtkldmgnhbomknaaGreat
/- A row's request. -/
namespace Go.Proofs.YtkldmgnhbomknaaGreat
open Go.Vm
theorem cells_Q : Tryz.prog.cellsOf 28 = 27 := by kernel_rfl
theorem cellsB_sU : Tryz.prog.cellsOf 26 = 1 := by kernel_rfl
theorem cellsB_u8 : Tryz.prog.cellsOf 5 = 1 := by kernel_rfl
theorem bytesB_of {es : List (List V)} (h : ∀ c ∈ es,∃ m,rdB Tryz.prog m 5 c) : ∃ l : List UInt8,es = byteCells l := by
  induction es with
  | nil => exact ⟨[],rfl⟩
  | cons c es ih =>
    obtain ⟨l,rfl⟩ := ih fun c hc => h c (List.mem_cons_of_mem _ hc)
    obtain ⟨m,hm⟩ := h c List.mem_cons_self
    obtain ⟨q,rfl,hw⟩ := rdB_int Tryz.underlying5 hm
    obtain ⟨w1,w2⟩ := wf_u8 hw
    refine ⟨UInt8.ofNat q.toNat :: l,?_⟩
    show _ = [V.int .u8 ((UInt8.ofNat q.toNat).toNat : Int)] :: byteCells l
    rw [ofNat_toNat (by omega)]
    congr 3; omega
set_option maxRecDepth 100000 in
theorem rq_of (n : Nat) {vs : List V} (h : rdB Tryz.prog n 28 vs) : ∃ r : Rq,vs = [.int .i64 r.N,.int .i64 r.O,.str r.K,.int .i64 r.c.K,.bool r.c.B,.int .i64 r.c.N,.int .i64 r.c.M,.str r.c.S,.sl 7 (rvE r.c.L) .no,.sl 1 (strE r.c.Keys) .no,.int .i64 r.p.K,.bool r.p.B,.int .i64 r.p.N,.int .i64 r.p.M,.str r.p.S,.sl 7 (rvE r.p.L) .no,.sl 1 (strE r.p.Keys) .no,.int .i64 r.q.K,.bool r.q.B,.int .i64 r.q.N,.int .i64 r.q.M,.str r.q.S,.sl 7 (rvE r.q.L) .no,.sl 1 (strE r.q.Keys) .no,.sl 1 (byteCells r.P) .no,.int .i64 r.V,.str r.I] ∧ (r.c.FitB reachBytes ∧ r.p.FitB reachBytes ∧ r.q.FitB reachBytes) ∧ Rg r.c ∧ Rg r.p ∧ Rg r.q := by
  obtain ⟨m,hm,hl,hf⟩ := rdB_struct Tryz.underlying28 h
  rw [cells_Q] at hl
  match vs,hl with
  | [a0,a1,a2,a3,a4,a5,a6,a7,a8,a9,a10,a11,a12,a13,a14,a15,a16,a17,a18,a19,a20,a21,a22,a23,a24,a25,a26],_ =>
    have h0 := hf _ (List.mem_cons_self ..)
    have h1 := hf _ (List.mem_cons_of_mem _ (List.mem_cons_self ..))
    have h2 := hf _ (List.mem_cons_of_mem _ (List.mem_cons_of_mem _ (List.mem_cons_self ..)))
    have h3 := hf _ (List.mem_cons_of_mem _ (List.mem_cons_of_mem _ (List.mem_cons_of_mem _ (List.mem_cons_self ..))))
    have h4 := hf _ (List.mem_cons_of_mem _ (List.mem_cons_of_mem _ (List.mem_cons_of_mem _ (List.mem_cons_of_mem _ (List.mem_cons_self ..)))))
    have h5 := hf _ (List.mem_cons_of_mem _ (List.mem_cons_of_mem _ (List.mem_cons_of_mem _ (List.mem_cons_of_mem _ (List.mem_cons_of_mem _ (List.mem_cons_self ..))))))
    have h6 := hf _ (List.mem_cons_of_mem _ (List.mem_cons_of_mem _ (List.mem_cons_of_mem _ (List.mem_cons_of_mem _ (List.mem_cons_of_mem _ (List.mem_cons_of_mem _ (List.mem_cons_self ..)))))))
    have h7 := hf _ (List.mem_cons_of_mem _ (List.mem_cons_of_mem _ (List.mem_cons_of_mem _ (List.mem_cons_of_mem _ (List.mem_cons_of_mem _ (List.mem_cons_of_mem _ (List.mem_cons_of_mem _ (List.mem_cons_self ..))))))))
    have h8 := hf _ (List.mem_cons_of_mem _ (List.mem_cons_of_mem _ (List.mem_cons_of_mem _ (List.mem_cons_of_mem _ (List.mem_cons_of_mem _ (List.mem_cons_of_mem _ (List.mem_cons_of_mem _ (List.mem_cons_of_mem _ (List.mem_cons_self ..)))))))))
    simp only [cellsB_str,cellsB_bool,cellsB_int,cellsB_sU,cells_V] at h0 h1 h2 h3 h4 h5 h6 h7 h8
    obtain ⟨x0,e0,_⟩ := rdB_int Tryz.underlying3 h0
    obtain ⟨x1,e1,_⟩ := rdB_int Tryz.underlying3 h1
    obtain ⟨x2,e2,b2⟩ := rdB_str Tryz.underlying9 h2
    obtain ⟨rc,e3,f3,g3⟩ := rv_ofB _ h3
    obtain ⟨rp,e4,f4,g4⟩ := rv_ofB _ h4
    obtain ⟨rq,e5,f5,g5⟩ := rv_ofB _ h5
    obtain ⟨es,e6,b6,g6⟩ := rdB_slice Tryz.underlying26 h6
    obtain ⟨x7,e7,_⟩ := rdB_int Tryz.underlying3 h7
    obtain ⟨x8,e8,b8⟩ := rdB_str Tryz.underlying9 h8
    obtain ⟨P,rfl⟩ := bytesB_of fun c hc => by
      obtain ⟨q,hq,h⟩ := g6 c hc
      exact ⟨q,h⟩
    rw [rvC_eq] at e3 e4 e5
    simp only [List.drop,List.take] at e0 e1 e2 e3 e4 e5 e6 e7 e8
    cases e0; cases e1; cases e2; cases e3; cases e4; cases e5; cases e6; cases e7; cases e8
    refine ⟨⟨x0,x1,x2,rc,rp,rq,P,x7,x8⟩,?_,⟨f3,f4,f5⟩,g3,g4,g5⟩
    rw [cellsB_u8]
end Go.Proofs.YtkldmgnhbomknaaGreat
