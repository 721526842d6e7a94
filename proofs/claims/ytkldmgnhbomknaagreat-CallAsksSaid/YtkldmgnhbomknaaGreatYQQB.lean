/- Contracts of functions of the given program. Conditions: as each theorem says. -/
import Derived.Test.YtkldmgnhbomknaaGreatYQQA
import Derived.Test.YtkldmgnhbomknaaGreatVmV
set_option linter.unusedVariables false
set_option linter.unusedSimpArgs false
/- Requests: what may be, and the message. -/
namespace Go.Proofs.YtkldmgnhbomknaaGreat
open Go.Vm
attribute [local go_sem] eq_self decide_true decide_false AH.put_ne
attribute [local go_sem_proc] Nat.reduceBEq Nat.reduceAdd Nat.reduceSub Nat.reduceMul Nat.reduceEqDiff Nat.reduceLeDiff Nat.reduceLT Int.reduceLE Int.reduceLT Int.reduceToNat Int.reduceAdd Int.reduceEq Int.reduceNeg
attribute [local go_sem] vE_length byteCells_length byteCells_get bytes_cells bytesOf_cells fldC fldsE_get fldsE_length List.drop_zero toNat_succ Nat.sub_zero Int.toNat_natCast Option.map_some Int.natCast_nonneg decide_eq_true_eq decide_eq_false_iff_not
/- (flange/call.Request).right -/
abbrev k18_0 : MC :=
 .cond (.t 9) (.reg [
 vl 10 (.faddr 2 (.t 1)),
 vl 11 (.load false 1 (.t 10)),
 vl 12 (.bin .eql .num (.t 11) (.c (.str []))),
 mv 3 12] [1,3]) (.skip)
abbrev k18_1 : MC :=
 (.seq (.reg [
 vl 13 (.faddr 0 (.t 1)),
 vl 14 (.load false 1 (.t 13)),
 vl 15 (.bin .geq .num (.t 14) (.c (.int .i64 0))),
 mv 16 15,
 ⟨some 17,(some (16,true)),.val (.faddr 0 (.t 1))⟩,
 ⟨some 18,(some (16,true)),.val (.load false 1 (.t 17))⟩,
 ⟨some 19,(some (16,true)),.val (.bin .leq .num (.t 18) (.c (.int .i64 4611686018427387904)))⟩,
 vl 20 (.pick (.t 16) (.t 19) (.c (.bool false))),
 mv 21 20,
 ⟨some 22,(some (21,true)),.val (.faddr 1 (.t 1))⟩,
 ⟨some 23,(some (21,true)),.val (.load false 1 (.t 22))⟩,
 ⟨some 24,(some (21,true)),.call 14 [(.t 23)]⟩,
 ⟨some 25,(some (21,true)),.val (.bin .neq .num (.t 24) (.c (.str [])))⟩,
 vl 26 (.pick (.t 21) (.t 25) (.c (.bool false))),
 mv 27 26,
 ⟨some 28,(some (27,true)),.val (.mv (.t 3))⟩,
 vl 29 (.pick (.t 27) (.t 28) (.c (.bool false))),
 mv 30 29,
 ⟨some 31,(some (30,true)),.val (.faddr 7 (.t 1))⟩,
 ⟨some 32,(some (30,true)),.val (.load false 1 (.t 31))⟩,
 ⟨some 33,(some (30,true)),.val (.bin .geq .num (.t 32) (.c (.int .i64 0)))⟩,
 vl 34 (.pick (.t 30) (.t 33) (.c (.bool false))),
 mv 35 34,
 ⟨some 36,(some (35,true)),.val (.faddr 7 (.t 1))⟩,
 ⟨some 37,(some (35,true)),.val (.load false 1 (.t 36))⟩,
 ⟨some 38,(some (35,true)),.val (.bin .leq .num (.t 37) (.c (.int .i64 1000)))⟩,
 vl 39 (.pick (.t 35) (.t 38) (.c (.bool false))),
 mv 40 39,
 ⟨some 41,(some (40,true)),.val (.faddr 8 (.t 1))⟩,
 ⟨some 42,(some (40,true)),.val (.load false 1 (.t 41))⟩,
 ⟨some 43,(some (40,true)),.val (.len .str (.t 42))⟩,
 ⟨some 44,(some (40,true)),.val (.bin .leq .num (.t 43) (.c (.int .i64 80)))⟩,
 vl 45 (.pick (.t 40) (.t 44) (.c (.bool false))),
 mv 2 45] [2]) (.ret))
abbrev k18_2 : MC :=
 (.seq ((.seq (.reg [
 vl 7 (.faddr 1 (.t 1)),
 vl 8 (.load false 1 (.t 7)),
 vl 9 (.bin .eql .num (.t 8) (.c (.int .i64 1)))] [1,3,9]) k18_0)) k18_1)
abbrev k18_3 : MC :=
 (.seq (.reg [
 vl 4 (.faddr 2 (.t 1)),
 vl 5 (.load false 1 (.t 4)),
 ⟨some 6,none,.call 49 [(.t 5)]⟩,
 mv 3 6] [1,3]) k18_2)
abbrev k18 : MC :=
 (.seq (.reg [
 ⟨some 1,none,.boxi (.t 0)⟩,
 vl 2 (.mv (.c (.bool false)))] [1]) k18_3)
theorem c18 : Tryz.f18.body.bind (mcOf Tryz.prog (List.contains [1] ·) (List.getD [([],[1]),([],[1,3]),([],[1,3,9]),([],[1,3]),([],[2])] · ([],[])) 46) = some k18 := by kernel_rfl
theorem r18 : rvsOf Tryz.prog Tryz.f18.results.toList = some [.tmp 2] := by kernel_rfl
structure Rq where
  N : Int
  O : Int
  K : List UInt8
  c : Rv
  p : Rv
  q : Rv
  P : List UInt8
  V : Int
  I : List UInt8
def Rq.nm (r : Rq) : Bool := if r.O = 1 then decide (r.K = []) else namedB r.K
def Rq.num (r : Rq) : Bool := decide (0 ≤ r.N ∧ r.N ≤ 4611686018427387904 ∧ 1 ≤ r.O ∧ r.O ≤ 7 ∧ 0 ≤ r.V ∧ r.V ≤ 1000 ∧ r.I.length ≤ 80)
def Rq.right (r : Rq) : Bool := r.nm && r.num
def Rq.fl (r : Rq) : List Fld := [⟨1,false,un r.N,[]⟩,⟨2,false,un r.O,[]⟩,⟨3,true,0,r.K⟩,⟨4,true,0,(encM r.c).1⟩,⟨5,true,0,(encM r.p).1⟩,⟨6,true,0,(encM r.q).1⟩,⟨7,true,0,r.P⟩,⟨8,false,un r.V,[]⟩,⟨9,true,0,r.I⟩]
def Rq.e0 (r : Rq) : Int := if r.right = false then 1 else if 256 < r.P.length ∨ (encM r.c).2 ≠ 0 ∨ (encM r.p).2 ≠ 0 ∨ (encM r.q).2 ≠ 0 then 3 else 0
def Rq.enc (r : Rq) : List UInt8 × Int := doneS r.e0 r.fl
structure Rq.Small (r : Rq) : Prop where
  k : r.K.length ≤ 5000
  p : r.P.length ≤ 5000
  i : r.I.length ≤ 5000
theorem un_lt (n : Int) : un n < 18446744073709551616 := by
  have h := u64_wrap n
  unfold un; omega
theorem Rq.Small.ok {r : Rq} (h : r.Small) : ∀ f ∈ r.fl,f.n < 18446744073709551616 ∧ f.b.length < 10000000 := by
  have h1 := encM_len r.c; have h2 := encM_len r.p; have h3 := encM_len r.q
  have := h.k; have := h.p; have := h.i
  have n1 := un_lt r.N; have n2 := un_lt r.O; have n3 := un_lt r.V
  intro f hf
  simp only [Rq.fl,List.mem_cons,List.not_mem_nil,or_false] at hf
  rcases hf with rfl | rfl | rfl | rfl | rfl | rfl | rfl | rfl | rfl <;> simp only [List.length_nil] <;> omega
theorem nameS_ne (n : Int) : nameS n = [] ↔ ¬ (1 ≤ n ∧ n ≤ 7) := by
  constructor
  · intro h hn
    obtain rfl | rfl | rfl | rfl | rfl | rfl | rfl : n = 1 ∨ n = 2 ∨ n = 3 ∨ n = 4 ∨ n = 5 ∨ n = 6 ∨ n = 7 := by omega
    all_goals cases h
  · intro h; unfold nameS; repeat (first | rfl | (rw [if_neg (by omega)]))
theorem qright_calls {r : Rq} {a b d : V} {t : Tok} (hs : r.Small) (H : AH) : ACalls Tryz.prog 18 [.agg [.int .i64 r.N,.int .i64 r.O,.str r.K,a,b,d,.sl 1 (byteCells r.P) t,.int .i64 r.V,.str r.I]] H (fun o H' => o = .ret (.bool r.right) ∧ H' = H) := by
  refine ACalls.drop ?_
  have hk := hs.k
  have hi := hs.i
  have nc := fun H => named_calls (s := r.K) (by omega) H
  have mc := fun H => name_calls (n := r.O) H
  have hne := nameS_ne r.O
  have e : r.right = (r.nm && r.num) := rfl
  unfold Rq.nm Rq.num at e
  rw [e]
  generalize nameS r.O = z at *
  generalize r.N = N at *
  generalize r.V = V' at *
  generalize r.I = I at *
  generalize r.K = K at *
  generalize r.O = O at *
  generalize namedB K = b at *
  refine acalls Tryz.func18 c18 r18 (by simp [Tryz.ntmps18]) ?_
  by_cases ho : O = 1
  · subst ho
    rw [if_pos rfl]
    repeat' (first|with_reducible refine go0 ?_|(with_reducible refine am_cnd ?_ ?_<;>intro hc<;>try (exfalso;omega))|((first|with_reducible (first|refine go1 ?_|refine vc_intro ?_|refine need_el ?_|refine vlen_a ?_|refine need_by ?_|refine call_of (nc) ?_|refine qcall_of (nc) ?_|refine call_of (mc) ?_|refine qcall_of (mc) ?_|refine need_lk ?_)|((with_reducible (first|apply gd_not|apply gd_of|apply gq_not|apply gq_of|apply pickB_of))<;>intro hc<;>(try simp -implicitDefEqProofs (disch:=omega) only [go_sem,hc])<;>(try simp only [reduceCtorEq,bD,beq_iff_eq] at hc)<;>(try (exfalso;omega)))|((with_reducible refine alloc_intro (fun ko hko=>?_))<;>(try have hne:=fresh_ne (by assumption) hko)<;>(try have hnk:=fresh_ne hk hko)<;>(try simp only [AH.put_none] at hko))|done)<;>(try simp -implicitDefEqProofs (disch:=omega) only [go_sem])))
    all_goals refine end_eq (congrArg V.bool ?_) (AH.le_refl _)
    all_goals (try simp only [hne] at *)
    all_goals first | (simp_all; done) | (rw [Bool.eq_iff_iff]; simp only [Bool.and_eq_true,Bool.true_and,Bool.false_and,decide_eq_true_eq,Bool.false_eq_true,eq_self,true_iff,false_iff,iff_true,iff_false,not_and]; omega) | (simp_all; omega)
  · rw [if_neg ho]
    cases b
    · repeat' (first|with_reducible refine go0 ?_|(with_reducible refine am_cnd ?_ ?_<;>intro hc<;>try (exfalso;omega))|((first|with_reducible (first|refine go1 ?_|refine vc_intro ?_|refine need_el ?_|refine vlen_a ?_|refine need_by ?_|refine call_of (nc) ?_|refine qcall_of (nc) ?_|refine call_of (mc) ?_|refine qcall_of (mc) ?_|refine need_lk ?_)|((with_reducible (first|apply gd_not|apply gd_of|apply gq_not|apply gq_of|apply pickB_of))<;>intro hc<;>(try simp -implicitDefEqProofs (disch:=omega) only [go_sem,hc,ho])<;>(try simp only [reduceCtorEq,bD,beq_iff_eq] at hc)<;>(try (exfalso;omega)))|((with_reducible refine alloc_intro (fun ko hko=>?_))<;>(try have hne:=fresh_ne (by assumption) hko)<;>(try have hnk:=fresh_ne hk hko)<;>(try simp only [AH.put_none] at hko))|done)<;>(try simp -implicitDefEqProofs (disch:=omega) only [go_sem,ho])))
      all_goals refine end_eq (congrArg V.bool ?_) (AH.le_refl _)
      all_goals (try simp only [hne] at *)
      all_goals first | (simp_all; done) | (rw [Bool.eq_iff_iff]; simp only [Bool.and_eq_true,Bool.true_and,Bool.false_and,decide_eq_true_eq,Bool.false_eq_true,eq_self,true_iff,false_iff,iff_true,iff_false,not_and]; omega) | (simp_all; omega)
    · repeat' (first|with_reducible refine go0 ?_|(with_reducible refine am_cnd ?_ ?_<;>intro hc<;>try (exfalso;omega))|((first|with_reducible (first|refine go1 ?_|refine vc_intro ?_|refine need_el ?_|refine vlen_a ?_|refine need_by ?_|refine call_of (nc) ?_|refine qcall_of (nc) ?_|refine call_of (mc) ?_|refine qcall_of (mc) ?_|refine need_lk ?_)|((with_reducible (first|apply gd_not|apply gd_of|apply gq_not|apply gq_of|apply pickB_of))<;>intro hc<;>(try simp -implicitDefEqProofs (disch:=omega) only [go_sem,hc,ho])<;>(try simp only [reduceCtorEq,bD,beq_iff_eq] at hc)<;>(try (exfalso;omega)))|((with_reducible refine alloc_intro (fun ko hko=>?_))<;>(try have hne:=fresh_ne (by assumption) hko)<;>(try have hnk:=fresh_ne hk hko)<;>(try simp only [AH.put_none] at hko))|done)<;>(try simp -implicitDefEqProofs (disch:=omega) only [go_sem,ho])))
      all_goals refine end_eq (congrArg V.bool ?_) (AH.le_refl _)
      all_goals (try simp only [hne] at *)
      all_goals first | (simp_all; done) | (rw [Bool.eq_iff_iff]; simp only [Bool.and_eq_true,Bool.true_and,Bool.false_and,decide_eq_true_eq,Bool.false_eq_true,eq_self,true_iff,false_iff,iff_true,iff_false,not_and]; omega) | (simp_all; omega)
end Go.Proofs.YtkldmgnhbomknaaGreat
/- Requests: the message. -/
namespace Go.Proofs.YtkldmgnhbomknaaGreat
open Go.Vm
attribute [local go_sem] eq_self decide_true decide_false AH.put_ne
attribute [local go_sem_proc] Nat.reduceBEq Nat.reduceAdd Nat.reduceSub Nat.reduceMul Nat.reduceEqDiff Nat.reduceLeDiff Nat.reduceLT Int.reduceLE Int.reduceLT Int.reduceToNat Int.reduceAdd Int.reduceEq Int.reduceNeg
attribute [local go_sem] vE_length byteCells_length byteCells_get bytes_cells bytesOf_cells fldC fldsE_get fldsE_length List.drop_zero toNat_succ Nat.sub_zero Int.toNat_natCast Option.map_some Int.natCast_nonneg decide_eq_true_eq decide_eq_false_iff_not
/- (flange/call.Request).Encode -/
abbrev k8_0 : MC :=
 (.seq (.reg [
 mv 60 4,
 ⟨some 61,none,.call 22 [(.t 60)]⟩,
 vl 62 (.ext (.t 61) 0),
 vl 63 (.ext (.t 61) 1),
 mv 2 62,
 mv 3 63] [2,3]) (.ret))
abbrev k8_1 : MC :=
 (.seq (.reg [
 mv 55 4,
 vl 56 (.faddr 8 (.t 1)),
 vl 57 (.load false 1 (.t 56)),
 ⟨some 58,none,.s2b (.t 57)⟩,
 ⟨some 59,none,.call 20 [(.t 55),(.c (.int .i64 9)),(.t 58)]⟩] [4]) k8_0)
abbrev k8_2 : MC :=
 (.seq (.reg [
 mv 51 4,
 vl 52 (.faddr 7 (.t 1)),
 vl 53 (.load false 1 (.t 52)),
 ⟨some 54,none,.call 19 [(.t 51),(.c (.int .i64 8)),(.t 53)]⟩] [1,4]) k8_1)
abbrev k8_3 : MC :=
 (.seq (.reg [
 mv 47 4,
 vl 48 (.faddr 6 (.t 1)),
 vl 49 (.load false 1 (.t 48)),
 ⟨some 50,none,.call 20 [(.t 47),(.c (.int .i64 7)),(.t 49)]⟩] [1,4]) k8_2)
abbrev k8_4 : MC :=
 (.seq (.reg [
 mv 43 4,
 vl 44 (.faddr 5 (.t 1)),
 vl 45 (.load true 1 (.t 44)),
 ⟨some 46,none,.call 21 [(.t 43),(.c (.int .i64 6)),(.t 45)]⟩] [1,4]) k8_3)
abbrev k8_5 : MC :=
 (.seq (.reg [
 mv 39 4,
 vl 40 (.faddr 4 (.t 1)),
 vl 41 (.load true 1 (.t 40)),
 ⟨some 42,none,.call 21 [(.t 39),(.c (.int .i64 5)),(.t 41)]⟩] [1,4]) k8_4)
abbrev k8_6 : MC :=
 (.seq (.reg [
 mv 35 4,
 vl 36 (.faddr 3 (.t 1)),
 vl 37 (.load true 1 (.t 36)),
 ⟨some 38,none,.call 21 [(.t 35),(.c (.int .i64 4)),(.t 37)]⟩] [1,4]) k8_5)
abbrev k8_7 : MC :=
 (.seq (.reg [
 mv 30 4,
 vl 31 (.faddr 2 (.t 1)),
 vl 32 (.load false 1 (.t 31)),
 ⟨some 33,none,.s2b (.t 32)⟩,
 ⟨some 34,none,.call 20 [(.t 30),(.c (.int .i64 3)),(.t 33)]⟩] [1,4]) k8_6)
abbrev k8_8 : MC :=
 (.seq (.reg [
 mv 26 4,
 vl 27 (.faddr 1 (.t 1)),
 vl 28 (.load false 1 (.t 27)),
 ⟨some 29,none,.call 19 [(.t 26),(.c (.int .i64 2)),(.t 28)]⟩] [1,4]) k8_7)
abbrev k8_9 : MC :=
 (.seq (.reg [
 mv 22 4,
 vl 23 (.faddr 0 (.t 1)),
 vl 24 (.load false 1 (.t 23)),
 ⟨some 25,none,.call 19 [(.t 22),(.c (.int .i64 1)),(.t 24)]⟩] [1,4]) k8_8)
abbrev k8_10 : MC :=
 (.seq (.drw [
 mv 14 4,
 vl 15 (.nilc (.t 14)),
 vl 16 (.faddr 0 (.t 15)),
 vl 17 (.faddr 6 (.t 1)),
 vl 18 (.load false 1 (.t 17)),
 vl 19 (.len .sl (.t 18)),
 vl 20 (.bin .gtr .num (.t 19) (.c (.int .i64 256)))] [
 ⟨some 21,none,.call 17 [(.t 16),(.t 20),(.c (.int .i64 3))]⟩] [1,4]) k8_9)
abbrev k8_11 : MC :=
 (.seq (.drw [
 mv 7 4,
 vl 8 (.nilc (.t 7)),
 vl 9 (.faddr 0 (.t 8)),
 vl 10 (.load true 9 (.t 1)),
 ⟨some 11,none,.call 18 [(.t 10)]⟩,
 vl 12 (.not (.t 11))] [
 ⟨some 13,none,.call 17 [(.t 9),(.t 12),(.c (.int .i64 1))]⟩] [1,4]) k8_10)
abbrev k8_12 : MC :=
 (.seq (.reg [
 ⟨some 5,none,.build [(.int .i64 0),.nilSl] []⟩,
 ⟨some 6,none,.box (.t 5)⟩,
 mv 4 6] [1,4]) k8_11)
abbrev k8 : MC :=
 (.seq (.reg [
 ⟨some 1,none,.boxi (.t 0)⟩,
 vl 2 (.mv (.c .nilSl)),
 vl 3 (.mv (.c (.int .i64 0)))] [1]) k8_12)
theorem c8 : Tryz.f8.body.bind (mcOf Tryz.prog (List.contains [1] ·) (List.getD [([],[1]),([],[1,4]),([0,0,0,0,0,0,2],[1,4]),([0,0,0,0,0,0,0,2],[1,4]),([],[1,4]),([],[1,4]),([],[1,4]),([],[1,4]),([],[1,4]),([],[1,4]),([],[1,4]),([],[1,4]),([],[4]),([],[2,3])] · ([],[])) 64) = some k8 := by kernel_rfl
theorem r8 : rvsOf Tryz.prog Tryz.f8.results.toList = some [.tmp 2,.tmp 3] := by kernel_rfl
theorem Pk.cast {H0 H : AH} {kp : Nat} {e e' : Int} {l l' : List Fld} (h : Pk H0 kp e l H) (he : e = e') (hl : l = l') : Pk H0 kp e' l' H := by subst he hl; exact h
structure RqOk (r : Rq) (a b d : Vl) : Prop where
  s : r.Small
  sa : Sm a r.c
  sb : Sm b r.p
  sd : Sm d r.q
  oa : a.Ok
  ob : b.Ok
  od : d.Ok
  ra : Rg r.c
  rb : Rg r.p
  rd : Rg r.q
theorem e0_eq (r : Rq) : r.e0 = if (!r.right) = true then 1 else if decide ((256 : Int) < (r.P.length : Int)) = true ∨ (encM r.c).2 ≠ 0 ∨ (encM r.p).2 ≠ 0 ∨ (encM r.q).2 ≠ 0 then 3 else 0 := by
  have h : decide ((256 : Int) < (r.P.length : Int)) = true ↔ 256 < r.P.length := by rw [decide_eq_true_eq]; omega
  unfold Rq.e0
  simp only [h]
  cases r.right <;> rfl
theorem renc_calls {r : Rq} {a b d : Vl} {t : Tok} (hq : RqOk r a b d) {g : Nat} {H : AH} (hg : H g = some .nodr) : ACalls Tryz.prog 8 [.agg [.int .i64 r.N,.int .i64 r.O,.str r.K,vV a,vV b,vV d,.sl 1 (byteCells r.P) t,.int .i64 r.V,.str r.I]] H (fun o H' => o = .ret (.tuple [.sl 1 (byteCells r.enc.1) .no,.int .i64 r.enc.2]) ∧ H' = H) := by
  obtain ⟨hs,sa,sb,sd,oa,ob,od,ra,rb,rd⟩ := hq
  refine ACalls.drop ?_
  have hk := hs.k
  have hi := hs.i
  have hpl := hs.p
  have rc := fun H => qright_calls (r := r) (a := vV a) (b := vV b) (d := vV d) (t := t) hs H
  have fin := fun (kp : Nat) (e : Int) (l : List Fld) (G : AH) (hp : Pk H kp e l G) (he : e = r.e0) (hl : l = r.fl) => wdone_calls (hp.cast he hl) (by simp [Rq.fl]) hs.ok
  have h0e := e0_eq r
  have p0 := fun (ko : Nat) (hko : H ko = none) => (Pk.of (AH.put_same _ _ _) ((AccP.nil _ _).new hko _) : Pk H ko 0 [] (H.put ko (.cells [.int .i64 0,.nilSl])))
  refine acalls Tryz.func8 c8 r8 (by simp [Tryz.ntmps8]) ?_
  repeat' (first|(((with_reducible refine call_ex (when_calls hko (p0 _ hko)) (fun w H2 hp=>?_));(try simp -implicitDefEqProofs (disch:=omega) only [go_sem])))|(((with_reducible refine call_ex (when_calls hko hp) (fun w H2 hp=>?_));(try simp -implicitDefEqProofs (disch:=omega) only [go_sem])))|(((with_reducible refine call_ex (wnum_calls hko hp (by simp)) (fun w H2 hp=>?_));(try simp -implicitDefEqProofs (disch:=omega) only [go_sem])))|(((with_reducible refine call_ex (wbytes_calls hko hp (by omega) (by simp)) (fun w H2 hp=>?_));(try simp -implicitDefEqProofs (disch:=omega) only [go_sem])))|(((with_reducible refine call_ex (wvalue_calls hko hp hg sa oa ra (by simp)) (fun w H2 hp=>?_));(try simp -implicitDefEqProofs (disch:=omega) only [go_sem])))|(((with_reducible refine call_ex (wvalue_calls hko hp hg sb ob rb (by simp)) (fun w H2 hp=>?_));(try simp -implicitDefEqProofs (disch:=omega) only [go_sem])))|(((with_reducible refine call_ex (wvalue_calls hko hp hg sd od rd (by simp)) (fun w H2 hp=>?_));(try simp -implicitDefEqProofs (disch:=omega) only [go_sem])))|with_reducible refine go0 ?_|(with_reducible refine am_cnd ?_ ?_<;>intro hc<;>try (exfalso;omega))|((first|with_reducible (first|refine go1 ?_|refine vc_intro ?_|refine need_el ?_|refine vlen_a ?_|refine need_by ?_|refine call_of (rc) ?_|refine qcall_of (rc) ?_|refine call_turn (fin _ _ _ _ hp (by rw [h0e];cases (!r.right)<;>cases decide ((256 : Int) < (r.P.length : Int))<;>by_cases x1 : (encM r.c).2 = 0<;>by_cases x2 : (encM r.p).2 = 0<;>by_cases x3 : (encM r.q).2 = 0<;>simp [x1,x2,x3]) rfl) ?_|refine need_lk ?_)|((with_reducible refine alloc_intro (fun ko hko=>?_))<;>(try have hne:=fresh_ne (by assumption) hko)<;>(try have hnk:=fresh_ne hk hko)<;>(try simp only [AH.put_none] at hko))|done)<;>(try simp -implicitDefEqProofs (disch:=omega) only [go_sem])))
  all_goals exact drop_end (by (first | exact fun _ _ h => h | (intro s x h; first | exact no_sub _ h | exact nil_no _ h | exact AccP.sub (by assumption) _ _ h | (refine agg_sub rfl ?_ x h; repeat (first | exact .nil | refine .cons (fun _ h => h) ?_ | refine .cons (fun _ h => nil_no _ h) ?_ | refine .cons (fun _ h => no_sub _ h) ?_ | refine .cons (fun _ h => AccP.sub (by assumption) _ _ h) ?_)) | (refine tuple_sub ?_ x h; repeat (first | exact .nil | refine .cons (fun _ h => h) ?_ | refine .cons (fun _ h => nil_no _ h) ?_ | refine .cons (fun _ h => no_sub _ h) ?_ | refine .cons (fun _ h => AccP.sub (by assumption) _ _ h) ?_ | refine .cons (fun _ h => agg_sub rfl (by repeat (first | exact .nil | refine .cons (fun _ h => h) ?_ | refine .cons (fun _ h => nil_no _ h) ?_ | refine .cons (fun _ h => no_sub _ h) ?_ | refine .cons (fun _ h => AccP.sub (by assumption) _ _ h) ?_)) _ h) ?_))))) (Pk.le (by assumption))
end Go.Proofs.YtkldmgnhbomknaaGreat
