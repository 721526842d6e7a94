/- Contracts of functions of the given program. Conditions: as each theorem says. -/
import Derived.Test.YtkldmgnhbomknaaGreatYQQB
import Derived.Test.YtkldmgnhbomknaaGreatQZWD
import Derived.Test.YtkldmgnhbomknaaGreatVm38
import Derived.Test.YtkldmgnhbomknaaGreatVmV
set_option linter.unusedVariables false
set_option linter.unusedSimpArgs false
/- Requests: read. -/
namespace Go.Proofs.YtkldmgnhbomknaaGreat
open Go.Vm
attribute [local go_sem] eq_self decide_true decide_false AH.put_ne
attribute [local go_sem_proc] Nat.reduceBEq Nat.reduceAdd Nat.reduceSub Nat.reduceMul Nat.reduceEqDiff Nat.reduceLeDiff Nat.reduceLT Int.reduceLE Int.reduceLT Int.reduceToNat Int.reduceAdd Int.reduceEq Int.reduceNeg
attribute [local go_sem] vE_length byteCells_length byteCells_get bytes_cells bytesOf_cells fldC fldsE_get fldsE_length List.drop_zero toNat_succ Nat.sub_zero Int.toNat_natCast Option.map_some Int.natCast_nonneg decide_eq_true_eq decide_eq_false_iff_not
/- flange/call.read -/
abbrev k27_0 : MC :=
 (.seq (.reg [
 mv 22 6,
 mv 2 22] [2]) (.ret))
abbrev k27_1 : MC :=
 (.seq (.reg [
 mv 16 6,
 vl 17 (.nilc (.t 16)),
 vl 18 (.faddr 0 (.t 17)),
 mv 19 5,
 vl 20 (.bin .neq .num (.t 19) (.c (.int .i64 0))),
 ⟨some 21,none,.call 17 [(.t 18),(.t 20),(.c (.int .i64 4))]⟩] [6]) k27_0)
abbrev k27_2 : MC :=
 (.seq (.reg [
 mv 13 3,
 ⟨some 14,none,.build [(.int .i64 0),.nilSl] [(1,1,(.t 13))]⟩,
 ⟨some 15,none,.box (.t 14)⟩,
 mv 6 15] [5,6]) k27_1)
abbrev k27_3 : MC :=
 (.seq (.reg [
 mv 8 0,
 ⟨some 9,none,.call 59 [(.t 8)]⟩,
 mv 7 9,
 vl 10 (.ext (.t 7) 0),
 vl 11 (.ext (.t 7) 1),
 vl 12 (.ext (.t 7) 2),
 mv 3 10,
 mv 4 11,
 mv 5 12] [3,5]) k27_2)
abbrev k27 : MC :=
 (.seq (.reg [
 vl 2 (.mv (.c .nilPtr))] [0]) k27_3)
theorem c27 : Tryz.f27.body.bind (mcOf Tryz.prog (List.contains [] ·) (List.getD [([],[0]),([],[3,5]),([],[5,6]),([],[6]),([],[2])] · ([],[])) 23) = some k27 := by kernel_rfl
theorem r27 : rvsOf Tryz.prog Tryz.f27.results.toList = some [.tmp 2] := by kernel_rfl
/- (*flange/call.reader).number -/
abbrev k28_0 : MC :=
 (.seq (.reg [
 mv 26 5,
 vl 27 (.mx false (.t 26) (.c (.int .u64 4611686018427387904))),
 vl 28 (.i2i .i64 (.t 27)),
 mv 4 28] [4]) (.ret))
abbrev k28_1 : MC :=
 (.seq (.reg [
 mv 16 0,
 vl 17 (.nilc (.t 16)),
 vl 18 (.faddr 0 (.t 17)),
 mv 19 6,
 vl 20 (.not (.t 19)),
 mv 21 20,
 ⟨some 22,(some (21,false)),.val (.mv (.t 5))⟩,
 ⟨some 23,(some (21,false)),.val (.bin .gtr .num (.t 22) (.c (.int .u64 4611686018427387904)))⟩,
 vl 24 (.pick (.t 21) (.c (.bool true)) (.t 23)),
 ⟨some 25,none,.call 17 [(.t 18),(.t 24),(.c (.int .i64 4))]⟩] [5]) k28_0)
abbrev k28_2 : MC :=
 (.seq (.reg [
 mv 8 0,
 vl 9 (.nilc (.t 8)),
 vl 10 (.faddr 1 (.t 9)),
 vl 11 (.load false 1 (.t 10)),
 mv 12 1,
 ⟨some 13,none,.call 60 [(.t 11),(.t 12)]⟩,
 mv 7 13,
 vl 14 (.ext (.t 7) 0),
 vl 15 (.ext (.t 7) 1),
 mv 5 14,
 mv 6 15] [0,5,6]) k28_1)
abbrev k28 : MC :=
 (.seq (.reg [
 vl 4 (.mv (.c (.int .i64 0)))] [0,1]) k28_2)
theorem c28 : Tryz.f28.body.bind (mcOf Tryz.prog (List.contains [] ·) (List.getD [([],[0,1]),([],[0,5,6]),([],[5]),([],[4])] · ([],[])) 29) = some k28 := by kernel_rfl
theorem r28 : rvsOf Tryz.prog Tryz.f28.results.toList = some [.tmp 4] := by kernel_rfl
/- (*flange/call.reader).bytes -/
abbrev k29_0 : MC :=
 (.seq (.reg [
 mv 22 5,
 mv 4 22] [4]) (.ret))
abbrev k29_1 : MC :=
 (.seq (.reg [
 mv 16 0,
 vl 17 (.nilc (.t 16)),
 vl 18 (.faddr 0 (.t 17)),
 mv 19 6,
 vl 20 (.not (.t 19)),
 ⟨some 21,none,.call 17 [(.t 18),(.t 20),(.c (.int .i64 4))]⟩] [5]) k29_0)
abbrev k29_2 : MC :=
 (.seq (.reg [
 mv 8 0,
 vl 9 (.nilc (.t 8)),
 vl 10 (.faddr 1 (.t 9)),
 vl 11 (.load false 1 (.t 10)),
 mv 12 1,
 ⟨some 13,none,.call 61 [(.t 11),(.t 12)]⟩,
 mv 7 13,
 vl 14 (.ext (.t 7) 0),
 vl 15 (.ext (.t 7) 1),
 mv 5 14,
 mv 6 15] [0,5,6]) k29_1)
abbrev k29 : MC :=
 (.seq (.reg [
 vl 4 (.mv (.c .nilSl))] [0,1]) k29_2)
theorem c29 : Tryz.f29.body.bind (mcOf Tryz.prog (List.contains [] ·) (List.getD [([],[0,1]),([],[0,5,6]),([],[5]),([],[4])] · ([],[])) 23) = some k29 := by kernel_rfl
theorem r29 : rvsOf Tryz.prog Tryz.f29.results.toList = some [.tmp 4] := by kernel_rfl
/- (*flange/call.reader).value -/
abbrev k30_0 : MC :=
 (.seq (.reg [
 vl 20 (.load true 1 (.t 5)),
 ⟨none,none,.store 1 (.t 4) (.t 20)⟩] [4]) (.ret))
abbrev k30_1 : MC :=
 (.seq (.reg [
 mv 14 0,
 vl 15 (.nilc (.t 14)),
 vl 16 (.faddr 0 (.t 15)),
 mv 17 6,
 vl 18 (.bin .neq .num (.t 17) (.c (.int .i64 0))),
 ⟨some 19,none,.call 17 [(.t 16),(.t 18),(.c (.int .i64 4))]⟩] [4,5]) k30_0)
abbrev k30_2 : MC :=
 (.seq (.reg [
 mv 8 0,
 mv 9 1,
 ⟨some 10,none,.call 29 [(.t 8),(.t 9)]⟩,
 ⟨some 11,none,.call 62 [(.t 10)]⟩,
 mv 7 11,
 vl 12 (.ext (.t 7) 0),
 vl 13 (.ext (.t 7) 1),
 ⟨some 5,none,.zalloc [.nilIface]⟩,
 ⟨none,none,.store 1 (.t 5) (.t 12)⟩,
 mv 6 13] [0,4,5,6]) k30_1)
abbrev k30 : MC :=
 (.seq (.reg [
 ⟨some 4,none,.zalloc [.nilIface]⟩] [0,1,4]) k30_2)
theorem c30 : Tryz.f30.body.bind (mcOf Tryz.prog (List.contains [] ·) (List.getD [([],[0,1,4]),([],[0,4,5,6]),([],[4,5]),([],[4])] · ([],[])) 21) = some k30 := by kernel_rfl
theorem r30 : rvsOf Tryz.prog Tryz.f30.results.toList = some [.cell 4 true 1] := by kernel_rfl
theorem ne_of_look {H : AH} {g k : Nat} {o : AObj} (h : H g = some o) (h2 : H k = none) : g ≠ k := fun e => by subst e; rw [h] at h2; cases h2
theorem cread_calls {b : List UInt8} {L : List Fld} {z : Int} {t : Tok} (hb : b.length ≤ 5000) (hd : Vm.decS b = (L,z,0)) (H : AH) : ACalls Tryz.prog 27 [.sl 1 (byteCells b) t] H (fun o H' => ∃ v,o = .ret v ∧ (∃ k,H k = none ∧ v = .ptr k 0 ∧ H' = H.put k (opC 0 L))) := by
  have dc := fun G => Msg.decode_calls (b := b) (t := t) (by omega) G
  rw [hd] at dc
  refine acalls Tryz.func27 c27 r27 (by simp [Tryz.ntmps27]) ?_
  repeat' (first|with_reducible refine go0 ?_|(with_reducible refine am_cnd ?_ ?_<;>intro hc<;>try (exfalso;omega))|((first|with_reducible (first|refine go1 ?_|refine vc_intro ?_|refine need_el ?_|refine vlen_a ?_|refine need_by ?_|refine call_of (dc) ?_|refine qcall_of (dc) ?_|refine call_turn (when_no) ?_|refine need_lk ?_)|((with_reducible refine alloc_intro (fun ko hko=>?_))<;>(try have hne:=fresh_ne (by assumption) hko)<;>(try simp only [AH.put_none] at hko))|done)<;>(try simp -implicitDefEqProofs (disch:=omega) only [go_sem])))
  all_goals exact ⟨_,rfl,ko,hko,rfl,rfl⟩
theorem crnum_calls {H : AH} {k : Nat} {tag : Int} {n : Nat} {L : List Fld} (hL : L.length ≤ 64) (hk : H k = some (opC 0 L)) (hn : numS L tag = (n,true)) (h2 : n ≤ 4611686018427387904) : ACalls Tryz.prog 28 [.ptr k 0,.int .i64 tag] H (fun o H' => o = .ret (.int .i64 n) ∧ H' = H) := by
  have hnc := fun G => Msg.mnumber_calls (l := L) (t := .no) (tag := tag) (by omega) G
  rw [show Msg.numS L tag = (n,true) from hn] at hnc
  have hw : IntKind.i64.wrap (n : Int) = n := wrap_id _ (by omega) (by omega)
  have hm : min (n : Int) 4611686018427387904 = n := by omega
  have hlt : ¬ (4611686018427387904 : Int) < (n : Int) := by omega
  refine acalls Tryz.func28 c28 r28 (by simp [Tryz.ntmps28]) ?_
  repeat' (first|with_reducible refine go0 ?_|(with_reducible refine am_cnd ?_ ?_<;>intro hc<;>try (exfalso;omega))|((first|with_reducible (first|refine go1 ?_|refine vc_intro ?_|refine need_el ?_|refine vlen_a ?_|refine need_by ?_|refine call_of (hnc) ?_|refine qcall_of (hnc) ?_|refine call_turn (when_no) ?_|refine need_lk ?_)|((with_reducible (first|apply gd_not|apply gd_of|apply gq_not|apply gq_of|apply pickB_of))<;>intro hc<;>(try simp -implicitDefEqProofs (disch:=omega) only [go_sem,hc,hw,hm,hlt,Bool.not_true])<;>(try simp only [reduceCtorEq,bD,beq_iff_eq] at hc)<;>(try (exfalso;omega)))|done)<;>(try simp -implicitDefEqProofs (disch:=omega) only [go_sem,hw,hm,hlt,Bool.not_true])))
theorem crbytes_calls {H : AH} {k : Nat} {tag : Int} {L : List Fld} (hL : L.length ≤ 64) (hb : ∀ f ∈ L,f.b.length ≤ 5000) (hk : H k = some (opC 0 L)) (hm : manyT L tag ≠ []) : ACalls Tryz.prog 29 [.ptr k 0,.int .i64 tag] H (fun o H' => o = .ret (.sl 1 (byteCells (blobT L tag)) .no) ∧ H' = H) := by
  have hnc := fun G => Msg.mbytes_calls (l := L) (t := .no) (tag := tag) (by omega) (fun f h => by have := hb f h; omega) G
  refine acalls Tryz.func29 c29 r29 (by simp [Tryz.ntmps29]) ?_
  repeat' (first|with_reducible refine go0 ?_|(with_reducible refine am_cnd ?_ ?_<;>intro hc<;>try (exfalso;omega))|((first|with_reducible (first|refine go1 ?_|refine vc_intro ?_|refine need_el ?_|refine vlen_a ?_|refine need_by ?_|refine call_of (hnc) ?_|refine qcall_of (hnc) ?_|refine call_turn (when_no) ?_|refine need_lk ?_)|done)<;>(try simp -implicitDefEqProofs (disch:=omega) only [go_sem,hm,Bool.not_true])))
theorem crvalue_calls {H : AH} {k g : Nat} {tag : Int} {L : List Fld} {v : Vl} (hL : L.length ≤ 64) (hb : ∀ f ∈ L,f.b.length ≤ 5000) (hk : H k = some (opC 0 L)) (hg : H g = some .nodr) (hm : manyT L tag ≠ []) (hv : decV (blobT L tag) = some v) (hlen : (blobT L tag).length ≤ 5000) : ACalls Tryz.prog 30 [.ptr k 0,.int .i64 tag] H (fun o H' => o = .ret (.agg [vV v]) ∧ H' = H) := by
  refine ACalls.drop ?_
  have bc := fun (G : AH) (hk : G k = some (opC 0 L)) => crbytes_calls hL hb hk hm
  have dk := fun (G : AH) (h : G g = some .nodr) => dec_ok _ (blobT L tag) (Nat.le_refl _) (by omega) g G h
  rw [hv] at dk
  simp only [Option.getD_some,Option.isSome_some,if_true] at dk
  refine acalls Tryz.func30 c30 r30 (by simp [Tryz.ntmps30]) ?_
  repeat' (first|with_reducible refine go0 ?_|(with_reducible refine am_cnd ?_ ?_<;>intro hc<;>try (exfalso;omega))|((first|with_reducible (first|refine go1 ?_|refine vc_intro ?_|refine need_el ?_|refine vlen_a ?_|refine need_by ?_|refine call_turn (bc _ (look_put hk (by assumption))) ?_|refine call_turn (dk _ (look_put hg (by assumption))) ?_|refine call_turn (when_no) ?_|refine need_lk ?_)|((with_reducible refine alloc_intro (fun ko hko=>?_))<;>(try have hne:=fresh_ne (by assumption) hko)<;>(try have hnk:=fresh_ne hk hko)<;>(try simp only [AH.put_none] at hko))|done)<;>(try simp -implicitDefEqProofs (disch:=omega) only [go_sem])))
  all_goals exact drop_end (fun _ _ h => h) (fun i p hp => by repeat (first | assumption | refine look_ne (ne_of_look hp (by first | assumption | exact And.right (by assumption) | exact And.right (And.right (by assumption)))) ?_))
theorem enc_zero {r : Rq} {b : List UInt8} (h : r.enc = (b,0)) : r.e0 = 0 ∧ (Vm.encS r.fl).2 = 0 ∧ (Vm.encS r.fl).1 = b := by
  unfold Rq.enc doneS at h
  split at h
  · rename_i h1; exact absurd (congrArg Prod.snd h) h1
  · rename_i h1
    split at h
    · cases h
    · rename_i h2
      exact ⟨Decidable.byContradiction h1,Decidable.byContradiction h2,congrArg Prod.fst h⟩
theorem e0_zero {r : Rq} (h : r.e0 = 0) : (0 ≤ r.N ∧ r.N ≤ 4611686018427387904 ∧ 1 ≤ r.O ∧ r.O ≤ 7 ∧ 0 ≤ r.V ∧ r.V ≤ 1000 ∧ r.I.length ≤ 80) ∧ (encM r.c).2 = 0 ∧ (encM r.p).2 = 0 ∧ (encM r.q).2 = 0 := by
  unfold Rq.e0 at h
  split at h
  · cases h
  · rename_i h1
    split at h
    · cases h
    · rename_i h2
      simp only [not_or,Decidable.not_not] at h2
      refine ⟨?_,h2.2.1,h2.2.2.1,h2.2.2.2⟩
      have h3 : r.right = true := by cases hr : r.right <;> simp_all
      rw [Rq.right,Bool.and_eq_true,Rq.num,decide_eq_true_eq] at h3
      exact h3.2
theorem un_of {n : Int} (h1 : 0 ≤ n) (h2 : n < 18446744073709551616) : ((un n : Nat) : Int) = n := by
  rw [← wrap_un]; exact u64_id h1 h2
end Go.Proofs.YtkldmgnhbomknaaGreat
/- Requests: a message's request. -/
namespace Go.Proofs.YtkldmgnhbomknaaGreat
open Go.Vm
attribute [local go_sem] eq_self decide_true decide_false AH.put_ne
attribute [local go_sem_proc] Nat.reduceBEq Nat.reduceAdd Nat.reduceSub Nat.reduceMul Nat.reduceEqDiff Nat.reduceLeDiff Nat.reduceLT Int.reduceLE Int.reduceLT Int.reduceToNat Int.reduceAdd Int.reduceEq Int.reduceNeg
attribute [local go_sem] vE_length byteCells_length byteCells_get bytes_cells bytesOf_cells fldC fldsE_get fldsE_length List.drop_zero toNat_succ Nat.sub_zero Int.toNat_natCast Option.map_some Int.natCast_nonneg decide_eq_true_eq decide_eq_false_iff_not
/- flange/call.ReadRequest -/
abbrev k10_0 : MC :=
 .cond (.t 51) ((.seq (.reg [
 ⟨some 52,none,.build [(.int .i64 0),(.int .i64 0),(.str []),.nilIface,.nilIface,.nilIface,.nilSl,(.int .i64 0),(.str [])] []⟩,
 ⟨none,none,.store 9 (.t 2) (.t 52)⟩,
 vl 3 (.mv (.c (.int .i64 4)))] [2,3]) (.ret))) (.skip)
abbrev k10_1 : MC :=
 (.seq (.reg [
 vl 53 (.load true 9 (.t 5)),
 ⟨none,none,.store 9 (.t 2) (.t 53)⟩,
 vl 3 (.mv (.c (.int .i64 0)))] [2,3]) (.ret))
abbrev k10_2 : MC :=
 (.seq ((.seq (.reg [
 mv 36 4,
 vl 37 (.nilc (.t 36)),
 vl 38 (.faddr 0 (.t 37)),
 vl 39 (.faddr 0 (.t 38)),
 vl 40 (.load false 1 (.t 39)),
 vl 41 (.bin .neq .num (.t 40) (.c (.int .i64 0))),
 mv 42 41,
 ⟨some 43,(some (42,false)),.val (.mv (.t 7))⟩,
 ⟨some 44,(some (42,false)),.val (.bin .neq .num (.t 43) (.c (.int .i64 0)))⟩,
 vl 45 (.pick (.t 42) (.c (.bool true)) (.t 44)),
 mv 46 45,
 ⟨some 47,(some (46,false)),.val (.mv (.t 6))⟩,
 ⟨some 48,(some (46,false)),.val (.mv (.t 0))⟩,
 ⟨some 49,(some (46,false)),.call 31 [(.t 47),(.t 48)]⟩,
 ⟨some 50,(some (46,false)),.val (.not (.t 49))⟩,
 vl 51 (.pick (.t 46) (.c (.bool true)) (.t 50))] [2,5,51]) k10_0)) k10_1)
abbrev k10_3 : MC :=
 (.seq (.reg [
 vl 32 (.load true 9 (.t 5)),
 ⟨some 33,none,.call 8 [(.t 32)]⟩,
 mv 31 33,
 vl 34 (.ext (.t 31) 0),
 vl 35 (.ext (.t 31) 1),
 mv 6 34,
 mv 7 35] [0,2,4,5,6,7]) k10_2)
abbrev k10_4 : MC :=
 (.seq (.drw [
 mv 10 4,
 ⟨some 11,none,.call 28 [(.t 10),(.c (.int .i64 1))]⟩,
 mv 12 4,
 ⟨some 13,none,.call 28 [(.t 12),(.c (.int .i64 2))]⟩,
 mv 14 4,
 ⟨some 15,none,.call 29 [(.t 14),(.c (.int .i64 3))]⟩,
 vl 16 (.b2s (.t 15)),
 mv 17 4,
 ⟨some 18,none,.call 30 [(.t 17),(.c (.int .i64 4))]⟩,
 mv 19 4,
 ⟨some 20,none,.call 30 [(.t 19),(.c (.int .i64 5))]⟩,
 mv 21 4,
 ⟨some 22,none,.call 30 [(.t 21),(.c (.int .i64 6))]⟩,
 mv 23 4,
 ⟨some 24,none,.call 29 [(.t 23),(.c (.int .i64 7))]⟩,
 mv 25 4,
 ⟨some 26,none,.call 28 [(.t 25),(.c (.int .i64 8))]⟩,
 mv 27 4,
 ⟨some 28,none,.call 29 [(.t 27),(.c (.int .i64 9))]⟩,
 vl 29 (.b2s (.t 28)),
 ⟨some 30,none,.build [(.int .i64 0),(.int .i64 0),(.str []),.nilIface,.nilIface,.nilIface,.nilSl,(.int .i64 0),(.str [])] [(0,1,(.t 11)),(1,1,(.t 13)),(2,1,(.t 16)),(3,1,(.t 18)),(4,1,(.t 20)),(5,1,(.t 22)),(6,1,(.t 24)),(7,1,(.t 26)),(8,1,(.t 29))]⟩] [
 ⟨some 5,none,.zalloc [(.int .i64 0),(.int .i64 0),(.str []),.nilIface,.nilIface,.nilIface,.nilSl,(.int .i64 0),(.str [])]⟩,
 ⟨none,none,.store 9 (.t 5) (.t 30)⟩] [0,2,4,5]) k10_3)
abbrev k10_5 : MC :=
 (.seq (.reg [
 mv 8 0,
 ⟨some 9,none,.call 27 [(.t 8)]⟩,
 mv 4 9] [0,2,4]) k10_4)
abbrev k10 : MC :=
 (.seq (.reg [
 ⟨some 2,none,.zalloc [(.int .i64 0),(.int .i64 0),(.str []),.nilIface,.nilIface,.nilIface,.nilSl,(.int .i64 0),(.str [])]⟩,
 vl 3 (.mv (.c (.int .i64 0)))] [0,2]) k10_5)
theorem c10 : Tryz.f10.body.bind (mcOf Tryz.prog (List.contains [] ·) (List.getD [([],[0,2]),([],[0,2,4]),([0,0,0,0,0,0,0,0,0,0,0,0,0,0,0,0,0,0,0,0,0,1,2],[0,2,4,5]),([],[0,2,4,5,6,7]),([],[2,5,51]),([],[2,3]),([],[2,3])] · ([],[])) 54) = some k10 := by kernel_rfl
theorem r10 : rvsOf Tryz.prog Tryz.f10.results.toList = some [.cell 2 true 9,.tmp 3] := by kernel_rfl
theorem rreq_calls {r : Rq} {a b d : Vl} {c : List UInt8} {t : Tok} (hq : RqOk r a b d) (he : r.enc = (c,0)) (ha : decV (encM r.c).1 = some a) (hb : decV (encM r.p).1 = some b) (hd : decV (encM r.q).1 = some d) {g : Nat} {H : AH} (hg : H g = some .nodr) :
    ACalls Tryz.prog 10 [.sl 1 (byteCells c) t] H (fun o H' => o = .ret (.tuple [.agg [.int .i64 r.N,.int .i64 r.O,.str r.K,vV a,vV b,vV d,.sl 1 (byteCells r.P) .no,.int .i64 r.V,.str r.I],.int .i64 0]) ∧ H' = H) := by
  obtain ⟨h0,h1,h2⟩ := enc_zero he
  obtain ⟨⟨n1,n2,n3,n4,n5,n6,n7⟩,c1,c2,c3⟩ := e0_zero h0
  have hok := hq.s.ok
  have hk := hq.s.k
  have hp := hq.s.p
  have hi := hq.s.i
  have la := encM_len r.c
  have lb := encM_len r.p
  have ld := encM_len r.q
  have hds := dec_enc (l := r.fl) (fun f hf => ⟨(hok f hf).1,by have := (hok f hf).2; omega⟩) h1
  rw [h2] at hds
  have hcl : c.length ≤ 4096 := by rw [← h2]; exact enc_len _
  have rc := fun (G : AH) => cread_calls (t := t) (by omega) hds G
  have hL : r.fl.length ≤ 64 := by simp [Rq.fl]
  have hb5 : ∀ f ∈ r.fl,f.b.length ≤ 5000 := by
    intro f hf
    simp only [Rq.fl,List.mem_cons,List.not_mem_nil,or_false] at hf
    rcases hf with rfl | rfl | rfl | rfl | rfl | rfl | rfl | rfl | rfl <;> simp only [List.length_nil] <;> omega
  have q1 := fun (G : AH) k (h : G k = some (opC 0 r.fl)) => crnum_calls (tag := 1) hL h (show numS r.fl 1 = (un r.N,true) from rfl) (by have := un_of n1 (by omega); omega)
  have q2 := fun (G : AH) k (h : G k = some (opC 0 r.fl)) => crnum_calls (tag := 2) hL h (show numS r.fl 2 = (un r.O,true) from rfl) (by have := un_of (n := r.O) (by omega) (by omega); omega)
  have q8 := fun (G : AH) k (h : G k = some (opC 0 r.fl)) => crnum_calls (tag := 8) hL h (show numS r.fl 8 = (un r.V,true) from rfl) (by have := un_of (n := r.V) (by omega) (by omega); omega)
  have q3 := fun (G : AH) k (h : G k = some (opC 0 r.fl)) => crbytes_calls (tag := 3) hL hb5 h (show [r.K] ≠ [] by simp)
  have q7 := fun (G : AH) k (h : G k = some (opC 0 r.fl)) => crbytes_calls (tag := 7) hL hb5 h (show [r.P] ≠ [] by simp)
  have q9 := fun (G : AH) k (h : G k = some (opC 0 r.fl)) => crbytes_calls (tag := 9) hL hb5 h (show [r.I] ≠ [] by simp)
  have q4 := fun (G : AH) k (h : G k = some (opC 0 r.fl)) (hn : G g = some .nodr) => crvalue_calls (tag := 4) hL hb5 h hn (show [(encM r.c).1] ≠ [] by simp) (show decV (encM r.c).1 = some a from ha) (show (encM r.c).1.length ≤ 5000 by omega)
  have q5 := fun (G : AH) k (h : G k = some (opC 0 r.fl)) (hn : G g = some .nodr) => crvalue_calls (tag := 5) hL hb5 h hn (show [(encM r.p).1] ≠ [] by simp) (show decV (encM r.p).1 = some b from hb) (show (encM r.p).1.length ≤ 5000 by omega)
  have q6 := fun (G : AH) k (h : G k = some (opC 0 r.fl)) (hn : G g = some .nodr) => crvalue_calls (tag := 6) hL hb5 h hn (show [(encM r.q).1] ≠ [] by simp) (show decV (encM r.q).1 = some d from hd) (show (encM r.q).1.length ≤ 5000 by omega)
  rw [un_of n1 (by omega)] at q1
  rw [un_of (n := r.O) (by omega) (by omega)] at q2
  rw [un_of (n := r.V) (by omega) (by omega)] at q8
  rw [show blobT r.fl 3 = r.K from rfl] at q3
  rw [show blobT r.fl 7 = r.P from rfl] at q7
  rw [show blobT r.fl 9 = r.I from rfl] at q9
  have ec := fun (G : AH) (h : G g = some .nodr) => renc_calls (t := .no) hq h
  have bq := fun (G : AH) => beq_calls (s := c) (t := c) (k := .no) (k2 := t) G
  rw [he] at ec
  rw [decide_eq_true rfl] at bq
  simp only [opC] at q1 q2 q3 q4 q5 q6 q7 q8 q9 rc
  clear hL hb5 hds hok la lb ld
  generalize r.fl = L at *
  refine ACalls.drop ?_
  refine acalls Tryz.func10 c10 r10 (by simp [Tryz.ntmps10]) ?_
  repeat' (first|(((with_reducible refine call_ex (rc _) (fun w H2 hr=>?_));obtain ⟨k,hk0,rfl,rfl⟩:=hr;simp only [AH.put_none] at hk0;(try simp -implicitDefEqProofs (disch:=omega) only [go_sem])))|with_reducible refine go0 ?_|(with_reducible refine am_cnd ?_ ?_<;>intro hc<;>try (exfalso;omega))|((first|with_reducible (first|refine go1 ?_|refine vc_intro ?_|refine need_el ?_|refine vlen_a ?_|refine need_by ?_|refine call_of (bq) ?_|refine qcall_of (bq) ?_|refine call_turn (ec _ (by repeat (first|assumption|refine look_ne (by first|assumption|exact ne_of_look hg (by first|assumption|exact And.right (by assumption)|exact And.right (And.right (by assumption)))) ?_))) ?_|refine call_at (fun G hl=>q1 _ _ (look_lec (AH.put_same _ _ _) hl)) ?_|refine qcall_at (fun G hl=>q1 _ _ (look_lec (AH.put_same _ _ _) hl)) ?_|refine call_at (fun G hl=>q2 _ _ (look_lec (AH.put_same _ _ _) hl)) ?_|refine qcall_at (fun G hl=>q2 _ _ (look_lec (AH.put_same _ _ _) hl)) ?_|refine call_at (fun G hl=>q3 _ _ (look_lec (AH.put_same _ _ _) hl)) ?_|refine qcall_at (fun G hl=>q3 _ _ (look_lec (AH.put_same _ _ _) hl)) ?_|refine call_at (fun G hl=>q4 _ _ (look_lec (AH.put_same _ _ _) hl) (nodr_lec (by repeat (first|assumption|refine look_ne (by first|assumption|exact ne_of_look hg (by first|assumption|exact And.right (by assumption)|exact And.right (And.right (by assumption)))) ?_)) hl)) ?_|refine qcall_at (fun G hl=>q4 _ _ (look_lec (AH.put_same _ _ _) hl) (nodr_lec (by repeat (first|assumption|refine look_ne (by first|assumption|exact ne_of_look hg (by first|assumption|exact And.right (by assumption)|exact And.right (And.right (by assumption)))) ?_)) hl)) ?_|refine call_at (fun G hl=>q5 _ _ (look_lec (AH.put_same _ _ _) hl) (nodr_lec (by repeat (first|assumption|refine look_ne (by first|assumption|exact ne_of_look hg (by first|assumption|exact And.right (by assumption)|exact And.right (And.right (by assumption)))) ?_)) hl)) ?_|refine qcall_at (fun G hl=>q5 _ _ (look_lec (AH.put_same _ _ _) hl) (nodr_lec (by repeat (first|assumption|refine look_ne (by first|assumption|exact ne_of_look hg (by first|assumption|exact And.right (by assumption)|exact And.right (And.right (by assumption)))) ?_)) hl)) ?_|refine call_at (fun G hl=>q6 _ _ (look_lec (AH.put_same _ _ _) hl) (nodr_lec (by repeat (first|assumption|refine look_ne (by first|assumption|exact ne_of_look hg (by first|assumption|exact And.right (by assumption)|exact And.right (And.right (by assumption)))) ?_)) hl)) ?_|refine qcall_at (fun G hl=>q6 _ _ (look_lec (AH.put_same _ _ _) hl) (nodr_lec (by repeat (first|assumption|refine look_ne (by first|assumption|exact ne_of_look hg (by first|assumption|exact And.right (by assumption)|exact And.right (And.right (by assumption)))) ?_)) hl)) ?_|refine call_at (fun G hl=>q7 _ _ (look_lec (AH.put_same _ _ _) hl)) ?_|refine qcall_at (fun G hl=>q7 _ _ (look_lec (AH.put_same _ _ _) hl)) ?_|refine call_at (fun G hl=>q8 _ _ (look_lec (AH.put_same _ _ _) hl)) ?_|refine qcall_at (fun G hl=>q8 _ _ (look_lec (AH.put_same _ _ _) hl)) ?_|refine call_at (fun G hl=>q9 _ _ (look_lec (AH.put_same _ _ _) hl)) ?_|refine qcall_at (fun G hl=>q9 _ _ (look_lec (AH.put_same _ _ _) hl)) ?_|refine need_lk ?_)|((with_reducible (first|apply gd_not|apply gd_of|apply gq_not|apply gq_of|apply pickB_of))<;>intro hc<;>(try simp -implicitDefEqProofs (disch:=omega) only [go_sem,hc])<;>(try simp only [reduceCtorEq,bD,beq_iff_eq] at hc)<;>(try (exfalso;omega)))|((with_reducible refine alloc_intro (fun ko hko=>?_))<;>(try have hne:=fresh_ne (by assumption) hko)<;>(try have hnk:=fresh_ne hk hko)<;>(try simp only [AH.put_none] at hko))|done)<;>(try simp -implicitDefEqProofs (disch:=omega) only [go_sem])))
  all_goals exact drop_end (fun _ _ h => h) (fun i p hp => by repeat (first | assumption | refine look_ne (ne_of_look hp (by first | assumption | exact And.right (by assumption) | exact And.right (And.right (by assumption)))) ?_))
end Go.Proofs.YtkldmgnhbomknaaGreat
