/- Contracts of functions of the given program. Conditions: as each theorem says. -/
import Derived.Test.YtkldmgnhbomknaaGreatQZWC
import Derived.Test.YtkldmgnhbomknaaGreatVmV
set_option linter.unusedVariables false
set_option linter.unusedSimpArgs false
namespace Go.Proofs.YtkldmgnhbomknaaGreat
open Go.Vm
attribute [local go_sem] eq_self decide_true decide_false AH.put_ne
attribute [local go_sem_proc] Nat.reduceBEq Nat.reduceAdd Nat.reduceSub Nat.reduceMul Nat.reduceEqDiff Nat.reduceLeDiff Nat.reduceLT Int.reduceLE Int.reduceLT Int.reduceToNat Int.reduceAdd Int.reduceEq Int.reduceNeg
attribute [local go_sem] vE_length byteCells_get byteCells_length byteCells_take byteCells_drop bytes_cells bytesOf_cells fldC fldsE_get fldsE_length List.drop_zero toNat_succ Nat.sub_zero Int.toNat_natCast Option.map_some Int.natCast_nonneg decide_eq_true_eq decide_eq_false_iff_not
/- (*flange/pack.opener).value -/
abbrev k81_0 : MC :=
 (.seq (.reg [
 vl 39 (.load true 1 (.t 3)),
 ⟨none,none,.store 1 (.t 2) (.t 39)⟩] [2]) (.ret))
abbrev k81_1 : MC :=
 (.seq (.reg [
 mv 34 0,
 vl 35 (.nilc (.t 34)),
 vl 36 (.faddr 0 (.t 35)),
 mv 37 4,
 ⟨some 38,none,.call 95 [(.t 36),(.t 37)]⟩] [2,3]) k81_0)
abbrev k81_2 : MC :=
 .cond (.t 51) ((.seq (.reg [
 mv 53 0,
 ⟨some 54,none,.call 98 [(.t 53)]⟩,
 ⟨none,none,.store 1 (.t 2) (.t 54)⟩] [2]) (.ret))) (.skip)
abbrev k81_3 : MC :=
 .cond (.t 46) ((.seq (.reg [
 mv 48 0,
 ⟨some 49,none,.call 97 [(.t 48),(.c (.int .i64 5))]⟩,
 ⟨some 50,none,.call 45 [(.t 49)]⟩,
 ⟨none,none,.store 1 (.t 2) (.t 50)⟩] [2]) (.ret))) ((.seq (.reg [
 vl 52 (.bin .eql .num (.t 6) (.c (.int .u64 7))),
 mv 51 52] [0,2,51]) k81_2))
abbrev k81_4 : MC :=
 .cond (.t 40) ((.seq (.reg [
 mv 42 0,
 ⟨some 43,none,.call 96 [(.t 42),(.c (.int .i64 4))]⟩,
 vl 44 (.b2s (.t 43)),
 ⟨some 45,none,.call 44 [(.t 44)]⟩,
 ⟨none,none,.store 1 (.t 2) (.t 45)⟩] [2]) (.ret))) ((.seq (.reg [
 vl 47 (.bin .eql .num (.t 6) (.c (.int .u64 6))),
 mv 46 47] [0,2,6,46]) k81_3))
abbrev k81_5 : MC :=
 .cond (.t 22) ((.seq (.reg [
 mv 25 0,
 ⟨some 26,none,.call 93 [(.t 25),(.c (.int .i64 2))]⟩,
 ⟨some 27,none,.call 94 [(.t 26)]⟩,
 mv 28 0,
 ⟨some 29,none,.call 93 [(.t 28),(.c (.int .i64 3))]⟩,
 ⟨some 30,none,.call 94 [(.t 29)]⟩,
 ⟨some 31,none,.call 43 [(.t 27),(.t 30)]⟩,
 mv 24 31,
 vl 32 (.ext (.t 24) 0),
 vl 33 (.ext (.t 24) 1),
 ⟨some 3,none,.zalloc [.nilIface]⟩,
 ⟨none,none,.store 1 (.t 3) (.t 32)⟩,
 mv 4 33] [0,2,3,4]) k81_1)) ((.seq (.reg [
 vl 41 (.bin .eql .num (.t 6) (.c (.int .u64 5))),
 mv 40 41] [0,2,6,40]) k81_4))
abbrev k81_6 : MC :=
 .cond (.t 16) ((.seq (.reg [
 mv 18 0,
 ⟨some 19,none,.call 93 [(.t 18),(.c (.int .i64 2))]⟩,
 ⟨some 20,none,.call 94 [(.t 19)]⟩,
 ⟨some 21,none,.call 42 [(.t 20)]⟩,
 ⟨none,none,.store 1 (.t 2) (.t 21)⟩] [2]) (.ret))) ((.seq (.reg [
 vl 23 (.bin .eql .num (.t 6) (.c (.int .u64 4))),
 mv 22 23] [0,2,6,22]) k81_5))
abbrev k81_7 : MC :=
 .cond (.t 10) ((.seq (.reg [
 mv 12 0,
 ⟨some 13,none,.call 93 [(.t 12),(.c (.int .i64 2))]⟩,
 vl 14 (.bin .eql .num (.t 13) (.c (.int .u64 1))),
 ⟨some 15,none,.call 41 [(.t 14)]⟩,
 ⟨none,none,.store 1 (.t 2) (.t 15)⟩] [2]) (.ret))) ((.seq (.reg [
 vl 17 (.bin .eql .num (.t 6) (.c (.int .u64 3))),
 mv 16 17] [0,2,6,16]) k81_6))
abbrev k81_8 : MC :=
 .cond (.t 7) ((.seq (.reg [
 ⟨some 9,none,.call 40 []⟩,
 ⟨none,none,.store 1 (.t 2) (.t 9)⟩] [2]) (.ret))) ((.seq (.reg [
 vl 11 (.bin .eql .num (.t 6) (.c (.int .u64 2))),
 mv 10 11] [0,2,6,10]) k81_7))
abbrev k81_9 : MC :=
 .block 0 ((.seq (.reg [
 vl 8 (.bin .eql .num (.t 6) (.c (.int .u64 1))),
 mv 7 8] [0,2,6,7]) k81_8))
abbrev k81_10 : MC :=
 (.seq (.reg [
 ⟨some 55,none,.call 47 []⟩,
 ⟨none,none,.store 1 (.t 2) (.t 55)⟩] [2]) (.ret))
abbrev k81_11 : MC :=
 (.seq ((.seq (.reg [
 mv 5 0,
 ⟨some 6,none,.call 93 [(.t 5),(.c (.int .i64 1))]⟩] [0,2,6]) k81_9)) k81_10)
abbrev k81 : MC :=
 (.seq (.reg [
 ⟨some 2,none,.zalloc [.nilIface]⟩] [0,2]) k81_11)
theorem c81 : Tryz.f81.body.bind (mcOf Tryz.prog (List.contains [] ·) (List.getD [([],[0,2]),([],[0,2,6]),([],[0,2,6,7]),([],[2]),([],[0,2,6,10]),([],[2]),([],[0,2,6,16]),([],[2]),([],[0,2,6,22]),([],[0,2,3,4]),([],[2,3]),([],[2]),([],[0,2,6,40]),([],[2]),([],[0,2,6,46]),([],[2]),([],[0,2,51]),([],[2]),([],[2])] · ([],[])) 56) = some k81 := by kernel_rfl
theorem r81 : rvsOf Tryz.prog Tryz.f81.results.toList = some [.cell 2 true 1] := by kernel_rfl
abbrev OvAt (H : AH) (k : Nat) (L : List Fld) : Prop := ACalls Tryz.prog 81 [.ptr k 0] H (fun o H' => o = .ret (.agg [vV (openD decV L).1]) ∧ H' = H.put k (opC (openE decV L) L))
theorem ov_le {H : AH} {k kr : Nat} {N X o : AObj} (hkr : H kr = none) (hnk : k ≠ kr) : (H.put k X).le (((H.put kr N).put k X).put kr o) := fun q p hq => by
  by_cases hqk : q = k
  · subst hqk
    rw [AH.put_same] at hq; cases hq
    exact look_ne hnk (AH.put_same _ _ _)
  · rw [AH.put_ne _ _ hqk] at hq
    have n1 : q ≠ kr := by rintro rfl; rw [hkr] at hq; cases hq
    exact look_ne n1 (look_ne hqk (look_ne n1 hq))
theorem ov_le2 {H : AH} {k kr kb : Nat} {N X X2 Y o : AObj} (hkr : H kr = none) (hnk : k ≠ kr) (hkb : H kb = none) : (H.put k X2).le (((((H.put kr N).put k X).put kb Y).put k X2).put kr o) := fun q p hq => by
  by_cases hqk : q = k
  · subst hqk
    rw [AH.put_same] at hq; cases hq
    exact look_ne hnk (AH.put_same _ _ _)
  · rw [AH.put_ne _ _ hqk] at hq
    have n1 : q ≠ kr := by rintro rfl; rw [hkr] at hq; cases hq
    have n2 : q ≠ kb := by rintro rfl; rw [hkb] at hq; cases hq
    exact look_ne n1 (look_ne hqk (look_ne n2 (look_ne hqk (look_ne n1 hq))))
theorem ov1 {H : AH} {k g : Nat} {L : List Fld} (hL : L.length ≤ 64) (hf : ∀ f ∈ L,f.n < 18446744073709551616 ∧ f.b.length ≤ 4096) (hd : ∀ f ∈ L,DecOk f.b) (hk : H k = some (opC 0 L)) (hg : H g = some .nodr) (hn : (numS L 1).1 = 1) : OvAt H k L := by
  refine ACalls.dropG ?_
  have hb : ∀ f ∈ L,f.b.length ≤ 4096 := fun f h => (hf f h).2
  have hn2 := numS_lt (t := 2) (fun f h => (hf f h).1)
  have hn3 := numS_lt (t := 3) (fun f h => (hf f h).1)
  have hgk : g ≠ k := by rintro rfl; rw [hk] at hg; cases hg
  have hc1 := fun (G : AH) (h : G k = some (opC 0 L)) => onum_calls (tag := 1) hL h
  unfold openE openD
  rw [hn] at hc1 ⊢
  simp only
  refine acalls Tryz.func81 c81 r81 (by simp [Tryz.ntmps81]) ?_
  repeat' (first|with_reducible refine go0 ?_|(with_reducible refine am_cnd ?_ ?_<;>intro hc<;>try (exfalso;omega))|((first|with_reducible (first|refine go1 ?_|refine vc_intro ?_|refine need_el ?_|refine vlen_a ?_|refine need_by ?_|refine call_turn (hc1 _ (look_put hk hko)) ?_|refine call_of (mlater_calls) ?_|refine qcall_of (mlater_calls) ?_|refine need_lk ?_)|((with_reducible refine alloc_intro (fun ko hko=>?_))<;>(try have hne:=fresh_ne (by assumption) hko)<;>(try have hnk:=fresh_ne hk hko)<;>(try simp only [AH.put_none] at hko))|done)<;>(try simp -implicitDefEqProofs (disch:=omega) only [go_sem,AH.put_put,Int.natCast_inj])))
  all_goals exact ⟨⟨_,rfl,fun _ _ h => h⟩,ov_le hko hnk⟩
theorem ov0 {H : AH} {k g : Nat} {L : List Fld} (hL : L.length ≤ 64) (hf : ∀ f ∈ L,f.n < 18446744073709551616 ∧ f.b.length ≤ 4096) (hd : ∀ f ∈ L,DecOk f.b) (hk : H k = some (opC 0 L)) (hg : H g = some .nodr) (hn : (numS L 1).1 = 0) : OvAt H k L := by
  refine ACalls.dropG ?_
  have hb : ∀ f ∈ L,f.b.length ≤ 4096 := fun f h => (hf f h).2
  have hn2 := numS_lt (t := 2) (fun f h => (hf f h).1)
  have hn3 := numS_lt (t := 3) (fun f h => (hf f h).1)
  have hgk : g ≠ k := by rintro rfl; rw [hk] at hg; cases hg
  have hc1 := fun (G : AH) (h : G k = some (opC 0 L)) => onum_calls (tag := 1) hL h
  unfold openE openD
  rw [hn] at hc1 ⊢
  simp only
  refine acalls Tryz.func81 c81 r81 (by simp [Tryz.ntmps81]) ?_
  repeat' (first|with_reducible refine go0 ?_|(with_reducible refine am_cnd ?_ ?_<;>intro hc<;>try (exfalso;omega))|((first|with_reducible (first|refine go1 ?_|refine vc_intro ?_|refine need_el ?_|refine vlen_a ?_|refine need_by ?_|refine call_turn (hc1 _ (look_put hk hko)) ?_|refine call_of (munset_calls) ?_|refine qcall_of (munset_calls) ?_|refine need_lk ?_)|((with_reducible refine alloc_intro (fun ko hko=>?_))<;>(try have hne:=fresh_ne (by assumption) hko)<;>(try have hnk:=fresh_ne hk hko)<;>(try simp only [AH.put_none] at hko))|done)<;>(try simp -implicitDefEqProofs (disch:=omega) only [go_sem,AH.put_put,Int.natCast_inj])))
  all_goals exact ⟨⟨_,rfl,fun _ _ h => h⟩,ov_le hko hnk⟩
theorem ov9 {H : AH} {k g : Nat} {L : List Fld} (hL : L.length ≤ 64) (hf : ∀ f ∈ L,f.n < 18446744073709551616 ∧ f.b.length ≤ 4096) (hd : ∀ f ∈ L,DecOk f.b) (hk : H k = some (opC 0 L)) (hg : H g = some .nodr) (hn : 7 < (numS L 1).1) : OvAt H k L := by
  refine ACalls.dropG ?_
  have hb : ∀ f ∈ L,f.b.length ≤ 4096 := fun f h => (hf f h).2
  have hn2 := numS_lt (t := 2) (fun f h => (hf f h).1)
  have hn3 := numS_lt (t := 3) (fun f h => (hf f h).1)
  have hgk : g ≠ k := by rintro rfl; rw [hk] at hg; cases hg
  have hc1 := fun (G : AH) (h : G k = some (opC 0 L)) => onum_calls (tag := 1) hL h
  unfold openE openD
  generalize (numS L 1).1 = q at *
  obtain ⟨r,rfl⟩ : ∃ r,q = r + 8 := ⟨q - 8,by omega⟩
  simp only
  refine acalls Tryz.func81 c81 r81 (by simp [Tryz.ntmps81]) ?_
  repeat' (first|with_reducible refine go0 ?_|(with_reducible refine am_cnd ?_ ?_<;>intro hc<;>try (exfalso;omega))|((first|with_reducible (first|refine go1 ?_|refine vc_intro ?_|refine need_el ?_|refine vlen_a ?_|refine need_by ?_|refine call_turn (hc1 _ (look_put hk hko)) ?_|refine call_of (munset_calls) ?_|refine qcall_of (munset_calls) ?_|refine need_lk ?_)|((with_reducible refine alloc_intro (fun ko hko=>?_))<;>(try have hne:=fresh_ne (by assumption) hko)<;>(try have hnk:=fresh_ne hk hko)<;>(try simp only [AH.put_none] at hko))|done)<;>(try simp -implicitDefEqProofs (disch:=omega) only [go_sem,AH.put_put,Int.natCast_inj])))
  all_goals exact ⟨⟨_,rfl,fun _ _ h => h⟩,ov_le hko hnk⟩
theorem ov2 {H : AH} {k g : Nat} {L : List Fld} (hL : L.length ≤ 64) (hf : ∀ f ∈ L,f.n < 18446744073709551616 ∧ f.b.length ≤ 4096) (hd : ∀ f ∈ L,DecOk f.b) (hk : H k = some (opC 0 L)) (hg : H g = some .nodr) (hn : (numS L 1).1 = 2) : OvAt H k L := by
  refine ACalls.dropG ?_
  have hb : ∀ f ∈ L,f.b.length ≤ 4096 := fun f h => (hf f h).2
  have hn2 := numS_lt (t := 2) (fun f h => (hf f h).1)
  have hn3 := numS_lt (t := 3) (fun f h => (hf f h).1)
  have hgk : g ≠ k := by rintro rfl; rw [hk] at hg; cases hg
  have hc1 := fun (G : AH) (h : G k = some (opC 0 L)) => onum_calls (tag := 1) hL h
  have hdec : decide (((numS L 2).1 : Int) = 1) = decide ((numS L 2).1 = 1) := by rw [decide_eq_decide]; omega
  unfold openE openD
  rw [hn] at hc1 ⊢
  simp only
  refine acalls Tryz.func81 c81 r81 (by simp [Tryz.ntmps81]) ?_
  repeat' (first|with_reducible refine go0 ?_|(with_reducible refine am_cnd ?_ ?_<;>intro hc<;>try (exfalso;omega))|((first|with_reducible (first|refine go1 ?_|refine vc_intro ?_|refine need_el ?_|refine vlen_a ?_|refine need_by ?_|refine call_turn (hc1 _ (look_put hk hko)) ?_|refine call_turn (onum_calls (tag:=2) hL (AH.put_same _ _ _)) ?_|refine call_of (mof_calls (decide ((numS L 2).1 = 1))) ?_|refine qcall_of (mof_calls (decide ((numS L 2).1 = 1))) ?_|refine need_lk ?_)|((with_reducible refine alloc_intro (fun ko hko=>?_))<;>(try have hne:=fresh_ne (by assumption) hko)<;>(try have hnk:=fresh_ne hk hko)<;>(try simp only [AH.put_none] at hko))|done)<;>(try simp -implicitDefEqProofs (disch:=omega) only [go_sem,AH.put_put,Int.natCast_inj,hdec])))
  all_goals exact ⟨⟨_,rfl,fun _ _ h => h⟩,ov_le hko hnk⟩
theorem ov3 {H : AH} {k g : Nat} {L : List Fld} (hL : L.length ≤ 64) (hf : ∀ f ∈ L,f.n < 18446744073709551616 ∧ f.b.length ≤ 4096) (hd : ∀ f ∈ L,DecOk f.b) (hk : H k = some (opC 0 L)) (hg : H g = some .nodr) (hn : (numS L 1).1 = 3) : OvAt H k L := by
  refine ACalls.dropG ?_
  have hb : ∀ f ∈ L,f.b.length ≤ 4096 := fun f h => (hf f h).2
  have hn2 := numS_lt (t := 2) (fun f h => (hf f h).1)
  have hn3 := numS_lt (t := 3) (fun f h => (hf f h).1)
  have hgk : g ≠ k := by rintro rfl; rw [hk] at hg; cases hg
  have hc1 := fun (G : AH) (h : G k = some (opC 0 L)) => onum_calls (tag := 1) hL h
  unfold openE openD
  rw [hn] at hc1 ⊢
  simp only
  refine acalls Tryz.func81 c81 r81 (by simp [Tryz.ntmps81]) ?_
  repeat' (first|with_reducible refine go0 ?_|(with_reducible refine am_cnd ?_ ?_<;>intro hc<;>try (exfalso;omega))|((first|with_reducible (first|refine go1 ?_|refine vc_intro ?_|refine need_el ?_|refine vlen_a ?_|refine need_by ?_|refine call_turn (hc1 _ (look_put hk hko)) ?_|refine call_turn (onum_calls (tag:=2) hL (AH.put_same _ _ _)) ?_|refine call_of (zag_calls hn2) ?_|refine qcall_of (zag_calls hn2) ?_|refine call_of (mint_calls _) ?_|refine qcall_of (mint_calls _) ?_|refine need_lk ?_)|((with_reducible refine alloc_intro (fun ko hko=>?_))<;>(try have hne:=fresh_ne (by assumption) hko)<;>(try have hnk:=fresh_ne hk hko)<;>(try simp only [AH.put_none] at hko))|done)<;>(try simp -implicitDefEqProofs (disch:=omega) only [go_sem,AH.put_put,Int.natCast_inj])))
  all_goals exact ⟨⟨_,rfl,fun _ _ h => h⟩,ov_le hko hnk⟩
theorem ov4 {H : AH} {k g : Nat} {L : List Fld} (hL : L.length ≤ 64) (hf : ∀ f ∈ L,f.n < 18446744073709551616 ∧ f.b.length ≤ 4096) (hd : ∀ f ∈ L,DecOk f.b) (hk : H k = some (opC 0 L)) (hg : H g = some .nodr) (hn : (numS L 1).1 = 4) : OvAt H k L := by
  refine ACalls.dropG ?_
  have hb : ∀ f ∈ L,f.b.length ≤ 4096 := fun f h => (hf f h).2
  have hn2 := numS_lt (t := 2) (fun f h => (hf f h).1)
  have hn3 := numS_lt (t := 3) (fun f h => (hf f h).1)
  have hgk : g ≠ k := by rintro rfl; rw [hk] at hg; cases hg
  have hc1 := fun (G : AH) (h : G k = some (opC 0 L)) => onum_calls (tag := 1) hL h
  unfold openE openD
  rw [hn] at hc1 ⊢
  simp only
  refine acalls Tryz.func81 c81 r81 (by simp [Tryz.ntmps81]) ?_
  refine am_seq ?_
  refine am_reg ?_
  simp -implicitDefEqProofs (disch := omega) only [go_sem]
  refine alloc_intro (fun kr hkr => ?_)
  have hnkr := fresh_ne hk hkr
  repeat' (first|with_reducible refine go0 ?_|(with_reducible refine am_cnd ?_ ?_<;>intro hc<;>try (exfalso;omega))|((first|with_reducible (first|refine go1 ?_|refine vc_intro ?_|refine need_el ?_|refine vlen_a ?_|refine need_by ?_|refine call_turn (hc1 _ (look_put hk hkr)) ?_|refine call_turn (onum_calls (tag:=2) hL (AH.put_same _ _ _)) ?_|refine call_turn (onum_calls (tag:=3) hL (AH.put_same _ _ _)) ?_|refine call_of (zag_calls hn2) ?_|refine qcall_of (zag_calls hn2) ?_|refine call_of (zag_calls hn3) ?_|refine qcall_of (zag_calls hn3) ?_|refine call_of (mpoint_calls _ _) ?_|refine qcall_of (mpoint_calls _ _) ?_|refine need_lk ?_)|((with_reducible refine alloc_intro (fun ko hko=>?_))<;>(try have hne:=fresh_ne (by assumption) hko)<;>(try have hnk:=fresh_ne hk hko)<;>(try simp only [AH.put_none] at hko))|done)<;>(try simp -implicitDefEqProofs (disch:=omega) only [go_sem,AH.put_put,Int.natCast_inj])))
  revert ko
  intro kb hkb
  obtain ⟨hn1,hn4⟩ := hkb
  have hn5 : kb ≠ kr ∧ H kb = none := by simpa only [AH.put_none] using hn4
  refine call_turn (ofail_calls (look_ne (Ne.symm hn1) (AH.put_same _ _ _))) ?_
  generalize hX : opC (if (numS L 3).2 = true then if (numS L 2).2 = true then if (numS L 1).2 = true then 0 else fe 0 4 else fe (if (numS L 1).2 = true then 0 else fe 0 4) 4 else fe (if (numS L 2).2 = true then if (numS L 1).2 = true then 0 else fe 0 4 else fe (if (numS L 1).2 = true then 0 else fe 0 4) 4) 4) L = X
  generalize hY : AObj.cells [vV (ptV (zagN (numS L 2).1) (zagN (numS L 3).1))] = Y
  have f1 : ∀ X2,(((((H.put kr (.cells [.nilIface])).put k X).put kb Y).put k X2) kb) = some Y := fun X2 => look_ne hn1 (AH.put_same _ _ _)
  have f2 : ∀ X2,(((((H.put kr (.cells [.nilIface])).put k X).put kb Y).put k X2) kr) = some (.cells [.nilIface]) := fun X2 => look_ne (Ne.symm hnkr) (look_ne (Ne.symm hn5.1) (look_ne (Ne.symm hnkr) (AH.put_same _ _ _)))
  have f3 : ∀ X2 o,(H.put k X2).le (((((H.put kr (.cells [.nilIface])).put k X).put kb Y).put k X2).put kr o) := fun X2 o => ov_le2 hkr hnkr hn5.2
  subst hY
  repeat' (first|with_reducible refine go0 ?_|(with_reducible refine am_cnd ?_ ?_<;>intro hc<;>try (exfalso;omega))|((first|with_reducible (first|refine go1 ?_|refine vc_intro ?_|refine need_el ?_|refine vlen_a ?_|refine need_by ?_|refine need_lk ?_)|((with_reducible refine alloc_intro (fun ko hko=>?_))<;>(try have hne:=fresh_ne (by assumption) hko)<;>(try have hnk:=fresh_ne hk hko)<;>(try simp only [AH.put_none] at hko))|done)<;>(try simp -implicitDefEqProofs (disch:=omega) only [go_sem,f1,f2])))
  all_goals exact ⟨⟨_,rfl,fun _ _ h => h⟩,f3 _ _⟩
theorem ov5 {H : AH} {k g : Nat} {L : List Fld} (hL : L.length ≤ 64) (hf : ∀ f ∈ L,f.n < 18446744073709551616 ∧ f.b.length ≤ 4096) (hd : ∀ f ∈ L,DecOk f.b) (hk : H k = some (opC 0 L)) (hg : H g = some .nodr) (hn : (numS L 1).1 = 5) : OvAt H k L := by
  refine ACalls.dropG ?_
  have hb : ∀ f ∈ L,f.b.length ≤ 4096 := fun f h => (hf f h).2
  have hn2 := numS_lt (t := 2) (fun f h => (hf f h).1)
  have hn3 := numS_lt (t := 3) (fun f h => (hf f h).1)
  have hgk : g ≠ k := by rintro rfl; rw [hk] at hg; cases hg
  have hc1 := fun (G : AH) (h : G k = some (opC 0 L)) => onum_calls (tag := 1) hL h
  unfold openE openD
  rw [hn] at hc1 ⊢
  simp only
  refine acalls Tryz.func81 c81 r81 (by simp [Tryz.ntmps81]) ?_
  repeat' (first|with_reducible refine go0 ?_|(with_reducible refine am_cnd ?_ ?_<;>intro hc<;>try (exfalso;omega))|((first|with_reducible (first|refine go1 ?_|refine vc_intro ?_|refine need_el ?_|refine vlen_a ?_|refine need_by ?_|refine call_turn (hc1 _ (look_put hk hko)) ?_|refine call_turn (obytes_calls (tag:=4) hL hb (AH.put_same _ _ _)) ?_|refine call_of (mtext_calls _) ?_|refine qcall_of (mtext_calls _) ?_|refine need_lk ?_)|((with_reducible refine alloc_intro (fun ko hko=>?_))<;>(try have hne:=fresh_ne (by assumption) hko)<;>(try have hnk:=fresh_ne hk hko)<;>(try simp only [AH.put_none] at hko))|done)<;>(try simp -implicitDefEqProofs (disch:=omega) only [go_sem,AH.put_put,Int.natCast_inj])))
  all_goals exact ⟨⟨_,rfl,fun _ _ h => h⟩,ov_le hko hnk⟩
theorem ov6 {H : AH} {k g : Nat} {L : List Fld} (hL : L.length ≤ 64) (hf : ∀ f ∈ L,f.n < 18446744073709551616 ∧ f.b.length ≤ 4096) (hd : ∀ f ∈ L,DecOk f.b) (hk : H k = some (opC 0 L)) (hg : H g = some .nodr) (hn : (numS L 1).1 = 6) : OvAt H k L := by
  refine ACalls.dropG ?_
  have hb : ∀ f ∈ L,f.b.length ≤ 4096 := fun f h => (hf f h).2
  have hn2 := numS_lt (t := 2) (fun f h => (hf f h).1)
  have hn3 := numS_lt (t := 3) (fun f h => (hf f h).1)
  have hgk : g ≠ k := by rintro rfl; rw [hk] at hg; cases hg
  have hc1 := fun (G : AH) (h : G k = some (opC 0 L)) => onum_calls (tag := 1) hL h
  have hil : ((allO decV (manyT L 5)).getD []).length ≤ 64 := by
    have := many_len L 5
    cases h : allO decV (manyT L 5) with
    | none => simp
    | some r => have := (allO_all (P := fun _ => True) (fun _ _ _ => trivial) h).1; simp only [Option.getD_some]; omega
  unfold openE openD
  rw [hn] at hc1 ⊢
  simp only
  refine acalls Tryz.func81 c81 r81 (by simp [Tryz.ntmps81]) ?_
  repeat' (first|with_reducible refine go0 ?_|(with_reducible refine am_cnd ?_ ?_<;>intro hc<;>try (exfalso;omega))|((first|with_reducible (first|refine go1 ?_|refine vc_intro ?_|refine need_el ?_|refine vlen_a ?_|refine need_by ?_|refine call_turn (hc1 _ (look_put hk hko)) ?_|refine call_turn (oitems_calls (tag:=5) hL hb hd (AH.put_same _ _ _) (look_ne hgk (look_put hg hko))) ?_|refine call_of (list_calls (t:=.no) (by omega)) ?_|refine qcall_of (list_calls (t:=.no) (by omega)) ?_|refine need_lk ?_)|((with_reducible refine alloc_intro (fun ko hko=>?_))<;>(try have hne:=fresh_ne (by assumption) hko)<;>(try have hnk:=fresh_ne hk hko)<;>(try simp only [AH.put_none] at hko))|done)<;>(try simp -implicitDefEqProofs (disch:=omega) only [go_sem,AH.put_put,Int.natCast_inj])))
  all_goals exact ⟨⟨_,rfl,fun _ _ h => h⟩,ov_le hko hnk⟩
theorem ov7 {H : AH} {k g : Nat} {L : List Fld} (hL : L.length ≤ 64) (hf : ∀ f ∈ L,f.n < 18446744073709551616 ∧ f.b.length ≤ 4096) (hd : ∀ f ∈ L,DecOk f.b) (hk : H k = some (opC 0 L)) (hg : H g = some .nodr) (hn : (numS L 1).1 = 7) : OvAt H k L := by
  refine ACalls.dropG ?_
  have hb : ∀ f ∈ L,f.b.length ≤ 4096 := fun f h => (hf f h).2
  have hn2 := numS_lt (t := 2) (fun f h => (hf f h).1)
  have hn3 := numS_lt (t := 3) (fun f h => (hf f h).1)
  have hgk : g ≠ k := by rintro rfl; rw [hk] at hg; cases hg
  have hc1 := fun (G : AH) (h : G k = some (opC 0 L)) => onum_calls (tag := 1) hL h
  unfold openE openD
  rw [hn] at hc1 ⊢
  simp only
  refine acalls Tryz.func81 c81 r81 (by simp [Tryz.ntmps81]) ?_
  repeat' (first|with_reducible refine go0 ?_|(with_reducible refine am_cnd ?_ ?_<;>intro hc<;>try (exfalso;omega))|((first|with_reducible (first|refine go1 ?_|refine vc_intro ?_|refine need_el ?_|refine vlen_a ?_|refine need_by ?_|refine call_turn (hc1 _ (look_put hk hko)) ?_|refine call_turn (otable_calls hL hb hd (AH.put_same _ _ _) (look_ne hgk (look_put hg hko))) ?_|refine need_lk ?_)|((with_reducible refine alloc_intro (fun ko hko=>?_))<;>(try have hne:=fresh_ne (by assumption) hko)<;>(try have hnk:=fresh_ne hk hko)<;>(try simp only [AH.put_none] at hko))|done)<;>(try simp -implicitDefEqProofs (disch:=omega) only [go_sem,AH.put_put,Int.natCast_inj])))
  all_goals exact ⟨⟨_,rfl,fun _ _ h => h⟩,ov_le hko hnk⟩
theorem ovalue_calls {H : AH} {k g : Nat} {L : List Fld} (hL : L.length ≤ 64) (hf : ∀ f ∈ L,f.n < 18446744073709551616 ∧ f.b.length ≤ 4096) (hd : ∀ f ∈ L,DecOk f.b) (hk : H k = some (opC 0 L)) (hg : H g = some .nodr) : OvAt H k L := by
  by_cases h0 : (numS L 1).1 = 0
  · exact ov0 hL hf hd hk hg h0
  · by_cases h1 : (numS L 1).1 = 1
    · exact ov1 hL hf hd hk hg h1
    · by_cases h2 : (numS L 1).1 = 2
      · exact ov2 hL hf hd hk hg h2
      · by_cases h3 : (numS L 1).1 = 3
        · exact ov3 hL hf hd hk hg h3
        · by_cases h4 : (numS L 1).1 = 4
          · exact ov4 hL hf hd hk hg h4
          · by_cases h5 : (numS L 1).1 = 5
            · exact ov5 hL hf hd hk hg h5
            · by_cases h6 : (numS L 1).1 = 6
              · exact ov6 hL hf hd hk hg h6
              · by_cases h7 : (numS L 1).1 = 7
                · exact ov7 hL hf hd hk hg h7
                · exact ov9 hL hf hd hk hg (by omega)
end Go.Proofs.YtkldmgnhbomknaaGreat
namespace Go.Proofs.YtkldmgnhbomknaaGreat
open Go.Vm
attribute [local go_sem] eq_self decide_true decide_false AH.put_ne
attribute [local go_sem_proc] Nat.reduceBEq Nat.reduceAdd Nat.reduceSub Nat.reduceMul Nat.reduceEqDiff Nat.reduceLeDiff Nat.reduceLT Int.reduceLE Int.reduceLT Int.reduceToNat Int.reduceAdd Int.reduceEq Int.reduceNeg
attribute [local go_sem] vE_length byteCells_get byteCells_length byteCells_take byteCells_drop bytes_cells bytesOf_cells fldC fldsE_get fldsE_length List.drop_zero toNat_succ Nat.sub_zero Int.toNat_natCast Option.map_some Int.natCast_nonneg decide_eq_true_eq decide_eq_false_iff_not
/- flange/pack.Decode -/
abbrev k62_0 : MC :=
 .cond (.t 17) ((.seq (.reg [
 ⟨some 18,none,.call 47 []⟩,
 ⟨none,none,.store 1 (.t 2) (.t 18)⟩,
 vl 3 (.mv (.c (.int .i64 4)))] [2,3]) (.ret))) (.skip)
abbrev k62_1 : MC :=
 .cond (.t 45) ((.seq (.reg [
 ⟨some 46,none,.call 47 []⟩,
 ⟨none,none,.store 1 (.t 2) (.t 46)⟩,
 vl 3 (.mv (.c (.int .i64 4)))] [2,3]) (.ret))) (.skip)
abbrev k62_2 : MC :=
 (.seq (.reg [
 vl 47 (.load true 1 (.t 8)),
 ⟨none,none,.store 1 (.t 2) (.t 47)⟩,
 vl 3 (.mv (.c (.int .i64 0)))] [2,3]) (.ret))
abbrev k62_3 : MC :=
 (.seq ((.seq (.reg [
 mv 29 7,
 vl 30 (.nilc (.t 29)),
 vl 31 (.faddr 0 (.t 30)),
 vl 32 (.faddr 0 (.t 31)),
 vl 33 (.load false 1 (.t 32)),
 vl 34 (.bin .neq .num (.t 33) (.c (.int .i64 0))),
 mv 35 34,
 ⟨some 36,(some (35,false)),.val (.mv (.t 6))⟩,
 ⟨some 37,(some (35,false)),.val (.bin .neq .num (.t 36) (.c (.int .i64 0)))⟩,
 vl 38 (.pick (.t 35) (.c (.bool true)) (.t 37)),
 mv 39 38,
 ⟨some 40,(some (39,false)),.val (.mv (.t 9))⟩,
 ⟨some 41,(some (39,false)),.val (.b2s (.t 40))⟩,
 ⟨some 42,(some (39,false)),.val (.mv (.t 0))⟩,
 ⟨some 43,(some (39,false)),.val (.b2s (.t 42))⟩,
 ⟨some 44,(some (39,false)),.val (.bin .neq .num (.t 41) (.t 43))⟩,
 vl 45 (.pick (.t 39) (.c (.bool true)) (.t 44))] [2,8,45]) k62_1)) k62_2)
abbrev k62_4 : MC :=
 (.seq (.reg [
 vl 25 (.load true 1 (.t 8)),
 ⟨some 26,none,.call 52 [(.t 25)]⟩,
 mv 24 26,
 vl 27 (.ext (.t 24) 0),
 vl 28 (.ext (.t 24) 1),
 mv 9 27,
 mv 6 28] [0,2,6,7,8,9]) k62_3)
abbrev k62_5 : MC :=
 (.seq (.reg [
 mv 22 7,
 ⟨some 23,none,.call 81 [(.t 22)]⟩,
 ⟨some 8,none,.zalloc [.nilIface]⟩,
 ⟨none,none,.store 1 (.t 8) (.t 23)⟩] [0,2,7,8]) k62_4)
abbrev k62_6 : MC :=
 (.seq (.reg [
 mv 19 4,
 ⟨some 20,none,.build [(.int .i64 0),.nilSl] [(1,1,(.t 19))]⟩,
 ⟨some 21,none,.box (.t 20)⟩,
 mv 7 21] [0,2,7]) k62_5)
abbrev k62_7 : MC :=
 (.seq ((.seq (.reg [
 mv 16 6,
 vl 17 (.bin .neq .num (.t 16) (.c (.int .i64 0)))] [0,2,4,17]) k62_0)) k62_6)
abbrev k62_8 : MC :=
 (.seq (.reg [
 mv 11 0,
 ⟨some 12,none,.call 59 [(.t 11)]⟩,
 mv 10 12,
 vl 13 (.ext (.t 10) 0),
 vl 14 (.ext (.t 10) 1),
 vl 15 (.ext (.t 10) 2),
 mv 4 13,
 mv 5 14,
 mv 6 15] [0,2,4,6]) k62_7)
abbrev k62 : MC :=
 (.seq (.reg [
 ⟨some 2,none,.zalloc [.nilIface]⟩,
 vl 3 (.mv (.c (.int .i64 0)))] [0,2]) k62_8)
theorem c62 : Tryz.f62.body.bind (mcOf Tryz.prog (List.contains [] ·) (List.getD [([],[0,2]),([],[0,2,4,6]),([],[0,2,4,17]),([],[2,3]),([],[0,2,7]),([],[0,2,7,8]),([],[0,2,6,7,8,9]),([],[2,8,45]),([],[2,3]),([],[2,3])] · ([],[])) 48) = some k62 := by kernel_rfl
theorem r62 : rvsOf Tryz.prog Tryz.f62.results.toList = some [.cell 2 true 1,.tmp 3] := by kernel_rfl
theorem dec_ok : ∀ (n : Nat) (b : List UInt8),b.length ≤ n → b.length < 1000000 → DecOk b := by
  intro n
  induction n using Nat.strongRecOn with
  | _ n ih =>
    intro b hbn hbl g H hg
    refine ACalls.drop ?_
    have dc := fun G => Msg.decode_calls (b := b) (t := .no) (by omega) G
    have hgo : ∀ q,H q = none → g ≠ q := fun q h => fresh_ne hg h
    have hdv := decV_eq b
    by_cases hz : (decS b).2.2 = 0
    · obtain ⟨_,hL,_,h4⟩ := enc_dec hz
      have h5 : b.length ≤ 4096 := by
        refine Decidable.byContradiction fun h9 => ?_
        rw [decS,if_pos (by omega)] at hz; cases hz
      have hf : ∀ f ∈ (decS b).1,f.n < 18446744073709551616 ∧ f.b.length ≤ 4096 := fun f hf => ⟨(h4 f hf).1,Nat.le_trans (h4 f hf).2 h5⟩
      have hd : ∀ f ∈ (decS b).1,DecOk f.b := fun f hf => ih f.b.length (by have := dec_lt hz f hf; omega) f.b (Nat.le_refl _) (by have := dec_lt hz f hf; omega)
      have hfine : Fine (openD decV (decS b).1).1 := fine_open (fun x v h => decV_fine _ x (Nat.le_refl _) v h) hL hf
      have hbad := openE_bad decV (decS b).1
      rw [if_neg (by rw [hz]; simp)] at hdv
      have ovc := fun (k : Nat) (G : AH) (h1 : G k = some (opC 0 (decS b).1)) (h2 : G g = some .nodr) => ovalue_calls hL hf hd h1 h2
      unfold OvAt at ovc
      have hec := fun (G : AH) (h : G g = some .nodr) => enc_ok (mOf (openD decV (decS b).1).1) hfine.2 (openD decV (decS b).1).1 (sm_mOf _ hfine.1) hfine.1 g G h
      rw [hz] at dc
      generalize (decS b).1 = L at *
      generalize (openD decV L).1 = v at *
      generalize (openD decV L).2 = bad at *
      generalize openE decV L = e at *
      have hel := encM_len (mOf v)
      generalize hE : encM (mOf v) = E at *
      obtain ⟨c,e2⟩ := E
      simp only at hec hel
      refine acalls Tryz.func62 c62 r62 (by simp [Tryz.ntmps62]) ?_
      refine am_seq ?_
      refine am_reg ?_
      simp -implicitDefEqProofs (disch := omega) only [go_sem]
      refine alloc_intro (fun kr hkr => ?_)
      repeat' (first|with_reducible refine go0 ?_|(with_reducible refine am_cnd ?_ ?_<;>intro hc<;>try (exfalso;omega))|((first|with_reducible (first|refine go1 ?_|refine vc_intro ?_|refine need_el ?_|refine vlen_a ?_|refine need_by ?_|refine call_of (dc) ?_|refine qcall_of (dc) ?_|refine need_lk ?_)|((with_reducible (first|apply gd_not|apply gd_of|apply gq_not|apply gq_of|apply pickB_of))<;>intro hc<;>(try simp -implicitDefEqProofs (disch:=omega) only [go_sem,hc])<;>(try simp only [reduceCtorEq,bD,beq_iff_eq] at hc)<;>(try (exfalso;omega)))|((with_reducible refine alloc_intro (fun ko hko=>?_))<;>(try have hne:=fresh_ne (by assumption) hko)<;>(try simp only [AH.put_none] at hko))|done)<;>(try simp -implicitDefEqProofs (disch:=omega) only [go_sem])))
      revert ko
      intro k1 hk1
      obtain ⟨n1,n2⟩ := hk1
      refine call_turn (ovc k1 _ (AH.put_same _ _ _) (look_ne (hgo k1 n2) (look_put hg hkr))) ?_
      rw [AH.put_put]
      have a1 : ((H.put kr (.cells [.nilIface])).put k1 (opC e L)) g = some .nodr := look_ne (hgo k1 n2) (look_put hg hkr)
      have a2 : ((H.put kr (.cells [.nilIface])).put k1 (opC e L)) k1 = some (opC e L) := AH.put_same _ _ _
      have a3 : ((H.put kr (.cells [.nilIface])).put k1 (opC e L)) kr = some (.cells [.nilIface]) := look_ne (Ne.symm n1) (AH.put_same _ _ _)
      have a4 : H.le ((H.put kr (.cells [.nilIface])).put k1 (opC e L)) := AH.le_put (AH.le_put (AH.le_refl _) hkr _) n2 _
      generalize ((H.put kr (.cells [.nilIface])).put k1 (opC e L)) = G1 at *
      by_cases he : e = 0
      · have hb9 : bad = false := by
          cases hb : bad with
          | false => rfl
          | true => exact absurd he (hbad.2 hb)
        subst he
        by_cases h2 : e2 = 0
        · subst h2
          by_cases hcb : c = b
          · subst hcb
            rw [if_neg (by rw [hb9]; simp)] at hdv
            rw [hdv]
            repeat' (first|(((with_reducible refine need_look (look_put a3 hko) ?_)<;>(try simp -implicitDefEqProofs (disch:=omega) only [go_sem])))|(((with_reducible refine need_look (look_put a2 hko) ?_)<;>(try simp -implicitDefEqProofs (disch:=omega) only [go_sem,he])))|with_reducible refine go0 ?_|(with_reducible refine am_cnd ?_ ?_<;>intro hc<;>try (exfalso;omega))|((first|with_reducible (first|refine go1 ?_|refine vc_intro ?_|refine need_el ?_|refine vlen_a ?_|refine need_by ?_|refine call_of (munset_calls) ?_|refine qcall_of (munset_calls) ?_|refine call_turn (hec _ (look_put a1 hko)) ?_|refine need_lk ?_)|((with_reducible (first|apply gd_not|apply gd_of|apply gq_not|apply gq_of|apply pickB_of))<;>intro hc<;>(try simp -implicitDefEqProofs (disch:=omega) only [go_sem,hc,bne_self_eq_false])<;>(try simp only [reduceCtorEq,bD,beq_iff_eq] at hc)<;>(try (exfalso;omega)))|((with_reducible refine alloc_intro (fun ko hko=>?_))<;>(try have hne:=fresh_ne (by assumption) hko)<;>(try simp only [AH.put_none] at hko))|done)<;>(try simp -implicitDefEqProofs (disch:=omega) only [go_sem,bne_self_eq_false])))
            all_goals exact drop_end (fun _ _ h => h) (AH.le_put (AH.le_put a4 (none_of_le a4 hko) _) hkr _)
          · rw [if_pos (.inr (by simpa using hcb))] at hdv
            rw [hdv]
            have hcb2 : (c != b) = true := by simpa using hcb
            repeat' (first|(((with_reducible refine need_look (look_put a3 hko) ?_)<;>(try simp -implicitDefEqProofs (disch:=omega) only [go_sem])))|(((with_reducible refine need_look (look_put a2 hko) ?_)<;>(try simp -implicitDefEqProofs (disch:=omega) only [go_sem,he])))|with_reducible refine go0 ?_|(with_reducible refine am_cnd ?_ ?_<;>intro hc<;>try (exfalso;omega))|((first|with_reducible (first|refine go1 ?_|refine vc_intro ?_|refine need_el ?_|refine vlen_a ?_|refine need_by ?_|refine call_of (munset_calls) ?_|refine qcall_of (munset_calls) ?_|refine call_turn (hec _ (look_put a1 hko)) ?_|refine need_lk ?_)|((with_reducible (first|apply gd_not|apply gd_of|apply gq_not|apply gq_of|apply pickB_of))<;>intro hc<;>(try simp -implicitDefEqProofs (disch:=omega) only [go_sem,hc,hcb,hcb2,not_false_eq_true,decide_true])<;>(try simp only [reduceCtorEq,bD,beq_iff_eq] at hc)<;>(try (exfalso;omega)))|((with_reducible refine alloc_intro (fun ko hko=>?_))<;>(try have hne:=fresh_ne (by assumption) hko)<;>(try simp only [AH.put_none] at hko))|done)<;>(try simp -implicitDefEqProofs (disch:=omega) only [go_sem,hcb,hcb2,not_false_eq_true,decide_true])))
            all_goals exact drop_end (fun _ _ h => h) (AH.le_put (AH.le_put a4 (none_of_le a4 hko) _) hkr _)
        · rw [if_pos (.inr (by simp [h2]))] at hdv
          rw [hdv]
          repeat' (first|(((with_reducible refine need_look (look_put a3 hko) ?_)<;>(try simp -implicitDefEqProofs (disch:=omega) only [go_sem])))|(((with_reducible refine need_look (look_put a2 hko) ?_)<;>(try simp -implicitDefEqProofs (disch:=omega) only [go_sem,he])))|with_reducible refine go0 ?_|(with_reducible refine am_cnd ?_ ?_<;>intro hc<;>try (exfalso;omega))|((first|with_reducible (first|refine go1 ?_|refine vc_intro ?_|refine need_el ?_|refine vlen_a ?_|refine need_by ?_|refine call_of (munset_calls) ?_|refine qcall_of (munset_calls) ?_|refine call_turn (hec _ (look_put a1 hko)) ?_|refine need_lk ?_)|((with_reducible (first|apply gd_not|apply gd_of|apply gq_not|apply gq_of|apply pickB_of))<;>intro hc<;>(try simp -implicitDefEqProofs (disch:=omega) only [go_sem,hc,h2])<;>(try simp only [reduceCtorEq,bD,beq_iff_eq] at hc)<;>(try (exfalso;omega)))|((with_reducible refine alloc_intro (fun ko hko=>?_))<;>(try have hne:=fresh_ne (by assumption) hko)<;>(try simp only [AH.put_none] at hko))|done)<;>(try simp -implicitDefEqProofs (disch:=omega) only [go_sem,h2])))
          all_goals exact drop_end (fun _ _ h => h) (AH.le_put (AH.le_put a4 (none_of_le a4 hko) _) hkr _)
      · rw [if_pos (.inl (hbad.1 he))] at hdv
        rw [hdv]
        repeat' (first|(((with_reducible refine need_look (look_put a3 hko) ?_)<;>(try simp -implicitDefEqProofs (disch:=omega) only [go_sem])))|(((with_reducible refine need_look (look_put a2 hko) ?_)<;>(try simp -implicitDefEqProofs (disch:=omega) only [go_sem,he])))|with_reducible refine go0 ?_|(with_reducible refine am_cnd ?_ ?_<;>intro hc<;>try (exfalso;omega))|((first|with_reducible (first|refine go1 ?_|refine vc_intro ?_|refine need_el ?_|refine vlen_a ?_|refine need_by ?_|refine call_of (munset_calls) ?_|refine qcall_of (munset_calls) ?_|refine call_turn (hec _ (look_put a1 hko)) ?_|refine need_lk ?_)|((with_reducible (first|apply gd_not|apply gd_of|apply gq_not|apply gq_of|apply pickB_of))<;>intro hc<;>(try simp -implicitDefEqProofs (disch:=omega) only [go_sem,hc,he])<;>(try simp only [reduceCtorEq,bD,beq_iff_eq] at hc)<;>(try (exfalso;omega)))|((with_reducible refine alloc_intro (fun ko hko=>?_))<;>(try have hne:=fresh_ne (by assumption) hko)<;>(try simp only [AH.put_none] at hko))|done)<;>(try simp -implicitDefEqProofs (disch:=omega) only [go_sem,he])))
        all_goals exact drop_end (fun _ _ h => h) (AH.le_put (AH.le_put a4 (none_of_le a4 hko) _) hkr _)
    · rw [if_pos hz] at hdv
      rw [hdv]
      refine acalls Tryz.func62 c62 r62 (by simp [Tryz.ntmps62]) ?_
      repeat' (first|with_reducible refine go0 ?_|(with_reducible refine am_cnd ?_ ?_<;>intro hc<;>try (exfalso;omega))|((first|with_reducible (first|refine go1 ?_|refine vc_intro ?_|refine need_el ?_|refine vlen_a ?_|refine need_by ?_|refine call_of (dc) ?_|refine qcall_of (dc) ?_|refine call_of (munset_calls) ?_|refine qcall_of (munset_calls) ?_|refine need_lk ?_)|((with_reducible (first|apply gd_not|apply gd_of|apply gq_not|apply gq_of|apply pickB_of))<;>intro hc<;>(try simp -implicitDefEqProofs (disch:=omega) only [go_sem,hc,hz])<;>(try simp only [reduceCtorEq,bD,beq_iff_eq] at hc)<;>(try (exfalso;omega)))|((with_reducible refine alloc_intro (fun ko hko=>?_))<;>(try have hne:=fresh_ne (by assumption) hko)<;>(try simp only [AH.put_none] at hko))|done)<;>(try simp -implicitDefEqProofs (disch:=omega) only [go_sem,hz])))
      all_goals exact drop_end (fun _ _ h => h) (AH.le_put (AH.le_refl _) hko _)
end Go.Proofs.YtkldmgnhbomknaaGreat
