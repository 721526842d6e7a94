/- Contracts of functions of the given program. Conditions: as each theorem says. -/
import Derived.Test.YtkldmgnhbomknaaGreatQZJB
import Derived.Test.YtkldmgnhbomknaaGreatQZKMC
import Derived.Test.YtkldmgnhbomknaaGreatQZKMB
import Derived.Test.YtkldmgnhbomknaaGreatVmV
set_option linter.unusedVariables false
set_option linter.unusedSimpArgs false
namespace Go.Proofs.YtkldmgnhbomknaaGreat
open Go.Vm
attribute [local go_sem] eq_self decide_true decide_false AH.put_ne
attribute [local go_sem_proc] Nat.reduceBEq Nat.reduceAdd Nat.reduceSub Nat.reduceMul Nat.reduceEqDiff Nat.reduceLeDiff Nat.reduceLT Int.reduceLE Int.reduceLT Int.reduceToNat Int.reduceAdd Int.reduceEq Int.reduceNeg
attribute [local go_sem] vE_length byteCells_length fldC fldsE_get fldsE_length List.drop_zero toNat_succ Nat.sub_zero Int.toNat_natCast Option.map_some Int.natCast_nonneg decide_eq_true_eq decide_eq_false_iff_not
/- flange/varint.Zig -/
abbrev k107_0 : MC :=
 (.seq (.reg [
 mv 3 0,
 vl 4 (.i2i .u64 (.t 3)),
 vl 5 (.bin .shl .num (.t 4) (.c (.int .u64 1))),
 mv 6 0,
 vl 7 (.bin .shr .num (.t 6) (.c (.int .u64 63))),
 vl 8 (.i2i .u64 (.t 7)),
 vl 9 (.bin .xor .num (.t 5) (.t 8)),
 mv 2 9] [2]) (.ret))
abbrev k107 : MC :=
 (.seq (.reg [
 vl 2 (.mv (.c (.int .u64 0)))] [0]) k107_0)
theorem c107 : Tryz.f107.body.bind (mcOf Tryz.prog (List.contains [] ·) (List.getD [([],[0]),([],[2])] · ([],[])) 10) = some k107 := by kernel_rfl
theorem r107 : rvsOf Tryz.prog Tryz.f107.results.toList = some [.tmp 2] := by kernel_rfl
/- flange/varint.Zag -/
abbrev k94_0 : MC :=
 (.seq (.reg [
 mv 3 0,
 vl 4 (.bin .shr .num (.t 3) (.c (.int .u64 1))),
 vl 5 (.i2i .i64 (.t 4)),
 mv 6 0,
 vl 7 (.bin .and .num (.t 6) (.c (.int .u64 1))),
 vl 8 (.i2i .i64 (.t 7)),
 vl 9 (.neg (.t 8)),
 vl 10 (.bin .xor .num (.t 5) (.t 9)),
 mv 2 10] [2]) (.ret))
abbrev k94 : MC :=
 (.seq (.reg [
 vl 2 (.mv (.c (.int .i64 0)))] [0]) k94_0)
theorem c94 : Tryz.f94.body.bind (mcOf Tryz.prog (List.contains [] ·) (List.getD [([],[0]),([],[2])] · ([],[])) 11) = some k94 := by kernel_rfl
theorem r94 : rvsOf Tryz.prog Tryz.f94.results.toList = some [.tmp 2] := by kernel_rfl
/- (*flange/pack.failure).fail -/
abbrev k95_0 : MC :=
 .cond (.t 8) (.reg [
 mv 9 0,
 mv 10 1,
 vl 11 (.nilc (.t 9)),
 vl 12 (.faddr 0 (.t 11)),
 ⟨none,none,.store 1 (.t 12) (.t 10)⟩] []) (.skip)
abbrev k95 : MC :=
 (.seq (.reg [
 mv 4 0,
 vl 5 (.nilc (.t 4)),
 vl 6 (.faddr 0 (.t 5)),
 vl 7 (.load false 1 (.t 6)),
 vl 8 (.bin .eql .num (.t 7) (.c (.int .i64 0)))] [0,1,8]) k95_0)
theorem c95 : Tryz.f95.body.bind (mcOf Tryz.prog (List.contains [] ·) (List.getD [([],[0,1,8]),([],[])] · ([],[])) 13) = some k95 := by kernel_rfl
theorem r95 : rvsOf Tryz.prog Tryz.f95.results.toList = some [] := by kernel_rfl
/- (*flange/pack.packer).number -/
abbrev k88 : MC :=
 .drw [
 mv 6 0,
 mv 7 0,
 vl 8 (.nilc (.t 7)),
 vl 9 (.faddr 1 (.t 8)),
 vl 10 (.load false 1 (.t 9)),
 mv 11 1,
 mv 12 2,
 ⟨some 13,none,.call 107 [(.t 12)]⟩,
 ⟨some 14,none,.call 50 [(.t 11),(.t 13)]⟩,
 ⟨some 15,none,.bslice 4 1 [(.int .i64 0),(.bool false),(.int .u64 0),.nilSl] [(0,4,(.t 14))]⟩,
 vl 17 (.nilc (.t 6)),
 vl 18 (.faddr 1 (.t 17))] [
 ⟨some 16,none,.app 4 48 (.t 10) (.t 15)⟩,
 ⟨none,none,.store 1 (.t 18) (.t 16)⟩] []
theorem c88 : Tryz.f88.body.bind (mcOf Tryz.prog (List.contains [] ·) (List.getD [([0,0,0,0,0,0,0,0,0,0,2,0,0,2],[])] · ([],[])) 19) = some k88 := by kernel_rfl
theorem r88 : rvsOf Tryz.prog Tryz.f88.results.toList = some [] := by kernel_rfl
/- flange/message.Num -/
abbrev k50_0 : MC :=
 (.seq (.reg [
 mv 5 0,
 mv 6 1,
 ⟨some 7,none,.build [(.int .i64 0),(.bool false),(.int .u64 0),.nilSl] [(0,1,(.t 5)),(2,1,(.t 6))]⟩,
 ⟨none,none,.store 4 (.t 4) (.t 7)⟩] [4]) (.ret))
abbrev k50 : MC :=
 (.seq (.reg [
 ⟨some 4,none,.zalloc [(.int .i64 0),(.bool false),(.int .u64 0),.nilSl]⟩] [0,1,4]) k50_0)
theorem c50 : Tryz.f50.body.bind (mcOf Tryz.prog (List.contains [] ·) (List.getD [([],[0,1,4]),([],[4])] · ([],[])) 8) = some k50 := by kernel_rfl
theorem r50 : rvsOf Tryz.prog Tryz.f50.results.toList = some [.cell 4 true 4] := by kernel_rfl
theorem zig_calls {n : Int} (h : -9223372036854775808 ≤ n ∧ n < 9223372036854775808) (H : AH) : ACalls Tryz.prog 107 [.int .i64 n] H (fun o H' => o = .ret (.int .u64 (zigN n)) ∧ H' = H) := by
  refine ACalls.drop ?_
  refine acalls Tryz.func107 c107 r107 (by simp [Tryz.ntmps107]) ?_
  repeat' (first|with_reducible refine go0 ?_|(with_reducible refine am_cnd ?_ ?_<;>intro hc<;>try (exfalso;omega))|((first|with_reducible (first|refine go1 ?_|refine vc_intro ?_|refine need_el ?_|refine vlen_a ?_|refine need_by ?_|refine need_lk ?_)|((with_reducible refine alloc_intro (fun ko hko=>?_))<;>(try have hne:=fresh_ne (by assumption) hko)<;>(try simp only [AH.put_none] at hko))|done)<;>(try simp -implicitDefEqProofs (disch:=omega) only [go_sem,bitI,IntKind.bits])))
  all_goals exact end_eq (congrArg (V.int .u64) (zig_bits h)) (AH.le_refl _)
theorem zag_calls {n : Nat} (h : n < 18446744073709551616) (H : AH) : ACalls Tryz.prog 94 [.int .u64 n] H (fun o H' => o = .ret (.int .i64 (zagN n)) ∧ H' = H) := by
  refine ACalls.drop ?_
  refine acalls Tryz.func94 c94 r94 (by simp [Tryz.ntmps94]) ?_
  repeat' (first|with_reducible refine go0 ?_|(with_reducible refine am_cnd ?_ ?_<;>intro hc<;>try (exfalso;omega))|((first|with_reducible (first|refine go1 ?_|refine vc_intro ?_|refine need_el ?_|refine vlen_a ?_|refine need_by ?_|refine need_lk ?_)|((with_reducible refine alloc_intro (fun ko hko=>?_))<;>(try have hne:=fresh_ne (by assumption) hko)<;>(try simp only [AH.put_none] at hko))|done)<;>(try simp -implicitDefEqProofs (disch:=omega) only [go_sem,bitI,IntKind.bits])))
  all_goals exact end_eq (congrArg (V.int .i64) (zag_bits h)) (AH.le_refl _)
theorem num_calls {t : Int} {n : Nat} (H : AH) : ACalls Tryz.prog 50 [.int .i64 t,.int .u64 n] H (fun o H' => o = .ret (.agg (fldC ⟨t,false,n,[]⟩)) ∧ H' = H) := by
  refine ACalls.drop ?_
  refine acalls Tryz.func50 c50 r50 (by simp [Tryz.ntmps50]) ?_
  repeat' (first|with_reducible refine go0 ?_|(with_reducible refine am_cnd ?_ ?_<;>intro hc<;>try (exfalso;omega))|((first|with_reducible (first|refine go1 ?_|refine vc_intro ?_|refine need_el ?_|refine vlen_a ?_|refine need_by ?_|refine need_lk ?_)|((with_reducible refine alloc_intro (fun ko hko=>?_))<;>(try have hne:=fresh_ne (by assumption) hko)<;>(try simp only [AH.put_none] at hko))|done)<;>(try simp -implicitDefEqProofs (disch:=omega) only [go_sem])))
  all_goals (refine drop_end (by (first | exact fun _ _ h => h | (intro s x h; first | exact no_sub _ h | exact nil_no _ h | exact AccP.sub (by assumption) _ _ h | (refine agg_sub rfl ?_ x h; repeat (first | exact .nil | refine .cons (fun _ h => h) ?_ | refine .cons (fun _ h => nil_no _ h) ?_ | refine .cons (fun _ h => no_sub _ h) ?_ | refine .cons (fun _ h => AccP.sub (by assumption) _ _ h) ?_)) | (refine tuple_sub ?_ x h; repeat (first | exact .nil | refine .cons (fun _ h => h) ?_ | refine .cons (fun _ h => nil_no _ h) ?_ | refine .cons (fun _ h => no_sub _ h) ?_ | refine .cons (fun _ h => AccP.sub (by assumption) _ _ h) ?_ | refine .cons (fun _ h => agg_sub rfl (by repeat (first | exact .nil | refine .cons (fun _ h => h) ?_ | refine .cons (fun _ h => nil_no _ h) ?_ | refine .cons (fun _ h => no_sub _ h) ?_ | refine .cons (fun _ h => AccP.sub (by assumption) _ _ h) ?_)) _ h) ?_))))) (by (repeat (first | exact AH.le_refl _ | assumption | exact AccP.le (by assumption) | refine AH.le_put ?_ (by first | assumption | exact none_of_le (by assumption) (by assumption) | exact And.right (by assumption) | exact And.right (And.right (by assumption))) _ | refine AH.le_trans ?_ (AccP.le (by assumption))))))
def Pk (H0 : AH) (kp : Nat) (e : Int) (l : List Fld) (H : AH) : Prop := ∃ v,H kp = some (.cells [.int .i64 e,v]) ∧ AccP H0 4 (fldsE l) v H
theorem Pk.of {H0 H : AH} {kp : Nat} {e : Int} {l : List Fld} {v : V} (hk : H kp = some (.cells [.int .i64 e,v])) (hacc : AccP H0 4 (fldsE l) v H) : Pk H0 kp e l H := ⟨v,hk,hacc⟩
theorem fail_calls {H0 H : AH} {kp : Nat} {e x : Int} {l : List Fld} (h0 : H0 kp = none) (hp : Pk H0 kp e l H) : ACalls Tryz.prog 95 [.ptr kp 0,.int .i64 x] H (fun o H' => ∃ v,o = .ret v ∧ Pk H0 kp (if e = 0 then x else e) l H') := by
  obtain ⟨v,hk,hacc⟩ := hp
  refine acalls Tryz.func95 c95 r95 (by simp [Tryz.ntmps95]) ?_
  by_cases he : e = 0
  · rw [if_pos he]
    repeat' (first|with_reducible refine go0 ?_|(with_reducible refine am_cnd ?_ ?_<;>intro hc<;>try (exfalso;omega))|((first|with_reducible (first|refine go1 ?_|refine vc_intro ?_|refine need_el ?_|refine vlen_a ?_|refine need_by ?_|refine need_lk ?_)|done)<;>(try simp -implicitDefEqProofs (disch:=omega) only [go_sem,he])))
    all_goals exact ⟨_,rfl,v,AH.put_same _ _ _,AccP.turn hacc h0 hk _⟩
  · rw [if_neg he]
    repeat' (first|with_reducible refine go0 ?_|(with_reducible refine am_cnd ?_ ?_<;>intro hc<;>try (exfalso;omega))|((first|with_reducible (first|refine go1 ?_|refine vc_intro ?_|refine need_el ?_|refine vlen_a ?_|refine need_by ?_|refine need_lk ?_)|done)<;>(try simp -implicitDefEqProofs (disch:=omega) only [go_sem,he])))
    all_goals exact ⟨_,rfl,v,hk,hacc⟩
theorem pk_app {H0 H : AH} {kp : Nat} {e : Int} {l : List Fld} {f : Fld} {cs : List V} {v : V} {Q : V → AH → Prop} (h0 : H0 kp = none) (hk : H kp = some (.cells [.int .i64 e,v])) (hacc : AccP H0 4 (fldsE l) v H) (hl : l.length < 1000000000000)
    (hQ : ∀ H',Pk H0 kp e (l ++ [f]) H' → ∀ w,Q w H') (hcs : cs = fldC f := by with_unfolding_all rfl) : vapp H 4 48 [cs] (fun v H' => need (H' kp) (storeC H' 1 kp 1 v Q)) v := by
  subst hcs
  refine vapp_accL hacc (by simp only [fldsE_length,List.length_cons,List.length_nil]; omega) (fun v2 H3 hacc3 hlec3 => ?_)
  have q1 := look_lec hk hlec3
  refine need_look q1 (store_acc hacc3 (by simp) ?_)
  refine hQ _ ⟨v2,AH.put_same _ _ _,?_⟩ _
  rw [fldsE_append]
  exact AccP.turn hacc3 h0 q1 _
theorem pnum_calls {H0 H : AH} {kp : Nat} {e n t : Int} {l : List Fld} (h0 : H0 kp = none) (hp : Pk H0 kp e l H) (hn : -9223372036854775808 ≤ n ∧ n < 9223372036854775808) (hl : l.length < 1000000000000) :
    ACalls Tryz.prog 88 [.ptr kp 0,.int .i64 t,.int .i64 n] H (fun o H' => ∃ v,o = .ret v ∧ Pk H0 kp e (l ++ [⟨t,false,zigN n,[]⟩]) H') := by
  obtain ⟨v,hk,hacc⟩ := hp
  have hnc := fun G => num_calls (t := t) (n := zigN n) G
  simp only [fldC] at hnc
  refine acalls Tryz.func88 c88 r88 (by simp [Tryz.ntmps88]) ?_
  repeat' (first|((with_reducible refine pk_app (f:=⟨t,false,zigN n,[]⟩) h0 hk hacc hl (fun H2 hp w=>?_)))|with_reducible refine go0 ?_|(with_reducible refine am_cnd ?_ ?_<;>intro hc<;>try (exfalso;omega))|((first|with_reducible (first|refine go1 ?_|refine vc_intro ?_|refine need_el ?_|refine vlen_a ?_|refine need_by ?_|refine call_of (zig_calls hn) ?_|refine qcall_of (zig_calls hn) ?_|refine call_of (hnc) ?_|refine qcall_of (hnc) ?_|refine need_lk ?_)|((with_reducible refine alloc_intro (fun ko hko=>?_))<;>(try have hne:=fresh_ne (by assumption) hko)<;>(try have hnk:=fresh_ne hk hko)<;>(try simp only [AH.put_none] at hko))|((with_reducible refine vapp_go ?_ (fun v2 H2 hacc hlec=>?_));· simp only [byteCells_length,List.length_cons,List.length_nil,List.length_map,List.length_append,vE_length,fldsE_length,strE_length];omega)|done)<;>(try simp -implicitDefEqProofs (disch:=omega) only [go_sem])))
  all_goals exact ⟨_,rfl,hp⟩
end Go.Proofs.YtkldmgnhbomknaaGreat
namespace Go.Proofs.YtkldmgnhbomknaaGreat
open Go.Vm
attribute [local go_sem] eq_self decide_true decide_false AH.put_ne
attribute [local go_sem_proc] Nat.reduceBEq Nat.reduceAdd Nat.reduceSub Nat.reduceMul Nat.reduceEqDiff Nat.reduceLeDiff Nat.reduceLT Int.reduceLE Int.reduceLT Int.reduceToNat Int.reduceAdd Int.reduceEq Int.reduceNeg
attribute [local go_sem] vE_length byteCells_length fldC fldsE_get fldsE_length List.drop_zero toNat_succ Nat.sub_zero Int.toNat_natCast Option.map_some Int.natCast_nonneg decide_eq_true_eq decide_eq_false_iff_not
/- (*flange/pack.packer).items -/
abbrev k89_0 : MC :=
 .drw [
 mv 26 0,
 mv 27 0,
 vl 28 (.nilc (.t 27)),
 vl 29 (.faddr 1 (.t 28)),
 vl 30 (.load false 1 (.t 29)),
 mv 31 1,
 mv 32 8,
 ⟨some 33,none,.call 51 [(.t 31),(.t 32)]⟩,
 ⟨some 34,none,.bslice 4 1 [(.int .i64 0),(.bool false),(.int .u64 0),.nilSl] [(0,4,(.t 33))]⟩,
 vl 36 (.nilc (.t 26)),
 vl 37 (.faddr 1 (.t 36))] [
 ⟨some 35,none,.app 4 48 (.t 30) (.t 34)⟩,
 ⟨none,none,.store 1 (.t 37) (.t 35)⟩] [0,1,10,11,12]
abbrev k89_1 : MC :=
 (.seq (.reg [
 mv 21 0,
 vl 22 (.nilc (.t 21)),
 vl 23 (.faddr 0 (.t 22)),
 mv 24 9,
 ⟨some 25,none,.call 95 [(.t 23),(.t 24)]⟩] [0,1,8,10,11,12]) k89_0)
abbrev k89_2 : MC :=
 (.seq (.reg [
 vl 17 (.load true 1 (.t 7)),
 ⟨some 18,none,.call 52 [(.t 17)]⟩,
 mv 16 18,
 vl 19 (.ext (.t 16) 0),
 vl 20 (.ext (.t 16) 1),
 mv 8 19,
 mv 9 20] [0,1,8,9,10,11,12]) k89_1)
abbrev k89_3 : MC :=
 .reg [
 vl 38 (.bin .add .num (.t 12) (.c (.int .i64 1))),
 mv 12 38] [0,1,10,11,12]
abbrev k89_4 : MC :=
 (.seq (.block 1 ((.seq (.reg [
 vl 14 (.iaddr 1 (.t 10) (.t 12)),
 vl 15 (.load true 1 (.t 14)),
 ⟨some 7,none,.zalloc [.nilIface]⟩,
 ⟨none,none,.store 1 (.t 7) (.t 15)⟩] [0,1,7,10,11,12]) k89_2))) k89_3)
abbrev k89_5 : MC :=
 (.seq (.cond (.t 13) (.skip) (.exit 0)) k89_4)
abbrev k89_6 : MC :=
 (.seq (.reg [
 vl 13 (.bin .lss .num (.t 12) (.t 11))] [0,1,10,11,12,13]) k89_5)
abbrev k89_7 : MC :=
 .block 0 (.loop k89_6)
abbrev k89 : MC :=
 (.seq (.reg [
 mv 10 2,
 vl 11 (.len .sl (.t 10)),
 vl 12 (.mv (.c (.int .i64 0)))] [0,1,10,11,12]) k89_7)
theorem c89 : Tryz.f89.body.bind (mcOf Tryz.prog (List.contains [] ·) (List.getD [([],[0,1,10,11,12]),([],[0,1,10,11,12,13]),([],[0,1,7,10,11,12]),([],[0,1,8,9,10,11,12]),([],[0,1,8,10,11,12]),([0,0,0,0,0,0,0,0,0,2,0,0,2],[0,1,10,11,12]),([],[0,1,10,11,12])] · ([],[])) 39) = some k89 := by kernel_rfl
theorem r89 : rvsOf Tryz.prog Tryz.f89.results.toList = some [] := by kernel_rfl
/- (*flange/pack.packer).value -/
abbrev k70_0 : MC :=
 .cond (.t 38) (.reg [
 vl 4 (.mv (.c (.int .u64 1)))] [0,4]) (.skip)
abbrev k70_1 : MC :=
 (.seq (.reg [
 mv 38 5] [0,4,38]) k70_0)
abbrev k70_2 : MC :=
 .drw [
 mv 39 0,
 mv 40 0,
 vl 41 (.nilc (.t 40)),
 vl 42 (.faddr 1 (.t 41)),
 vl 43 (.load false 1 (.t 42)),
 mv 44 4,
 ⟨some 45,none,.call 50 [(.c (.int .i64 2)),(.t 44)]⟩,
 ⟨some 46,none,.bslice 4 1 [(.int .i64 0),(.bool false),(.int .u64 0),.nilSl] [(0,4,(.t 45))]⟩,
 vl 48 (.nilc (.t 39)),
 vl 49 (.faddr 1 (.t 48))] [
 ⟨some 47,none,.app 4 48 (.t 43) (.t 46)⟩,
 ⟨none,none,.store 1 (.t 49) (.t 47)⟩] []
abbrev k70_3 : MC :=
 (.seq ((.seq (.reg [
 vl 34 (.load true 1 (.t 3)),
 ⟨some 35,none,.call 32 [(.t 34)]⟩,
 mv 33 35,
 vl 36 (.ext (.t 33) 0),
 vl 37 (.ext (.t 33) 1),
 mv 5 36,
 mv 6 37] [0,4,5]) k70_1)) k70_2)
abbrev k70_4 : MC :=
 .reg [
 mv 57 0,
 mv 58 7,
 ⟨some 59,none,.call 88 [(.t 57),(.c (.int .i64 2)),(.t 58)]⟩] []
abbrev k70_5 : MC :=
 .reg [
 mv 71 0,
 mv 72 10,
 ⟨some 73,none,.call 88 [(.t 71),(.c (.int .i64 3)),(.t 72)]⟩] []
abbrev k70_6 : MC :=
 (.seq (.reg [
 mv 68 0,
 mv 69 9,
 ⟨some 70,none,.call 88 [(.t 68),(.c (.int .i64 2)),(.t 69)]⟩] [0,10]) k70_5)
abbrev k70_7 : MC :=
 .drw [
 mv 81 0,
 mv 82 0,
 vl 83 (.nilc (.t 82)),
 vl 84 (.faddr 1 (.t 83)),
 vl 85 (.load false 1 (.t 84)),
 mv 86 12,
 ⟨some 87,none,.s2b (.t 86)⟩,
 ⟨some 88,none,.call 51 [(.c (.int .i64 4)),(.t 87)]⟩,
 ⟨some 89,none,.bslice 4 1 [(.int .i64 0),(.bool false),(.int .u64 0),.nilSl] [(0,4,(.t 88))]⟩,
 vl 91 (.nilc (.t 81)),
 vl 92 (.faddr 1 (.t 91))] [
 ⟨some 90,none,.app 4 48 (.t 85) (.t 89)⟩,
 ⟨none,none,.store 1 (.t 92) (.t 90)⟩] []
abbrev k70_8 : MC :=
 .drw [
 mv 108 0,
 mv 109 0,
 vl 110 (.nilc (.t 109)),
 vl 111 (.faddr 1 (.t 110)),
 vl 112 (.load false 1 (.t 111)),
 mv 113 15,
 ⟨some 114,none,.s2b (.t 113)⟩,
 ⟨some 115,none,.call 51 [(.c (.int .i64 6)),(.t 114)]⟩,
 ⟨some 116,none,.bslice 4 1 [(.int .i64 0),(.bool false),(.int .u64 0),.nilSl] [(0,4,(.t 115))]⟩,
 vl 118 (.nilc (.t 108)),
 vl 119 (.faddr 1 (.t 118))] [
 ⟨some 117,none,.app 4 48 (.t 112) (.t 116)⟩,
 ⟨none,none,.store 1 (.t 119) (.t 117)⟩] [0,3,102,103,104]
abbrev k70_9 : MC :=
 .reg [
 vl 120 (.bin .add .num (.t 104) (.c (.int .i64 1))),
 mv 104 120] [0,3,102,103,104]
abbrev k70_10 : MC :=
 (.seq (.block 2 ((.seq (.reg [
 vl 106 (.iaddr 1 (.t 102) (.t 104)),
 vl 107 (.load false 1 (.t 106)),
 mv 15 107] [0,3,15,102,103,104]) k70_8))) k70_9)
abbrev k70_11 : MC :=
 (.seq (.cond (.t 105) (.skip) (.exit 1)) k70_10)
abbrev k70_12 : MC :=
 (.seq (.reg [
 vl 105 (.bin .lss .num (.t 104) (.t 103))] [0,3,102,103,104,105]) k70_11)
abbrev k70_13 : MC :=
 .block 1 (.loop k70_12)
abbrev k70_14 : MC :=
 .reg [
 mv 121 0,
 vl 122 (.load true 1 (.t 3)),
 ⟨some 123,none,.call 36 [(.t 122)]⟩,
 ⟨some 124,none,.call 89 [(.t 121),(.c (.int .i64 7)),(.t 123)]⟩] []
abbrev k70_15 : MC :=
 .cond (.t 99) ((.seq ((.seq (.reg [
 vl 101 (.load true 1 (.t 3)),
 ⟨some 102,none,.call 37 [(.t 101)]⟩,
 vl 103 (.len .sl (.t 102)),
 vl 104 (.mv (.c (.int .i64 0)))] [0,3,102,103,104]) k70_13)) k70_14)) (.skip)
abbrev k70_16 : MC :=
 .cond (.t 93) (.reg [
 mv 95 0,
 vl 96 (.load true 1 (.t 3)),
 ⟨some 97,none,.call 36 [(.t 96)]⟩,
 ⟨some 98,none,.call 89 [(.t 95),(.c (.int .i64 5)),(.t 97)]⟩] []) ((.seq (.reg [
 vl 100 (.bin .eql .num (.t 30) (.c (.int .i64 7))),
 mv 99 100] [0,3,99]) k70_15))
abbrev k70_17 : MC :=
 .cond (.t 74) ((.seq (.reg [
 vl 77 (.load true 1 (.t 3)),
 ⟨some 78,none,.call 35 [(.t 77)]⟩,
 mv 76 78,
 vl 79 (.ext (.t 76) 0),
 vl 80 (.ext (.t 76) 1),
 mv 12 79,
 mv 13 80] [0,12]) k70_7)) ((.seq (.reg [
 vl 94 (.bin .eql .num (.t 30) (.c (.int .i64 6))),
 mv 93 94] [0,3,30,93]) k70_16))
abbrev k70_18 : MC :=
 .cond (.t 60) ((.seq (.reg [
 vl 63 (.load true 1 (.t 3)),
 ⟨some 64,none,.call 34 [(.t 63)]⟩,
 mv 62 64,
 vl 65 (.ext (.t 62) 0),
 vl 66 (.ext (.t 62) 1),
 vl 67 (.ext (.t 62) 2),
 mv 9 65,
 mv 10 66,
 mv 11 67] [0,9,10]) k70_6)) ((.seq (.reg [
 vl 75 (.bin .eql .num (.t 30) (.c (.int .i64 5))),
 mv 74 75] [0,3,30,74]) k70_17))
abbrev k70_19 : MC :=
 .cond (.t 50) ((.seq (.reg [
 vl 53 (.load true 1 (.t 3)),
 ⟨some 54,none,.call 33 [(.t 53)]⟩,
 mv 52 54,
 vl 55 (.ext (.t 52) 0),
 vl 56 (.ext (.t 52) 1),
 mv 7 55,
 mv 8 56] [0,7]) k70_4)) ((.seq (.reg [
 vl 61 (.bin .eql .num (.t 30) (.c (.int .i64 4))),
 mv 60 61] [0,3,30,60]) k70_18))
abbrev k70_20 : MC :=
 .cond (.t 31) ((.seq (.reg [
 vl 4 (.mv (.c (.int .u64 0)))] [0,3,4]) k70_3)) ((.seq (.reg [
 vl 51 (.bin .eql .num (.t 30) (.c (.int .i64 3))),
 mv 50 51] [0,3,30,50]) k70_19))
abbrev k70_21 : MC :=
 .block 0 ((.seq (.reg [
 vl 32 (.bin .eql .num (.t 30) (.c (.int .i64 2))),
 mv 31 32] [0,3,30,31]) k70_20))
abbrev k70_22 : MC :=
 (.seq (.reg [
 vl 29 (.load true 1 (.t 3)),
 ⟨some 30,none,.call 38 [(.t 29)]⟩] [0,3,30]) k70_21)
abbrev k70_23 : MC :=
 (.seq (.drw [
 mv 16 0,
 mv 17 0,
 vl 18 (.nilc (.t 17)),
 vl 19 (.faddr 1 (.t 18)),
 vl 20 (.load false 1 (.t 19)),
 vl 21 (.load true 1 (.t 3)),
 ⟨some 22,none,.call 38 [(.t 21)]⟩,
 vl 23 (.i2i .u64 (.t 22)),
 ⟨some 24,none,.call 50 [(.c (.int .i64 1)),(.t 23)]⟩,
 ⟨some 25,none,.bslice 4 1 [(.int .i64 0),(.bool false),(.int .u64 0),.nilSl] [(0,4,(.t 24))]⟩,
 vl 27 (.nilc (.t 16)),
 vl 28 (.faddr 1 (.t 27))] [
 ⟨some 26,none,.app 4 48 (.t 20) (.t 25)⟩,
 ⟨none,none,.store 1 (.t 28) (.t 26)⟩] [0,3]) k70_22)
abbrev k70 : MC :=
 (.seq (.reg [
 ⟨some 3,none,.boxi (.t 1)⟩] [0,3]) k70_23)
theorem c70 : Tryz.f70.body.bind (mcOf Tryz.prog (List.contains [3] ·) (List.getD [([],[0,3]),([0,0,0,0,0,0,0,0,0,0,2,0,0,2],[0,3]),([],[0,3,30]),([],[0,3,30,31]),([],[0,3,4]),([],[0,4,5]),([],[0,4,38]),([],[0,4]),([0,0,0,0,0,0,0,0,2,0,0,2],[]),([],[0,3,30,50]),([],[0,7]),([],[]),([],[0,3,30,60]),([],[0,9,10]),([],[0,10]),([],[]),([],[0,3,30,74]),([],[0,12]),([0,0,0,0,0,0,0,0,0,2,0,0,2],[]),([],[0,3,30,93]),([],[]),([],[0,3,99]),([],[0,3,102,103,104]),([],[0,3,102,103,104,105]),([],[0,3,15,102,103,104]),([0,0,0,0,0,0,0,0,0,2,0,0,2],[0,3,102,103,104]),([],[0,3,102,103,104]),([],[])] · ([],[])) 125) = some k70 := by kernel_rfl
theorem r70 : rvsOf Tryz.prog Tryz.f70.results.toList = some [] := by kernel_rfl
def EncOk (m : Rv) : Prop := ∀ v,Sm v m → v.Ok → ∀ (g : Nat) (H : AH),H g = some .nodr → ACalls Tryz.prog 52 [.agg [vV v]] H (fun o H' => o = .ret (.tuple [.sl 1 (byteCells (encM m).1) .no,.int .i64 (encM m).2]) ∧ H' = H)
def errF (e : Int) (l : List (List UInt8 × Int)) : Int := l.foldl (fun a p => if a = 0 then p.2 else a) e
theorem Pk.new {H0 H : AH} {kp ko : Nat} {e : Int} {l : List Fld} (h : Pk H0 kp e l H) (hko : H ko = none) (o : AObj) : Pk H0 kp e l (H.put ko o) := by
  obtain ⟨v,hk,hacc⟩ := h
  exact ⟨v,look_put hk hko,hacc.new hko _⟩
theorem Pk.le {H0 H : AH} {kp : Nat} {e : Int} {l : List Fld} (h : Pk H0 kp e l H) : H0.le H := by
  obtain ⟨v,hk,hacc⟩ := h
  exact hacc.le
abbrev bF (tag : Int) (p : List UInt8 × Int) : Fld := ⟨tag,true,0,p.1⟩
theorem pitems_calls {H0 H : AH} {kp g : Nat} {e tag : Int} {l : List Fld} {vs : List Vl} {L : List Rv} (h0 : H0 kp = none) (hp : Pk H0 kp e l H) (hg0 : H0 g = some .nodr) (hvl : vs.length = L.length) (hL : L.length ≤ 64) (hll : l.length ≤ 1000)
    (hs : ∀ i (h : i < vs.length) (h2 : i < L.length),Sm vs[i] L[i]) (ho : ∀ x ∈ vs,x.Ok) (ih : ∀ x ∈ L,EncOk x) :
    ACalls Tryz.prog 89 [.ptr kp 0,.int .i64 tag,.sl 1 (vE vs) .no] H (fun o H' => ∃ v,o = .ret v ∧ Pk H0 kp (errF e (L.map encM)) (l ++ (L.map encM).map (bF tag)) H') := by
  refine acalls Tryz.func89 c89 r89 (by simp [Tryz.ntmps89]) ?_
  repeat' (first|with_reducible refine go0 ?_|(with_reducible refine am_cnd ?_ ?_<;>intro hc<;>try (exfalso;omega))|((first|with_reducible (first|refine go1 ?_|refine vc_intro ?_|refine need_el ?_|refine vlen_a ?_|refine need_by ?_|refine need_lk ?_)|((with_reducible refine alloc_intro (fun ko hko=>?_))<;>(try have hne:=fresh_ne (by assumption) hko)<;>(try have hnk2:=fresh_ne hk2 hko)<;>(try simp only [AH.put_none] at hko))|((with_reducible refine vapp_go ?_ (fun v2 H2 hacc hlec=>?_));· simp only [byteCells_length,List.length_cons,List.length_nil,List.length_map,List.length_append,vE_length,fldsE_length,strE_length];omega)|done)<;>(try simp -implicitDefEqProofs (disch:=omega) only [go_sem,wrap_id])))
  refine am_loop (fun n st H' => ∃ i : Nat,i + n = L.length ∧ st = [(0,.ptr kp 0),(1,.int .i64 tag),(10,.sl 1 (vE vs) .no),(11,.int .i64 vs.length),(12,.int .i64 i)] ∧ Pk H0 kp (errF e ((L.take i).map encM)) (l ++ ((L.take i).map encM).map (bF tag)) H') ?_ L.length ⟨0,by omega,rfl,by simpa [errF] using hp⟩
  rintro n st G ⟨i,hi,rfl,hpk⟩
  by_cases hlt : i < L.length
  · have hlt1 : i < vs.length := by omega
    have hc1 := ih L[i] (List.getElem_mem hlt) vs[i] (hs i hlt1 hlt) (ho _ (List.getElem_mem hlt1))
    have e0 : (L.take (i + 1)).map encM = (L.take i).map encM ++ [encM L[i]] := by rw [List.take_succ_eq_append_getElem hlt,List.map_append]; rfl
    have hge := hpk.le _ _ hg0
    have hbl := encM_len L[i]
    have hll2 : (l ++ ((L.take i).map encM).map (bF tag)).length < 1000000000000 := by simp only [List.length_append,List.length_map,List.length_take]; omega
    have hget := vE_get hlt1
    generalize vs[i] = x at *
    generalize L[i] = m at *
    have hb := fun G => Msg.blob_calls (t := tag) (l := (encM m).1) (k := .no) (by omega) G
    simp only [fldC] at hb
    repeat' (first|(((with_reducible refine call_ex (fail_calls h0 (Pk.new hpk hko _)) (fun w H2 hr=>?_));obtain ⟨v2,hk2,hacc2⟩:=hr))|((with_reducible refine pk_app (f:=⟨tag,true,0,(encM m).1⟩) h0 hk2 hacc2 hll2 (fun H3 hp3 w3=>?_)))|with_reducible refine go0 ?_|(with_reducible refine am_cnd ?_ ?_<;>intro hc<;>try (exfalso;omega))|((first|with_reducible (first|refine go1 ?_|refine vc_intro ?_|refine need_el ?_|refine vlen_a ?_|refine need_by ?_|refine call_turn (hc1 _ _ (look_put hge hko)) ?_|refine call_of (hb) ?_|refine qcall_of (hb) ?_|refine need_lk ?_)|((with_reducible refine alloc_intro (fun ko hko=>?_))<;>(try have hne:=fresh_ne (by assumption) hko)<;>(try have hnk2:=fresh_ne hk2 hko)<;>(try simp only [AH.put_none] at hko))|((with_reducible refine vapp_go ?_ (fun v2 H2 hacc hlec=>?_));· simp only [byteCells_length,List.length_cons,List.length_nil,List.length_map,List.length_append,vE_length,fldsE_length,strE_length];omega)|done)<;>(try simp -implicitDefEqProofs (disch:=omega) only [go_sem,wrap_id,vE_length,hget])))
    all_goals refine ⟨n - 1,by omega,i + 1,by omega,rfl,?_⟩
    rw [e0,errF,List.foldl_append,List.map_append,← List.append_assoc]
    exact hp3
  · rw [List.take_of_length_le (by omega)] at hpk
    repeat' (first|with_reducible refine go0 ?_|(with_reducible refine am_cnd ?_ ?_<;>intro hc<;>try (exfalso;omega))|((first|with_reducible (first|refine go1 ?_|refine vc_intro ?_|refine need_el ?_|refine vlen_a ?_|refine need_by ?_|refine need_lk ?_)|((with_reducible refine alloc_intro (fun ko hko=>?_))<;>(try have hne:=fresh_ne (by assumption) hko)<;>(try have hnk2:=fresh_ne hk2 hko)<;>(try simp only [AH.put_none] at hko))|((with_reducible refine vapp_go ?_ (fun v2 H2 hacc hlec=>?_));· simp only [byteCells_length,List.length_cons,List.length_nil,List.length_map,List.length_append,vE_length,fldsE_length,strE_length];omega)|done)<;>(try simp -implicitDefEqProofs (disch:=omega) only [go_sem,wrap_id])))
    all_goals exact ⟨_,rfl,hpk⟩
end Go.Proofs.YtkldmgnhbomknaaGreat
