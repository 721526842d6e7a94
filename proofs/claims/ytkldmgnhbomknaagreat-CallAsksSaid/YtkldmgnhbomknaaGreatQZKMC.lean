/- Contracts of functions of the given program. Conditions: as each theorem says. -/
import Derived.Test.YtkldmgnhbomknaaGreatQZKMA
import Derived.Test.YtkldmgnhbomknaaGreatN1
import Derived.Test.YtkldmgnhbomknaaGreatVmV
set_option linter.unusedVariables false
set_option linter.unusedSimpArgs false
namespace Go.Proofs.YtkldmgnhbomknaaGreat.Msg
open Go.Vm
attribute [local go_sem] eq_self decide_true decide_false AH.put_ne
attribute [local go_sem_proc] Nat.reduceBEq Nat.reduceAdd Nat.reduceSub Nat.reduceMul Nat.reduceEqDiff Nat.reduceLeDiff Nat.reduceLT Int.reduceLE Int.reduceLT Int.reduceToNat Int.reduceAdd Int.reduceEq Int.reduceNeg
attribute [local go_sem] byteCells_get byteCells_length byteCells_take byteCells_drop bytes_cells fldC fldsE_get fldsE_length blobsE_get blobsE_length u64sE_length u64sE_get List.drop_zero bytesOf_cells toNat_succ Nat.sub_zero Int.toNat_natCast Option.map_some Int.natCast_nonneg decide_eq_true_eq decide_eq_false_iff_not
/- flange/message.Many -/
abbrev k80_0 : MC :=
 .cond (.t 21) (.reg [
 mv 22 5,
 vl 23 (.faddr 3 (.t 7)),
 vl 24 (.load false 1 (.t 23)),
 ⟨some 25,none,.call 68 [(.t 24)]⟩,
 ⟨some 26,none,.bslice 1 1 [.nilSl] [(0,1,(.t 25))]⟩,
 ⟨some 27,none,.app 1 24 (.t 22) (.t 26)⟩,
 mv 5 27] [1,5,8,9,10]) (.skip)
abbrev k80_1 : MC :=
 (.seq (.reg [
 vl 14 (.faddr 0 (.t 7)),
 vl 15 (.load false 1 (.t 14)),
 mv 16 1,
 vl 17 (.bin .eql .num (.t 15) (.t 16)),
 mv 18 17,
 ⟨some 19,(some (18,true)),.val (.faddr 1 (.t 7))⟩,
 ⟨some 20,(some (18,true)),.val (.load false 1 (.t 19))⟩,
 vl 21 (.pick (.t 18) (.t 20) (.c (.bool false)))] [1,5,7,8,9,10,21]) k80_0)
abbrev k80_2 : MC :=
 .reg [
 vl 28 (.bin .add .num (.t 10) (.c (.int .i64 1))),
 mv 10 28] [1,5,8,9,10]
abbrev k80_3 : MC :=
 (.seq (.block 1 ((.seq (.reg [
 vl 12 (.iaddr 4 (.t 8) (.t 10)),
 vl 13 (.load true 4 (.t 12)),
 ⟨some 7,none,.zalloc [(.int .i64 0),(.bool false),(.int .u64 0),.nilSl]⟩,
 ⟨none,none,.store 4 (.t 7) (.t 13)⟩] [1,5,7,8,9,10]) k80_1))) k80_2)
abbrev k80_4 : MC :=
 (.seq (.cond (.t 11) (.skip) (.exit 0)) k80_3)
abbrev k80_5 : MC :=
 (.seq (.reg [
 vl 11 (.bin .lss .num (.t 10) (.t 9))] [1,5,8,9,10,11]) k80_4)
abbrev k80_6 : MC :=
 .block 0 (.loop k80_5)
abbrev k80_7 : MC :=
 (.seq (.reg [
 mv 29 5,
 mv 4 29] [4]) (.ret))
abbrev k80_8 : MC :=
 (.seq ((.seq (.reg [
 mv 8 0,
 vl 9 (.len .sl (.t 8)),
 vl 10 (.mv (.c (.int .i64 0)))] [1,5,8,9,10]) k80_6)) k80_7)
abbrev k80_9 : MC :=
 (.seq (.reg [
 vl 5 (.mv (.c .nilSl))] [0,1,5]) k80_8)
abbrev k80 : MC :=
 (.seq (.reg [
 vl 4 (.mv (.c .nilSl))] [0,1]) k80_9)
theorem c80 : Tryz.f80.body.bind (mcOf Tryz.prog (List.contains [] ·) (List.getD [([],[0,1]),([],[0,1,5]),([],[1,5,8,9,10]),([],[1,5,8,9,10,11]),([],[1,5,7,8,9,10]),([],[1,5,7,8,9,10,21]),([],[1,5,8,9,10]),([],[1,5,8,9,10]),([],[4])] · ([],[])) 30) = some k80 := by kernel_rfl
theorem r80 : rvsOf Tryz.prog Tryz.f80.results.toList = some [.tmp 4] := by kernel_rfl
/- flange/message.Bytes -/
abbrev k61_0 : MC :=
 .cond (.t 12) ((.seq (.reg [
 vl 4 (.mv (.c .nilSl)),
 vl 5 (.mv (.c (.bool false)))] [4,5]) (.ret))) (.skip)
abbrev k61_1 : MC :=
 (.seq (.reg [
 mv 13 6,
 vl 14 (.iaddr 1 (.t 13) (.c (.int .i64 0))),
 vl 15 (.load false 1 (.t 14)),
 mv 4 15,
 vl 5 (.mv (.c (.bool true)))] [4,5]) (.ret))
abbrev k61_2 : MC :=
 (.seq ((.seq (.reg [
 mv 10 6,
 vl 11 (.len .sl (.t 10)),
 vl 12 (.bin .eql .num (.t 11) (.c (.int .i64 0)))] [6,12]) k61_0)) k61_1)
abbrev k61_3 : MC :=
 (.seq (.reg [
 mv 7 0,
 mv 8 1,
 ⟨some 9,none,.call 80 [(.t 7),(.t 8)]⟩,
 mv 6 9] [6]) k61_2)
abbrev k61 : MC :=
 (.seq (.reg [
 vl 4 (.mv (.c .nilSl)),
 vl 5 (.mv (.c (.bool false)))] [0,1]) k61_3)
theorem c61 : Tryz.f61.body.bind (mcOf Tryz.prog (List.contains [] ·) (List.getD [([],[0,1]),([],[6]),([],[6,12]),([],[4,5]),([],[4,5])] · ([],[])) 16) = some k61 := by kernel_rfl
theorem r61 : rvsOf Tryz.prog Tryz.f61.results.toList = some [.tmp 4,.tmp 5] := by kernel_rfl
theorem many_calls {l : List Fld} {t : Tok} {tag : Int} (hl : l.length < 1000000) (hb : ∀ f ∈ l,f.b.length < 100000000) (H : AH) :
    ACalls Tryz.prog 80 [.sl 4 (fldsE l) t,.int .i64 tag] H (fun o H' => o = .ret (.sl 1 (blobsE (manyT l tag)) .no) ∧ H' = H) := by
  refine acc_pure ?_
  refine acalls Tryz.func80 c80 r80 (by simp [Tryz.ntmps80]) ?_
  repeat' (first|with_reducible refine go0 ?_|(with_reducible refine am_cnd ?_ ?_<;>intro hc<;>try (exfalso;omega))|((first|with_reducible (first|refine go1 ?_|refine vc_intro ?_|refine need_el ?_|refine vlen_a ?_|refine need_by ?_|refine need_lk ?_)|((with_reducible (first|apply gd_not|apply gd_of|apply gq_not|apply gq_of|apply pickB_of))<;>intro hc<;>(try simp -implicitDefEqProofs (disch:=omega) only [go_sem,hc,wrap_id])<;>(try simp only [reduceCtorEq,bD,beq_iff_eq] at hc)<;>(try (exfalso;omega)))|((with_reducible refine alloc_intro (fun ko hko=>?_))<;>(try have hne:=fresh_ne (by assumption) hko)<;>(try simp only [AH.put_none] at hko))|((with_reducible refine vapp_go ?_ (fun v2 H2 hacc hlec=>?_));· simp only [byteCells_length,List.length_cons,List.length_nil,List.length_map,List.length_append,fldsE_length,blobsE_length,u64sE_length];omega)|done)<;>(try simp -implicitDefEqProofs (disch:=omega) only [go_sem,wrap_id])))
  refine am_loop (fun n a H' => ∃ (i : Nat) (v : V) (acc : List (List UInt8)),i + n = l.length ∧ a = [(1,.int .i64 tag),(5,v),(8,.sl 4 (fldsE l) t),(9,.int .i64 l.length),(10,.int .i64 i)] ∧ AccP H 1 (blobsE acc) v H' ∧ acc.length ≤ i ∧ manyT l tag = acc ++ manyT (l.drop i) tag) ?_ l.length ⟨0,.nilSl,[],by omega,rfl,AccP.nil _ _,by simp,by simp⟩
  rintro n a H' ⟨i,v,acc,hi,rfl,hacc,hal,he⟩
  by_cases hlt : i < l.length
  · have hbb := hb l[i] (List.getElem_mem hlt)
    rw [List.drop_eq_getElem_cons hlt] at he
    have hm : manyT (l[i] :: l.drop (i + 1)) tag = (if (decide (l[i].tag = tag) && l[i].by_) = true then [l[i].b] else []) ++ manyT (l.drop (i + 1)) tag := by
      simp only [manyT,List.filter_cons]; split <;> simp
    rw [hm] at he
    repeat' (first|with_reducible refine go0 ?_|(with_reducible refine am_cnd ?_ ?_<;>intro hc<;>try (exfalso;omega))|((first|with_reducible (first|refine go1 ?_|refine vc_intro ?_|refine need_el ?_|refine vlen_a ?_|refine need_by ?_|refine call_of (clone_calls hbb) ?_|refine qcall_of (clone_calls hbb) ?_|refine need_lk ?_)|((with_reducible (first|apply gd_not|apply gd_of|apply gq_not|apply gq_of|apply pickB_of))<;>intro hc<;>(try simp -implicitDefEqProofs (disch:=omega) only [go_sem,hc,wrap_id,get_of_lt hlt])<;>(try simp only [reduceCtorEq,bD,beq_iff_eq] at hc)<;>(try (exfalso;omega)))|((with_reducible refine alloc_intro (fun ko hko=>?_))<;>(try have hne:=fresh_ne (by assumption) hko)<;>(try simp only [AH.put_none] at hko))|((with_reducible refine vapp_go ?_ (fun v2 H2 hacc hlec=>?_));· simp only [byteCells_length,List.length_cons,List.length_nil,List.length_map,List.length_append,fldsE_length,blobsE_length,u64sE_length];omega)|done)<;>(try simp -implicitDefEqProofs (disch:=omega) only [go_sem,wrap_id,get_of_lt hlt])))
    · have e : (decide (l[i].tag = tag) && l[i].by_) = true := by simp_all
      rw [if_pos e] at he
      exact ⟨n - 1,by omega,i + 1,v2,acc ++ [l[i].b],by omega,by simp,by rw [blobsE_append]; exact hacc,by simp; omega,by rw [he]; simp⟩
    · have e : ¬ (decide (l[i].tag = tag) && l[i].by_) = true := by simp_all
      rw [if_neg e] at he
      exact ⟨n - 1,by omega,i + 1,v,acc,by omega,by simp,hacc.new (by assumption) _,by omega,by rw [he]; simp⟩
    · have e : ¬ (decide (l[i].tag = tag) && l[i].by_) = true := by simp_all
      rw [if_neg e] at he
      exact ⟨n - 1,by omega,i + 1,v,acc,by omega,by simp,hacc.new (by assumption) _,by omega,by rw [he]; simp⟩
  · repeat' (first|with_reducible refine go0 ?_|(with_reducible refine am_cnd ?_ ?_<;>intro hc<;>try (exfalso;omega))|((first|with_reducible (first|refine go1 ?_|refine vc_intro ?_|refine need_el ?_|refine vlen_a ?_|refine need_by ?_|refine need_lk ?_)|((with_reducible (first|apply gd_not|apply gd_of|apply gq_not|apply gq_of|apply pickB_of))<;>intro hc<;>(try simp -implicitDefEqProofs (disch:=omega) only [go_sem,hc,wrap_id])<;>(try simp only [reduceCtorEq,bD,beq_iff_eq] at hc)<;>(try (exfalso;omega)))|((with_reducible refine alloc_intro (fun ko hko=>?_))<;>(try have hne:=fresh_ne (by assumption) hko)<;>(try simp only [AH.put_none] at hko))|((with_reducible refine vapp_go ?_ (fun v2 H2 hacc hlec=>?_));· simp only [byteCells_length,List.length_cons,List.length_nil,List.length_map,List.length_append,fldsE_length,blobsE_length,u64sE_length];omega)|done)<;>(try simp -implicitDefEqProofs (disch:=omega) only [go_sem,wrap_id])))
    rw [List.drop_eq_nil_of_le (by omega)] at he
    rw [show manyT l tag = acc by rw [he]; simp [manyT]]
    exact ⟨_,rfl,hacc⟩
theorem mbytes_calls {l : List Fld} {t : Tok} {tag : Int} (hl : l.length < 1000000) (hb : ∀ f ∈ l,f.b.length < 100000000) (H : AH) :
    ACalls Tryz.prog 61 [.sl 4 (fldsE l) t,.int .i64 tag] H (fun o H' => o = .ret (.tuple [.sl 1 (byteCells (blobT l tag)) .no,.bool (decide (manyT l tag ≠ []))]) ∧ H' = H) := by
  refine ACalls.drop ?_
  refine acalls Tryz.func61 c61 r61 (by simp [Tryz.ntmps61]) ?_
  cases hm : manyT l tag with
  | nil =>
    have c := fun H => many_calls (t := t) (tag := tag) hl hb H
    rw [hm] at c
    repeat' (first|with_reducible refine go0 ?_|(with_reducible refine am_cnd ?_ ?_<;>intro hc<;>try (exfalso;omega))|((first|with_reducible (first|refine go1 ?_|refine vc_intro ?_|refine need_el ?_|refine vlen_a ?_|refine need_by ?_|refine call_of (c) ?_|refine qcall_of (c) ?_|refine need_lk ?_)|done)<;>(try simp -implicitDefEqProofs (disch:=omega) only [go_sem,wrap_id])))
    rw [show blobT l tag = [] by simp [blobT,hm]]
    (refine drop_end (by (first | exact fun _ _ h => h | (intro s x h; first | exact no_sub _ h | exact nil_no _ h | exact AccP.sub (by assumption) _ _ h | (refine agg_sub rfl ?_ x h; repeat (first | exact .nil | refine .cons (fun _ h => h) ?_ | refine .cons (fun _ h => nil_no _ h) ?_ | refine .cons (fun _ h => no_sub _ h) ?_ | refine .cons (fun _ h => AccP.sub (by assumption) _ _ h) ?_)) | (refine tuple_sub ?_ x h; repeat (first | exact .nil | refine .cons (fun _ h => h) ?_ | refine .cons (fun _ h => nil_no _ h) ?_ | refine .cons (fun _ h => no_sub _ h) ?_ | refine .cons (fun _ h => AccP.sub (by assumption) _ _ h) ?_ | refine .cons (fun _ h => agg_sub rfl (by repeat (first | exact .nil | refine .cons (fun _ h => h) ?_ | refine .cons (fun _ h => nil_no _ h) ?_ | refine .cons (fun _ h => no_sub _ h) ?_ | refine .cons (fun _ h => AccP.sub (by assumption) _ _ h) ?_)) _ h) ?_))))) (by (repeat (first | exact AH.le_refl _ | assumption | exact AccP.le (by assumption) | refine AH.le_put ?_ (by first | assumption | exact none_of_le (by assumption) (by assumption) | exact And.right (by assumption) | exact And.right (And.right (by assumption))) _ | refine AH.le_trans ?_ (AccP.le (by assumption))))))
  | cons x xs =>
    have c := fun H => many_calls (t := t) (tag := tag) hl hb H
    rw [hm] at c
    repeat' (first|with_reducible refine go0 ?_|(with_reducible refine am_cnd ?_ ?_<;>intro hc<;>try (exfalso;omega))|((first|with_reducible (first|refine go1 ?_|refine vc_intro ?_|refine need_el ?_|refine vlen_a ?_|refine need_by ?_|refine call_of (c) ?_|refine qcall_of (c) ?_|refine need_lk ?_)|done)<;>(try simp -implicitDefEqProofs (disch:=omega) only [go_sem,wrap_id])))
    rw [show blobT l tag = x by simp [blobT,hm]]
    (refine drop_end (by (first | exact fun _ _ h => h | (intro s x h; first | exact no_sub _ h | exact nil_no _ h | exact AccP.sub (by assumption) _ _ h | (refine agg_sub rfl ?_ x h; repeat (first | exact .nil | refine .cons (fun _ h => h) ?_ | refine .cons (fun _ h => nil_no _ h) ?_ | refine .cons (fun _ h => no_sub _ h) ?_ | refine .cons (fun _ h => AccP.sub (by assumption) _ _ h) ?_)) | (refine tuple_sub ?_ x h; repeat (first | exact .nil | refine .cons (fun _ h => h) ?_ | refine .cons (fun _ h => nil_no _ h) ?_ | refine .cons (fun _ h => no_sub _ h) ?_ | refine .cons (fun _ h => AccP.sub (by assumption) _ _ h) ?_ | refine .cons (fun _ h => agg_sub rfl (by repeat (first | exact .nil | refine .cons (fun _ h => h) ?_ | refine .cons (fun _ h => nil_no _ h) ?_ | refine .cons (fun _ h => no_sub _ h) ?_ | refine .cons (fun _ h => AccP.sub (by assumption) _ _ h) ?_)) _ h) ?_))))) (by (repeat (first | exact AH.le_refl _ | assumption | exact AccP.le (by assumption) | refine AH.le_put ?_ (by first | assumption | exact none_of_le (by assumption) (by assumption) | exact And.right (by assumption) | exact And.right (And.right (by assumption))) _ | refine AH.le_trans ?_ (AccP.le (by assumption))))))
end Go.Proofs.YtkldmgnhbomknaaGreat.Msg
namespace Go.Proofs.YtkldmgnhbomknaaGreat.Msg
open Go.Vm
attribute [local go_sem] eq_self decide_true decide_false AH.put_ne
attribute [local go_sem_proc] Nat.reduceBEq Nat.reduceAdd Nat.reduceSub Nat.reduceMul Nat.reduceEqDiff Nat.reduceLeDiff Nat.reduceLT Int.reduceLE Int.reduceLT Int.reduceToNat Int.reduceAdd Int.reduceEq Int.reduceNeg
attribute [local go_sem] strsE_get strsE_length intsE_get intsE_length byteCells_get byteCells_length byteCells_take byteCells_drop bytes_cells fldC fldsE_get fldsE_length blobsE_get blobsE_length u64sE_length u64sE_get List.drop_zero bytesOf_cells toNat_succ Nat.sub_zero Int.toNat_natCast Option.map_some Int.natCast_nonneg decide_eq_true_eq decide_eq_false_iff_not
/- slices.IndexFunc[[]flange/message.Field,flange/message.Field] -/
abbrev k78_0 : MC :=
 .cond (.t 16) ((.seq (.reg [
 mv 17 5,
 mv 4 17] [4]) (.ret))) (.skip)
abbrev k78_1 : MC :=
 (.seq (.reg [
 mv 11 1,
 mv 12 0,
 mv 13 5,
 vl 14 (.iaddr 4 (.t 12) (.t 13)),
 vl 15 (.load true 4 (.t 14)),
 ⟨some 16,none,.callv (.t 11) [(.t 15)]⟩] [0,1,5,7,8,16]) k78_0)
abbrev k78_2 : MC :=
 .reg [
 vl 18 (.bin .add .num (.t 8) (.c (.int .i64 1))),
 mv 8 18] [0,1,7,8]
abbrev k78_3 : MC :=
 (.seq (.block 1 ((.seq (.reg [
 mv 10 8,
 mv 5 10] [0,1,5,7,8]) k78_1))) k78_2)
abbrev k78_4 : MC :=
 (.seq (.cond (.t 9) (.skip) (.exit 0)) k78_3)
abbrev k78_5 : MC :=
 (.seq (.reg [
 vl 9 (.bin .lss .num (.t 8) (.t 7))] [0,1,7,8,9]) k78_4)
abbrev k78_6 : MC :=
 .block 0 (.loop k78_5)
abbrev k78_7 : MC :=
 (.seq (.reg [
 vl 4 (.mv (.c (.int .i64 (-1))))] [4]) (.ret))
abbrev k78_8 : MC :=
 (.seq ((.seq (.reg [
 mv 6 0,
 vl 7 (.len .sl (.t 6)),
 vl 8 (.mv (.c (.int .i64 0)))] [0,1,7,8]) k78_6)) k78_7)
abbrev k78 : MC :=
 (.seq (.reg [
 vl 4 (.mv (.c (.int .i64 0)))] [0,1]) k78_8)
theorem c78 : Tryz.f78.body.bind (mcOf Tryz.prog (List.contains [] ·) (List.getD [([],[0,1]),([],[0,1,7,8]),([],[0,1,7,8,9]),([],[0,1,5,7,8]),([],[0,1,5,7,8,16]),([],[4]),([],[0,1,7,8]),([],[4])] · ([],[])) 19) = some k78 := by kernel_rfl
theorem r78 : rvsOf Tryz.prog Tryz.f78.results.toList = some [.tmp 4] := by kernel_rfl
/- flange/message.Number -/
abbrev k60_0 : MC :=
 .cond (.t 11) ((.seq (.reg [
 vl 4 (.mv (.c (.int .u64 0))),
 vl 5 (.mv (.c (.bool false)))] [4,5]) (.ret))) (.skip)
abbrev k60_1 : MC :=
 (.seq (.reg [
 mv 12 0,
 mv 13 6,
 vl 14 (.iaddr 4 (.t 12) (.t 13)),
 vl 15 (.faddr 2 (.t 14)),
 vl 16 (.load false 1 (.t 15)),
 mv 4 16,
 vl 5 (.mv (.c (.bool true)))] [4,5]) (.ret))
abbrev k60_2 : MC :=
 (.seq ((.seq (.reg [
 mv 10 6,
 vl 11 (.bin .lss .num (.t 10) (.c (.int .i64 0)))] [0,6,11]) k60_0)) k60_1)
abbrev k60_3 : MC :=
 (.seq (.reg [
 mv 7 0,
 vl 8 (.mkfn (.func 79) [] [(.t 3)]),
 ⟨some 9,none,.call 78 [(.t 7),(.t 8)]⟩,
 mv 6 9] [0,6]) k60_2)
abbrev k60 : MC :=
 (.seq (.reg [
 ⟨some 3,none,.box (.t 1)⟩,
 vl 4 (.mv (.c (.int .u64 0))),
 vl 5 (.mv (.c (.bool false)))] [0,3]) k60_3)
theorem c60 : Tryz.f60.body.bind (mcOf Tryz.prog (List.contains [] ·) (List.getD [([],[0,3]),([],[0,6]),([],[0,6,11]),([],[4,5]),([],[4,5])] · ([],[])) 17) = some k60 := by kernel_rfl
theorem r60 : rvsOf Tryz.prog Tryz.f60.results.toList = some [.tmp 4,.tmp 5] := by kernel_rfl
/- flange/message.Number$1 -/
abbrev k79_0 : MC :=
 (.seq (.reg [
 vl 4 (.faddr 0 (.t 2)),
 vl 5 (.load false 1 (.t 4)),
 vl 6 (.load false 1 (.t 1)),
 vl 7 (.bin .eql .num (.t 5) (.t 6)),
 mv 8 7,
 ⟨some 9,(some (8,true)),.val (.faddr 1 (.t 2))⟩,
 ⟨some 10,(some (8,true)),.val (.load false 1 (.t 9))⟩,
 ⟨some 11,(some (8,true)),.val (.not (.t 10))⟩,
 vl 12 (.pick (.t 8) (.t 11) (.c (.bool false))),
 mv 3 12] [3]) (.ret))
abbrev k79 : MC :=
 (.seq (.reg [
 ⟨some 2,none,.boxi (.t 0)⟩,
 vl 3 (.mv (.c (.bool false)))] [1,2]) k79_0)
theorem c79 : Tryz.f79.body.bind (mcOf Tryz.prog (List.contains [2] ·) (List.getD [([],[1,2]),([],[3])] · ([],[])) 13) = some k79 := by kernel_rfl
theorem r79 : rvsOf Tryz.prog Tryz.f79.results.toList = some [.tmp 3] := by kernel_rfl
def idxB {α : Type} (p : α → Bool) : List α → Int → Int
  | [],_ => -1
  | y :: l,i => if p y = true then i else idxB p l (i + 1)
theorem findex_calls {l : List Fld} {t : Tok} {f : Nat} {us ws : List V} {p : Fld → Bool} (hl : l.length < 4611686018427387904) (he : entered Tryz.prog f = true) (H : AH) (hf : ∀ x ∈ l,ACalls Tryz.prog f (us ++ [.agg (fldC x)] ++ ws) H (fun o H' => o = .ret (.bool (p x)) ∧ H' = H)) :
    ACalls Tryz.prog 78 [.sl 4 (fldsE l) t,.func (.func f) us ws] H (fun o H' => o = .ret (.int .i64 (idxB p l 0)) ∧ H' = H) := by
  refine acalls Tryz.func78 c78 r78 (by simp [Tryz.ntmps78]) ?_
  repeat' (first|with_reducible refine go0 ?_|(with_reducible refine am_cnd ?_ ?_<;>intro hc<;>try (exfalso;omega))|((first|with_reducible (first|refine go1 ?_|refine vc_intro ?_|refine need_el ?_|refine vlen_a ?_|refine need_by ?_|refine need_lk ?_)|done)<;>(try simp -implicitDefEqProofs (disch:=omega) only [go_sem,wrap_id])))
  refine am_loop (fun n a H' => ∃ i : Nat,i + n = l.length ∧ a = [(0,.sl 4 (fldsE l) t),(1,.func (.func f) us ws),(7,.int .i64 l.length),(8,.int .i64 i)] ∧ H' = H ∧ idxB p l 0 = idxB p (l.drop i) i) ?_ l.length ⟨0,by simp,by simp,rfl,by simp⟩
  rintro n a H' ⟨i,hi,rfl,rfl,hg⟩
  by_cases hlt : i < l.length
  · rw [List.drop_eq_getElem_cons hlt,idxB] at hg
    repeat' (first|with_reducible refine go0 ?_|(with_reducible refine am_cnd ?_ ?_<;>intro hc<;>try (exfalso;omega))|((first|with_reducible (first|refine go1 ?_|refine vc_intro ?_|refine need_el ?_|refine vlen_a ?_|refine need_by ?_|refine need_lk ?_)|done)<;>(try simp -implicitDefEqProofs (disch:=omega) only [go_sem,wrap_id,get_of_lt hlt])))
    refine call_turn (hf _ (List.getElem_mem hlt)) ?_
    try simp -implicitDefEqProofs (disch := omega) only [go_sem]
    cases hp : p l[i]
    · rw [if_neg (by simp [hp])] at hg
      repeat' (first|with_reducible refine go0 ?_|(with_reducible refine am_cnd ?_ ?_<;>intro hc<;>try (exfalso;omega))|((first|with_reducible (first|refine go1 ?_|refine vc_intro ?_|refine need_el ?_|refine vlen_a ?_|refine need_by ?_|refine need_lk ?_)|done)<;>(try simp -implicitDefEqProofs (disch:=omega) only [go_sem,wrap_id,hp])))
      all_goals exact ⟨n - 1,by omega,i + 1,by omega,by simp,by rw [hg]; rfl⟩
    · rw [if_pos (by simp [hp])] at hg
      repeat' (first|with_reducible refine go0 ?_|(with_reducible refine am_cnd ?_ ?_<;>intro hc<;>try (exfalso;omega))|((first|with_reducible (first|refine go1 ?_|refine vc_intro ?_|refine need_el ?_|refine vlen_a ?_|refine need_by ?_|refine need_lk ?_)|done)<;>(try simp -implicitDefEqProofs (disch:=omega) only [go_sem,wrap_id,hp])))
      all_goals (rw [hg])
  · rw [List.drop_eq_nil_of_le (by omega)] at hg
    repeat' (first|with_reducible refine go0 ?_|(with_reducible refine am_cnd ?_ ?_<;>intro hc<;>try (exfalso;omega))|((first|with_reducible (first|refine go1 ?_|refine vc_intro ?_|refine need_el ?_|refine vlen_a ?_|refine need_by ?_|refine need_lk ?_)|done)<;>(try simp -implicitDefEqProofs (disch:=omega) only [go_sem,wrap_id])))
    all_goals (rw [hg]; try rfl)
theorem number1_calls {x : Fld} {k : Nat} {tag : Int} {H : AH} (hk : H k = some (.cells [.int .i64 tag])) :
    ACalls Tryz.prog 79 [.agg (fldC x),.ptr k 0] H (fun o H' => o = .ret (.bool (decide (x.tag = tag) && !x.by_)) ∧ H' = H) := by
  refine ACalls.drop ?_
  refine acalls Tryz.func79 c79 r79 (by simp [Tryz.ntmps79]) ?_
  repeat' (first|with_reducible refine go0 ?_|(with_reducible refine am_cnd ?_ ?_<;>intro hc<;>try (exfalso;omega))|((first|with_reducible (first|refine go1 ?_|refine vc_intro ?_|refine need_el ?_|refine vlen_a ?_|refine need_by ?_|refine need_lk ?_)|((with_reducible (first|apply gd_not|apply gd_of|apply gq_not|apply gq_of|apply pickB_of))<;>intro hc<;>(try simp -implicitDefEqProofs (disch:=omega) only [go_sem,hc,wrap_id,hk])<;>(try simp only [reduceCtorEq,bD,beq_iff_eq] at hc)<;>(try (exfalso;omega)))|((with_reducible refine alloc_intro (fun ko hko=>?_))<;>(try have hne:=fresh_ne (by assumption) hko)<;>(try have hnk:=fresh_ne hk hko)<;>(try simp only [AH.put_none] at hko))|done)<;>(try simp -implicitDefEqProofs (disch:=omega) only [go_sem,wrap_id,hk])))
  all_goals exact drop_end (fun _ _ h => h) (AH.le_refl _)
theorem idxB_find {α : Type} (p : α → Bool) : ∀ (l : List α) (i : Nat),(l.find? p = none ∧ idxB p l i = -1) ∨ (∃ (j : Nat) (h : j < l.length),l.find? p = some l[j] ∧ idxB p l i = (i : Int) + j)
  | [],i => .inl ⟨rfl,rfl⟩
  | y :: l,i => by
    simp only [List.find?_cons,idxB]
    cases hp : p y
    · rcases idxB_find p l (i + 1) with ⟨h1,h2⟩ | ⟨j,hj,h1,h2⟩
      · exact .inl ⟨h1,by rw [if_neg (by simp)]; exact h2⟩
      · refine .inr ⟨j + 1,by simp; omega,by simpa using h1,?_⟩
        rw [if_neg (by simp)]
        have : (((i + 1 : Nat) : Int)) = (i : Int) + 1 := by omega
        rw [this] at h2
        rw [h2]; omega
    · exact .inr ⟨0,by simp,by simp,by simp⟩
def numT (tag : Int) (f : Fld) : Bool := decide (f.tag = tag) && !f.by_
def numS (l : List Fld) (tag : Int) : Nat × Bool := match l.find? (numT tag) with
  | none => (0,false)
  | some f => (f.n,true)
theorem mnumber_calls {l : List Fld} {t : Tok} {tag : Int} (hl : l.length < 4611686018427387904) (H : AH) :
    ACalls Tryz.prog 60 [.sl 4 (fldsE l) t,.int .i64 tag] H (fun o H' => o = .ret (.tuple [.int .u64 (numS l tag).1,.bool (numS l tag).2]) ∧ H' = H) := by
  refine ACalls.drop ?_
  refine acalls Tryz.func60 c60 r60 (by simp [Tryz.ntmps60]) ?_
  repeat' (first|with_reducible refine go0 ?_|(with_reducible refine am_cnd ?_ ?_<;>intro hc<;>try (exfalso;omega))|((first|with_reducible (first|refine go1 ?_|refine vc_intro ?_|refine need_el ?_|refine vlen_a ?_|refine need_by ?_|refine need_lk ?_)|((with_reducible refine alloc_intro (fun ko hko=>?_))<;>(try have hne:=fresh_ne (by assumption) hko)<;>(try simp only [AH.put_none] at hko))|done)<;>(try simp -implicitDefEqProofs (disch:=omega) only [go_sem,wrap_id])))
  refine call_turn (findex_calls (p := numT tag) hl (by kernel_rfl) _ (fun x _ => number1_calls (AH.put_same _ _ _))) ?_
  rcases idxB_find (numT tag) l 0 with ⟨h1,h2⟩ | ⟨j,hj,h1,h2⟩
  · have h3 : numS l tag = (0,false) := by rw [numS,h1]
    have h2' : idxB (numT tag) l 0 = -1 := h2
    rw [h2',h3]
    simp -implicitDefEqProofs (disch := omega) only [go_sem]
    try repeat' (first|with_reducible refine go0 ?_|(with_reducible refine am_cnd ?_ ?_<;>intro hc<;>try (exfalso;omega))|((first|with_reducible (first|refine go1 ?_|refine vc_intro ?_|refine need_el ?_|refine vlen_a ?_|refine need_by ?_|refine need_lk ?_)|((with_reducible refine alloc_intro (fun ko hko=>?_))<;>(try have hne:=fresh_ne (by assumption) hko)<;>(try simp only [AH.put_none] at hko))|done)<;>(try simp -implicitDefEqProofs (disch:=omega) only [go_sem,wrap_id])))
    all_goals exact drop_end (fun _ _ h => h) (AH.le_put (AH.le_refl _) (by assumption) _)
  · have h3 : numS l tag = (l[j].n,true) := by rw [numS,h1]
    have h2' : idxB (numT tag) l 0 = (j : Int) := by rw [show (0 : Int) = ((0 : Nat) : Int) from rfl,h2]; omega
    rw [h2',h3]
    simp -implicitDefEqProofs (disch := omega) only [go_sem]
    try repeat' (first|with_reducible refine go0 ?_|(with_reducible refine am_cnd ?_ ?_<;>intro hc<;>try (exfalso;omega))|((first|with_reducible (first|refine go1 ?_|refine vc_intro ?_|refine need_el ?_|refine vlen_a ?_|refine need_by ?_|refine need_lk ?_)|((with_reducible refine alloc_intro (fun ko hko=>?_))<;>(try have hne:=fresh_ne (by assumption) hko)<;>(try simp only [AH.put_none] at hko))|done)<;>(try simp -implicitDefEqProofs (disch:=omega) only [go_sem,wrap_id,get_of_lt hj])))
    all_goals exact drop_end (fun _ _ h => h) (AH.le_put (AH.le_refl _) (by assumption) _)
end Go.Proofs.YtkldmgnhbomknaaGreat.Msg
