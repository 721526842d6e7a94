/- Contracts of functions of the given program. Conditions: as each theorem says. -/
import Derived.Test.YtkldmgnhbomknaaGreatQZWB
import Derived.Test.YtkldmgnhbomknaaGreatVmV
set_option linter.unusedVariables false
set_option linter.unusedSimpArgs false
namespace Go.Proofs.YtkldmgnhbomknaaGreat
open Go.Vm
attribute [local go_sem] eq_self decide_true decide_false AH.put_ne
attribute [local go_sem_proc] Nat.reduceBEq Nat.reduceAdd Nat.reduceSub Nat.reduceMul Nat.reduceEqDiff Nat.reduceLeDiff Nat.reduceLT Int.reduceLE Int.reduceLT Int.reduceToNat Int.reduceAdd Int.reduceEq Int.reduceNeg
attribute [local go_sem] vE_length byteCells_length fldC fldsE_get fldsE_length List.drop_zero toNat_succ Nat.sub_zero Int.toNat_natCast Option.map_some Int.natCast_nonneg decide_eq_true_eq decide_eq_false_iff_not
/- (*flange/pack.opener).number -/
abbrev k93_0 : MC :=
 .cond (.t 17) (.reg [
 mv 18 0,
 vl 19 (.nilc (.t 18)),
 vl 20 (.faddr 0 (.t 19)),
 ⟨some 21,none,.call 95 [(.t 20),(.c (.int .i64 4))]⟩] [5]) (.skip)
abbrev k93_1 : MC :=
 (.seq (.reg [
 mv 22 5,
 mv 4 22] [4]) (.ret))
abbrev k93_2 : MC :=
 (.seq ((.seq (.reg [
 mv 16 6,
 vl 17 (.not (.t 16))] [0,5,17]) k93_0)) k93_1)
abbrev k93_3 : MC :=
 (.seq (.reg [
 mv 8 0,
 vl 9 (.nilc (.t 8)),
 vl 10 (.faddr 1 (.t 9)),
 vl 11 (.load false 1 (.t 10)),
 mv 12 1,
 ⟨some 13,none,.call 60 [(.t 11),(.t 12)]⟩,
 mv 7 13,
 vl 14 (.ext (.t 7) 0),
 vl 15 (.ext (.t 7) 1),
 mv 5 14,
 mv 6 15] [0,5,6]) k93_2)
abbrev k93 : MC :=
 (.seq (.reg [
 vl 4 (.mv (.c (.int .u64 0)))] [0,1]) k93_3)
theorem c93 : Tryz.f93.body.bind (mcOf Tryz.prog (List.contains [] ·) (List.getD [([],[0,1]),([],[0,5,6]),([],[0,5,17]),([],[5]),([],[4])] · ([],[])) 23) = some k93 := by kernel_rfl
theorem r93 : rvsOf Tryz.prog Tryz.f93.results.toList = some [.tmp 4] := by kernel_rfl
/- (*flange/pack.opener).bytes -/
abbrev k96_0 : MC :=
 .cond (.t 17) (.reg [
 mv 18 0,
 vl 19 (.nilc (.t 18)),
 vl 20 (.faddr 0 (.t 19)),
 ⟨some 21,none,.call 95 [(.t 20),(.c (.int .i64 4))]⟩] [5]) (.skip)
abbrev k96_1 : MC :=
 (.seq (.reg [
 mv 22 5,
 mv 4 22] [4]) (.ret))
abbrev k96_2 : MC :=
 (.seq ((.seq (.reg [
 mv 16 6,
 vl 17 (.not (.t 16))] [0,5,17]) k96_0)) k96_1)
abbrev k96_3 : MC :=
 (.seq (.reg [
 mv 8 0,
 vl 9 (.nilc (.t 8)),
 vl 10 (.faddr 1 (.t 9)),
 vl 11 (.load false 1 (.t 10)),
 mv 12 1,
 ⟨some 13,none,.call 61 [(.t 11),(.t 12)]⟩,
 mv 7 13,
 vl 14 (.ext (.t 7) 0),
 vl 15 (.ext (.t 7) 1),
 mv 5 14,
 mv 6 15] [0,5,6]) k96_2)
abbrev k96 : MC :=
 (.seq (.reg [
 vl 4 (.mv (.c .nilSl))] [0,1]) k96_3)
theorem c96 : Tryz.f96.body.bind (mcOf Tryz.prog (List.contains [] ·) (List.getD [([],[0,1]),([],[0,5,6]),([],[0,5,17]),([],[5]),([],[4])] · ([],[])) 23) = some k96 := by kernel_rfl
theorem r96 : rvsOf Tryz.prog Tryz.f96.results.toList = some [.tmp 4] := by kernel_rfl
/- (*flange/pack.opener).items -/
abbrev k97_0 : MC :=
 (.seq (.reg [
 mv 22 5,
 mv 4 22] [4]) (.ret))
abbrev k97_1 : MC :=
 (.seq (.reg [
 mv 17 0,
 vl 18 (.nilc (.t 17)),
 vl 19 (.faddr 0 (.t 18)),
 mv 20 6,
 ⟨some 21,none,.call 95 [(.t 19),(.t 20)]⟩] [5]) k97_0)
abbrev k97_2 : MC :=
 (.seq (.reg [
 mv 8 0,
 vl 9 (.nilc (.t 8)),
 vl 10 (.faddr 1 (.t 9)),
 vl 11 (.load false 1 (.t 10)),
 mv 12 1,
 ⟨some 13,none,.call 80 [(.t 11),(.t 12)]⟩,
 ⟨some 14,none,.call 109 [(.t 13)]⟩,
 mv 7 14,
 vl 15 (.ext (.t 7) 0),
 vl 16 (.ext (.t 7) 1),
 mv 5 15,
 mv 6 16] [0,5,6]) k97_1)
abbrev k97 : MC :=
 (.seq (.reg [
 vl 4 (.mv (.c .nilSl))] [0,1]) k97_2)
theorem c97 : Tryz.f97.body.bind (mcOf Tryz.prog (List.contains [] ·) (List.getD [([],[0,1]),([],[0,5,6]),([],[5]),([],[4])] · ([],[])) 23) = some k97 := by kernel_rfl
theorem r97 : rvsOf Tryz.prog Tryz.f97.results.toList = some [.tmp 4] := by kernel_rfl
/- flange/pack.All -/
abbrev k109_0 : MC :=
 .cond (.t 21) ((.seq (.reg [
 vl 2 (.mv (.c .nilSl)),
 vl 3 (.mv (.c (.int .i64 4)))] [2,3]) (.ret))) (.skip)
abbrev k109_1 : MC :=
 .reg [
 mv 22 4,
 vl 23 (.load true 1 (.t 7)),
 ⟨some 24,none,.bslice 1 1 [.nilIface] [(0,1,(.t 23))]⟩,
 ⟨some 25,none,.app 1 16 (.t 22) (.t 24)⟩,
 mv 4 25] [4,9,10,11]
abbrev k109_2 : MC :=
 (.seq ((.seq (.reg [
 mv 20 8,
 vl 21 (.bin .neq .num (.t 20) (.c (.int .i64 0)))] [4,7,9,10,11,21]) k109_0)) k109_1)
abbrev k109_3 : MC :=
 (.seq (.reg [
 mv 16 6,
 ⟨some 17,none,.call 62 [(.t 16)]⟩,
 mv 15 17,
 vl 18 (.ext (.t 15) 0),
 vl 19 (.ext (.t 15) 1),
 ⟨some 7,none,.zalloc [.nilIface]⟩,
 ⟨none,none,.store 1 (.t 7) (.t 18)⟩,
 mv 8 19] [4,7,8,9,10,11]) k109_2)
abbrev k109_4 : MC :=
 .reg [
 vl 26 (.bin .add .num (.t 11) (.c (.int .i64 1))),
 mv 11 26] [4,9,10,11]
abbrev k109_5 : MC :=
 (.seq (.block 1 ((.seq (.reg [
 vl 13 (.iaddr 1 (.t 9) (.t 11)),
 vl 14 (.load false 1 (.t 13)),
 mv 6 14] [4,6,9,10,11]) k109_3))) k109_4)
abbrev k109_6 : MC :=
 (.seq (.cond (.t 12) (.skip) (.exit 0)) k109_5)
abbrev k109_7 : MC :=
 (.seq (.reg [
 vl 12 (.bin .lss .num (.t 11) (.t 10))] [4,9,10,11,12]) k109_6)
abbrev k109_8 : MC :=
 .block 0 (.loop k109_7)
abbrev k109_9 : MC :=
 (.seq (.reg [
 mv 27 4,
 mv 2 27,
 vl 3 (.mv (.c (.int .i64 0)))] [2,3]) (.ret))
abbrev k109_10 : MC :=
 (.seq ((.seq (.reg [
 mv 9 0,
 vl 10 (.len .sl (.t 9)),
 vl 11 (.mv (.c (.int .i64 0)))] [4,9,10,11]) k109_8)) k109_9)
abbrev k109_11 : MC :=
 (.seq (.reg [
 vl 4 (.mv (.c .nilSl))] [0,4]) k109_10)
abbrev k109 : MC :=
 (.seq (.reg [
 vl 2 (.mv (.c .nilSl)),
 vl 3 (.mv (.c (.int .i64 0)))] [0]) k109_11)
theorem c109 : Tryz.f109.body.bind (mcOf Tryz.prog (List.contains [] ·) (List.getD [([],[0]),([],[0,4]),([],[4,9,10,11]),([],[4,9,10,11,12]),([],[4,6,9,10,11]),([],[4,7,8,9,10,11]),([],[4,7,9,10,11,21]),([],[2,3]),([],[4,9,10,11]),([],[4,9,10,11]),([],[2,3])] · ([],[])) 28) = some k109 := by kernel_rfl
theorem r109 : rvsOf Tryz.prog Tryz.f109.results.toList = some [.tmp 2,.tmp 3] := by kernel_rfl
def fe (e x : Int) : Int := if e = 0 then x else e
abbrev opC (e : Int) (L : List Fld) : AObj := .cells [.int .i64 e,.sl 4 (fldsE L) .no]
theorem ofail_calls {H : AH} {k : Nat} {e x : Int} {v : V} (hk : H k = some (.cells [.int .i64 e,v])) : ACalls Tryz.prog 95 [.ptr k 0,.int .i64 x] H (fun o H' => o = .ret unitV ∧ H' = H.put k (.cells [.int .i64 (fe e x),v])) := by
  refine acalls Tryz.func95 c95 r95 (by simp [Tryz.ntmps95]) ?_
  by_cases he : e = 0
  · repeat' (first|with_reducible refine go0 ?_|(with_reducible refine am_cnd ?_ ?_<;>intro hc<;>try (exfalso;omega))|((first|with_reducible (first|refine go1 ?_|refine vc_intro ?_|refine need_el ?_|refine vlen_a ?_|refine need_by ?_|refine need_lk ?_)|done)<;>(try simp -implicitDefEqProofs (disch:=omega) only [go_sem,he])))
    all_goals exact ⟨rfl,by rw [fe]; simp [he]⟩
  · repeat' (first|with_reducible refine go0 ?_|(with_reducible refine am_cnd ?_ ?_<;>intro hc<;>try (exfalso;omega))|((first|with_reducible (first|refine go1 ?_|refine vc_intro ?_|refine need_el ?_|refine vlen_a ?_|refine need_by ?_|refine need_lk ?_)|done)<;>(try simp -implicitDefEqProofs (disch:=omega) only [go_sem,he])))
    all_goals exact ⟨rfl,by rw [fe,if_neg he,put_self hk]⟩
theorem onum_calls {H : AH} {k : Nat} {e tag : Int} {L : List Fld} (hL : L.length ≤ 64) (hk : H k = some (opC e L)) : ACalls Tryz.prog 93 [.ptr k 0,.int .i64 tag] H (fun o H' => o = .ret (.int .u64 (numS L tag).1) ∧ H' = H.put k (opC (if (numS L tag).2 = true then e else fe e 4) L)) := by
  have hnc := fun G => Msg.mnumber_calls (l := L) (t := .no) (tag := tag) (by omega) G
  refine acalls Tryz.func93 c93 r93 (by simp [Tryz.ntmps93]) ?_
  cases ho : (numS L tag).2
  · repeat' (first|with_reducible refine go0 ?_|(with_reducible refine am_cnd ?_ ?_<;>intro hc<;>try (exfalso;omega))|((first|with_reducible (first|refine go1 ?_|refine vc_intro ?_|refine need_el ?_|refine vlen_a ?_|refine need_by ?_|refine call_of (hnc) ?_|refine qcall_of (hnc) ?_|refine call_turn (ofail_calls hk) ?_|refine need_lk ?_)|done)<;>(try simp -implicitDefEqProofs (disch:=omega) only [go_sem,ho])))
    all_goals first | rfl | exact ⟨rfl,rfl⟩
  · repeat' (first|with_reducible refine go0 ?_|(with_reducible refine am_cnd ?_ ?_<;>intro hc<;>try (exfalso;omega))|((first|with_reducible (first|refine go1 ?_|refine vc_intro ?_|refine need_el ?_|refine vlen_a ?_|refine need_by ?_|refine call_of (hnc) ?_|refine qcall_of (hnc) ?_|refine call_turn (ofail_calls hk) ?_|refine need_lk ?_)|done)<;>(try simp -implicitDefEqProofs (disch:=omega) only [go_sem,ho])))
    all_goals first | exact ⟨rfl,by rw [if_pos rfl,put_self hk]⟩ | exact (put_self hk).symm
theorem obytes_calls {H : AH} {k : Nat} {e tag : Int} {L : List Fld} (hL : L.length ≤ 64) (hb : ∀ f ∈ L,f.b.length ≤ 4096) (hk : H k = some (opC e L)) : ACalls Tryz.prog 96 [.ptr k 0,.int .i64 tag] H (fun o H' => o = .ret (.sl 1 (byteCells (blobT L tag)) .no) ∧ H' = H.put k (opC (if manyT L tag ≠ [] then e else fe e 4) L)) := by
  have hnc := fun G => Msg.mbytes_calls (l := L) (t := .no) (tag := tag) (by omega) (fun f h => by have := hb f h; omega) G
  refine acalls Tryz.func96 c96 r96 (by simp [Tryz.ntmps96]) ?_
  by_cases ho : manyT L tag = []
  · repeat' (first|with_reducible refine go0 ?_|(with_reducible refine am_cnd ?_ ?_<;>intro hc<;>try (exfalso;omega))|((first|with_reducible (first|refine go1 ?_|refine vc_intro ?_|refine need_el ?_|refine vlen_a ?_|refine need_by ?_|refine call_of (hnc) ?_|refine qcall_of (hnc) ?_|refine call_turn (ofail_calls hk) ?_|refine need_lk ?_)|done)<;>(try simp -implicitDefEqProofs (disch:=omega) only [go_sem,ho])))
    all_goals first | exact ⟨rfl,by rw [if_neg (by simp [ho])]⟩ | (rw [if_neg (by simp [ho])])
  · repeat' (first|with_reducible refine go0 ?_|(with_reducible refine am_cnd ?_ ?_<;>intro hc<;>try (exfalso;omega))|((first|with_reducible (first|refine go1 ?_|refine vc_intro ?_|refine need_el ?_|refine vlen_a ?_|refine need_by ?_|refine call_of (hnc) ?_|refine qcall_of (hnc) ?_|refine call_turn (ofail_calls hk) ?_|refine need_lk ?_)|done)<;>(try simp -implicitDefEqProofs (disch:=omega) only [go_sem,ho])))
    all_goals first | exact ⟨rfl,by rw [if_pos ho,put_self hk]⟩ | exact (put_self hk).symm
def DecOk (b : List UInt8) : Prop := ∀ (g : Nat) (H : AH),H g = some .nodr → ACalls Tryz.prog 62 [.sl 1 (byteCells b) .no] H (fun o H' => o = .ret (.tuple [.agg [vV ((decV b).getD .nul)],.int .i64 (if (decV b).isSome = true then 0 else 4)]) ∧ H' = H)
theorem allO_drop (D : List UInt8 → Option Vl) : ∀ (l : List (List UInt8)) (i : Nat) (h : i < l.length),allO D (l.drop i) = match D l[i] with
    | none => none
    | some v => (allO D (l.drop (i + 1))).map fun r => v :: r := by
  intro l i h
  rw [List.drop_eq_getElem_cons h,allO]
  cases D l[i] <;> rfl
theorem all_calls {bs : List (List UInt8)} {t : Tok} {g : Nat} {H : AH} (hl : bs.length ≤ 1000000) (hd : ∀ b ∈ bs,DecOk b) (hg : H g = some .nodr) :
    ACalls Tryz.prog 109 [.sl 1 (blobsE bs) t] H (fun o H' => o = .ret (.tuple [.sl 1 (vE ((allO decV bs).getD [])) .no,.int .i64 (if (allO decV bs).isSome = true then 0 else 4)]) ∧ H' = H) := by
  refine ACalls.drop ?_
  refine acalls Tryz.func109 c109 r109 (by simp [Tryz.ntmps109]) ?_
  repeat' (first|with_reducible refine go0 ?_|(with_reducible refine am_cnd ?_ ?_<;>intro hc<;>try (exfalso;omega))|((first|with_reducible (first|refine go1 ?_|refine vc_intro ?_|refine need_el ?_|refine vlen_a ?_|refine need_by ?_|refine need_lk ?_)|((with_reducible refine alloc_intro (fun ko hko=>?_))<;>(try have hne:=fresh_ne (by assumption) hko)<;>(try simp only [AH.put_none] at hko))|((with_reducible refine vapp_go ?_ (fun v2 H2 hacc hlec=>?_));· simp only [byteCells_length,List.length_cons,List.length_nil,List.length_map,List.length_append,vE_length,fldsE_length,strE_length,strE_len,blobsE_length];omega)|done)<;>(try simp -implicitDefEqProofs (disch:=omega) only [go_sem,wrap_id,blobsE_length])))
  refine am_loop (fun n st H' => ∃ (i : Nat) (v : V) (vs : List Vl),i + n = bs.length ∧ st = [(4,v),(9,.sl 1 (blobsE bs) t),(10,.int .i64 bs.length),(11,.int .i64 i)] ∧ vs.length = i ∧ AccP H 1 (vE vs) v H' ∧ allO decV bs = (allO decV (bs.drop i)).map fun r => vs ++ r) ?_ bs.length ⟨0,.nilSl,[],by omega,rfl,rfl,AccP.nil _ _,by simp⟩
  rintro n st G ⟨i,v,vs,hi,rfl,hvl,hacc,ha⟩
  by_cases hlt : i < bs.length
  · rw [allO_drop _ _ _ hlt] at ha
    have hdc := hd _ (List.getElem_mem hlt) g G (hacc.le _ _ hg)
    have hget : (blobsE bs)[i]? = some [.sl 1 (byteCells bs[i]) .no] := by rw [blobsE_get,get_of_lt hlt]; rfl
    generalize bs[i] = b at *
    cases hb : decV b with
    | none =>
      rw [hb] at ha hdc
      simp only [Option.map_none] at ha
      simp only [Option.getD_none,Option.isSome_none,Bool.false_eq_true,if_false] at hdc
      rw [ha]
      repeat' (first|with_reducible refine go0 ?_|(with_reducible refine am_cnd ?_ ?_<;>intro hc<;>try (exfalso;omega))|((first|with_reducible (first|refine go1 ?_|refine vc_intro ?_|refine need_el ?_|refine vlen_a ?_|refine need_by ?_|refine call_turn (hdc) ?_|refine need_lk ?_)|((with_reducible refine alloc_intro (fun ko hko=>?_))<;>(try have hne:=fresh_ne (by assumption) hko)<;>(try simp only [AH.put_none] at hko))|((with_reducible refine vapp_go ?_ (fun v2 H2 hacc hlec=>?_));· simp only [byteCells_length,List.length_cons,List.length_nil,List.length_map,List.length_append,vE_length,fldsE_length,strE_length,strE_len,blobsE_length];omega)|done)<;>(try simp -implicitDefEqProofs (disch:=omega) only [go_sem,wrap_id,hget,blobsE_length])))
      all_goals exact drop_end (by (first | exact fun _ _ h => h | (intro s x h; first | exact no_sub _ h | exact nil_no _ h | exact AccP.sub (by assumption) _ _ h | (refine agg_sub rfl ?_ x h; repeat (first | exact .nil | refine .cons (fun _ h => h) ?_ | refine .cons (fun _ h => nil_no _ h) ?_ | refine .cons (fun _ h => no_sub _ h) ?_ | refine .cons (fun _ h => AccP.sub (by assumption) _ _ h) ?_)) | (refine tuple_sub ?_ x h; repeat (first | exact .nil | refine .cons (fun _ h => h) ?_ | refine .cons (fun _ h => nil_no _ h) ?_ | refine .cons (fun _ h => no_sub _ h) ?_ | refine .cons (fun _ h => AccP.sub (by assumption) _ _ h) ?_ | refine .cons (fun _ h => agg_sub rfl (by repeat (first | exact .nil | refine .cons (fun _ h => h) ?_ | refine .cons (fun _ h => nil_no _ h) ?_ | refine .cons (fun _ h => no_sub _ h) ?_ | refine .cons (fun _ h => AccP.sub (by assumption) _ _ h) ?_)) _ h) ?_))))) (AH.le_put hacc.le (none_of_le hacc.le hko) _)
    | some x =>
      rw [hb] at ha hdc
      simp only at ha
      simp only [Option.getD_some,Option.isSome_some,if_true] at hdc
      repeat' (first|with_reducible refine go0 ?_|(with_reducible refine am_cnd ?_ ?_<;>intro hc<;>try (exfalso;omega))|((first|with_reducible (first|refine go1 ?_|refine vc_intro ?_|refine need_el ?_|refine vlen_a ?_|refine need_by ?_|refine call_turn (hdc) ?_|refine need_lk ?_)|((with_reducible refine alloc_intro (fun ko hko=>?_))<;>(try have hne:=fresh_ne (by assumption) hko)<;>(try simp only [AH.put_none] at hko))|((with_reducible refine vapp_go ?_ (fun v2 H2 hacc hlec=>?_));· simp only [byteCells_length,List.length_cons,List.length_nil,List.length_map,List.length_append,vE_length,fldsE_length,strE_length,strE_len,blobsE_length];omega)|done)<;>(try simp -implicitDefEqProofs (disch:=omega) only [go_sem,wrap_id,hget,blobsE_length])))
      refine vapp_acc (fs := vE [x]) (hacc.new hko _) (by simp only [vE_length,List.length_cons,List.length_nil]; omega) (fun v2 H3 hacc3 => ?_)
      rw [vE_app] at hacc3
      repeat' (first|with_reducible refine go0 ?_|(with_reducible refine am_cnd ?_ ?_<;>intro hc<;>try (exfalso;omega))|((first|with_reducible (first|refine go1 ?_|refine vc_intro ?_|refine need_el ?_|refine vlen_a ?_|refine need_by ?_|refine need_lk ?_)|((with_reducible refine alloc_intro (fun ko hko=>?_))<;>(try have hne:=fresh_ne (by assumption) hko)<;>(try simp only [AH.put_none] at hko))|((with_reducible refine vapp_go ?_ (fun v2 H2 hacc hlec=>?_));· simp only [byteCells_length,List.length_cons,List.length_nil,List.length_map,List.length_append,vE_length,fldsE_length,strE_length,strE_len,blobsE_length];omega)|done)<;>(try simp -implicitDefEqProofs (disch:=omega) only [go_sem,wrap_id])))
      all_goals refine ⟨n - 1,by omega,i + 1,v2,vs ++ [x],by omega,rfl,by simp [hvl],hacc3,?_⟩
      rw [ha,Option.map_map]
      congr 1
      funext r
      simp
  · rw [List.drop_eq_nil_of_le (by omega),allO] at ha
    simp only [Option.map_some,List.append_nil] at ha
    rw [ha]
    repeat' (first|with_reducible refine go0 ?_|(with_reducible refine am_cnd ?_ ?_<;>intro hc<;>try (exfalso;omega))|((first|with_reducible (first|refine go1 ?_|refine vc_intro ?_|refine need_el ?_|refine vlen_a ?_|refine need_by ?_|refine need_lk ?_)|((with_reducible refine alloc_intro (fun ko hko=>?_))<;>(try have hne:=fresh_ne (by assumption) hko)<;>(try simp only [AH.put_none] at hko))|((with_reducible refine vapp_go ?_ (fun v2 H2 hacc hlec=>?_));· simp only [byteCells_length,List.length_cons,List.length_nil,List.length_map,List.length_append,vE_length,fldsE_length,strE_length,strE_len,blobsE_length];omega)|done)<;>(try simp -implicitDefEqProofs (disch:=omega) only [go_sem,wrap_id,blobsE_length])))
    all_goals exact drop_end (by (first | exact fun _ _ h => h | (intro s x h; first | exact no_sub _ h | exact nil_no _ h | exact AccP.sub (by assumption) _ _ h | (refine agg_sub rfl ?_ x h; repeat (first | exact .nil | refine .cons (fun _ h => h) ?_ | refine .cons (fun _ h => nil_no _ h) ?_ | refine .cons (fun _ h => no_sub _ h) ?_ | refine .cons (fun _ h => AccP.sub (by assumption) _ _ h) ?_)) | (refine tuple_sub ?_ x h; repeat (first | exact .nil | refine .cons (fun _ h => h) ?_ | refine .cons (fun _ h => nil_no _ h) ?_ | refine .cons (fun _ h => no_sub _ h) ?_ | refine .cons (fun _ h => AccP.sub (by assumption) _ _ h) ?_ | refine .cons (fun _ h => agg_sub rfl (by repeat (first | exact .nil | refine .cons (fun _ h => h) ?_ | refine .cons (fun _ h => nil_no _ h) ?_ | refine .cons (fun _ h => no_sub _ h) ?_ | refine .cons (fun _ h => AccP.sub (by assumption) _ _ h) ?_)) _ h) ?_))))) hacc.le
theorem oitems_calls {H : AH} {k g : Nat} {e tag : Int} {L : List Fld} (hL : L.length ≤ 64) (hb : ∀ f ∈ L,f.b.length ≤ 4096) (hd : ∀ f ∈ L,DecOk f.b) (hk : H k = some (opC e L)) (hg : H g = some .nodr) :
    ACalls Tryz.prog 97 [.ptr k 0,.int .i64 tag] H (fun o H' => o = .ret (.sl 1 (vE ((allO decV (manyT L tag)).getD [])) .no) ∧ H' = H.put k (opC (fe e (if (allO decV (manyT L tag)).isSome = true then 0 else 4)) L)) := by
  have hnc := fun G => Msg.many_calls (l := L) (t := .no) (tag := tag) (by omega) (fun f h => by have := hb f h; omega) G
  have hml := many_len L tag
  have hac := fun (G : AH) (hG : G g = some .nodr) => all_calls (bs := manyT L tag) (t := .no) (g := g) (H := G) (by omega) (fun b hb2 => by obtain ⟨f,hf,_,_,rfl⟩ := many_mem hb2; exact hd f hf) hG
  refine acalls Tryz.func97 c97 r97 (by simp [Tryz.ntmps97]) ?_
  repeat' (first|with_reducible refine go0 ?_|(with_reducible refine am_cnd ?_ ?_<;>intro hc<;>try (exfalso;omega))|((first|with_reducible (first|refine go1 ?_|refine vc_intro ?_|refine need_el ?_|refine vlen_a ?_|refine need_by ?_|refine call_of (hnc) ?_|refine qcall_of (hnc) ?_|refine call_turn (hac _ hg) ?_|refine call_turn (ofail_calls hk) ?_|refine need_lk ?_)|done)<;>(try simp -implicitDefEqProofs (disch:=omega) only [go_sem])))
  all_goals first | rfl | exact ⟨rfl,rfl⟩
end Go.Proofs.YtkldmgnhbomknaaGreat
namespace Go.Proofs.YtkldmgnhbomknaaGreat
open Go.Vm
attribute [local go_sem] eq_self decide_true decide_false AH.put_ne
attribute [local go_sem_proc] Nat.reduceBEq Nat.reduceAdd Nat.reduceSub Nat.reduceMul Nat.reduceEqDiff Nat.reduceLeDiff Nat.reduceLT Int.reduceLE Int.reduceLT Int.reduceToNat Int.reduceAdd Int.reduceEq Int.reduceNeg
attribute [local go_sem] vE_length byteCells_get byteCells_length byteCells_take byteCells_drop bytes_cells bytesOf_cells fldC fldsE_get fldsE_length List.drop_zero toNat_succ Nat.sub_zero Int.toNat_natCast Option.map_some Int.natCast_nonneg decide_eq_true_eq decide_eq_false_iff_not
/- (*flange/pack.opener).table -/
abbrev k98_0 : MC :=
 .reg [
 mv 18 3,
 mv 19 5,
 vl 20 (.b2s (.t 19)),
 ⟨some 21,none,.bslice 1 1 [(.str [])] [(0,1,(.t 20))]⟩,
 ⟨some 22,none,.app 1 16 (.t 18) (.t 21)⟩,
 mv 3 22] [0,2,3,12,13,14]
abbrev k98_1 : MC :=
 .reg [
 vl 23 (.bin .add .num (.t 14) (.c (.int .i64 1))),
 mv 14 23] [0,2,3,12,13,14]
abbrev k98_2 : MC :=
 (.seq (.block 1 ((.seq (.reg [
 vl 16 (.iaddr 1 (.t 12) (.t 14)),
 vl 17 (.load false 1 (.t 16)),
 mv 5 17] [0,2,3,5,12,13,14]) k98_0))) k98_1)
abbrev k98_3 : MC :=
 (.seq (.cond (.t 15) (.skip) (.exit 0)) k98_2)
abbrev k98_4 : MC :=
 (.seq (.reg [
 vl 15 (.bin .lss .num (.t 14) (.t 13))] [0,2,3,12,13,14,15]) k98_3)
abbrev k98_5 : MC :=
 .block 0 (.loop k98_4)
abbrev k98_6 : MC :=
 (.seq (.reg [
 vl 36 (.load true 1 (.t 6)),
 ⟨none,none,.store 1 (.t 2) (.t 36)⟩] [2]) (.ret))
abbrev k98_7 : MC :=
 (.seq (.reg [
 mv 31 0,
 vl 32 (.nilc (.t 31)),
 vl 33 (.faddr 0 (.t 32)),
 mv 34 7,
 ⟨some 35,none,.call 95 [(.t 33),(.t 34)]⟩] [2,6]) k98_6)
abbrev k98_8 : MC :=
 (.seq (.reg [
 mv 25 3,
 mv 26 0,
 ⟨some 27,none,.call 97 [(.t 26),(.c (.int .i64 7))]⟩,
 ⟨some 28,none,.call 46 [(.t 25),(.t 27)]⟩,
 mv 24 28,
 vl 29 (.ext (.t 24) 0),
 vl 30 (.ext (.t 24) 1),
 ⟨some 6,none,.zalloc [.nilIface]⟩,
 ⟨none,none,.store 1 (.t 6) (.t 29)⟩,
 mv 7 30] [0,2,6,7]) k98_7)
abbrev k98_9 : MC :=
 (.seq ((.seq (.reg [
 mv 8 0,
 vl 9 (.nilc (.t 8)),
 vl 10 (.faddr 1 (.t 9)),
 vl 11 (.load false 1 (.t 10)),
 ⟨some 12,none,.call 80 [(.t 11),(.c (.int .i64 6))]⟩,
 vl 13 (.len .sl (.t 12)),
 vl 14 (.mv (.c (.int .i64 0)))] [0,2,3,12,13,14]) k98_5)) k98_8)
abbrev k98_10 : MC :=
 (.seq (.reg [
 vl 3 (.mv (.c .nilSl))] [0,2,3]) k98_9)
abbrev k98 : MC :=
 (.seq (.reg [
 ⟨some 2,none,.zalloc [.nilIface]⟩] [0,2]) k98_10)
theorem c98 : Tryz.f98.body.bind (mcOf Tryz.prog (List.contains [] ·) (List.getD [([],[0,2]),([],[0,2,3]),([],[0,2,3,12,13,14]),([],[0,2,3,12,13,14,15]),([],[0,2,3,5,12,13,14]),([],[0,2,3,12,13,14]),([],[0,2,3,12,13,14]),([],[0,2,6,7]),([],[2,6]),([],[2])] · ([],[])) 37) = some k98 := by kernel_rfl
theorem r98 : rvsOf Tryz.prog Tryz.f98.results.toList = some [.cell 2 true 1] := by kernel_rfl
theorem otable_calls {H : AH} {k g : Nat} {e : Int} {L : List Fld} (hL : L.length ≤ 64) (hb : ∀ f ∈ L,f.b.length ≤ 4096) (hd : ∀ f ∈ L,DecOk f.b) (hk : H k = some (opC e L)) (hg : H g = some .nodr) :
    ACalls Tryz.prog 98 [.ptr k 0] H (fun o H' => o = .ret (.agg [vV (mapR (manyT L 6) ((allO decV (manyT L 7)).getD [])).1]) ∧ H' = H.put k (opC (fe (fe e (if (allO decV (manyT L 7)).isSome = true then 0 else 4)) (mapR (manyT L 6) ((allO decV (manyT L 7)).getD [])).2) L)) := by
  refine ACalls.dropG ?_
  have hnc := fun G => Msg.many_calls (l := L) (t := .no) (tag := 6) (by omega) (fun f h => by have := hb f h; omega) G
  have hml := many_len L 6
  have hgk : g ≠ k := by rintro rfl; rw [hk] at hg; cases hg
  have hil : ((allO decV (manyT L 7)).getD []).length ≤ 64 := by
    have := many_len L 7
    cases h : allO decV (manyT L 7) with
    | none => simp
    | some r => have := (allO_all (P := fun _ => True) (fun _ _ _ => trivial) h).1; simp only [Option.getD_some]; omega
  have hoi := fun (G : AH) (h1 : G k = some (opC e L)) (h2 : G g = some .nodr) => oitems_calls (tag := 7) hL hb hd h1 h2
  generalize allO decV (manyT L 7) = R at *
  generalize manyT L 6 = ks at *
  refine acalls Tryz.func98 c98 r98 (by simp [Tryz.ntmps98]) ?_
  repeat' (first|with_reducible refine go0 ?_|(with_reducible refine am_cnd ?_ ?_<;>intro hc<;>try (exfalso;omega))|((first|with_reducible (first|refine go1 ?_|refine vc_intro ?_|refine need_el ?_|refine vlen_a ?_|refine need_by ?_|refine call_of (hnc) ?_|refine qcall_of (hnc) ?_|refine need_lk ?_)|((with_reducible refine alloc_intro (fun ko hko=>?_))<;>(try have hne:=fresh_ne (by assumption) hko)<;>(try have hnk:=fresh_ne hk hko)<;>(try simp only [AH.put_none] at hko))|((with_reducible refine vapp_go ?_ (fun v2 H2 hacc hlec=>?_));· simp only [byteCells_length,List.length_cons,List.length_nil,List.length_map,List.length_append,vE_length,fldsE_length,strE_length,strE_len,blobsE_length];omega)|done)<;>(try simp -implicitDefEqProofs (disch:=omega) only [go_sem,wrap_id,blobsE_length])))
  revert ko
  intro kr hkr hne hnk
  refine am_loop (fun n st H' => ∃ (i : Nat) (v : V),i + n = ks.length ∧ st = [(0,.ptr k 0),(2,.ptr kr 0),(3,v),(12,.sl 1 (blobsE ks) .no),(13,.int .i64 ks.length),(14,.int .i64 i)] ∧ AccP (H.put kr (.cells [.nilIface])) 1 (strE (ks.take i)) v H') ?_ ks.length ⟨0,.nilSl,by omega,rfl,AccP.nil _ _⟩
  rintro n st G ⟨i,v,hi,rfl,hacc⟩
  by_cases hlt : i < ks.length
  · have hget : (blobsE ks)[i]? = some [.sl 1 (byteCells ks[i]) .no] := by rw [blobsE_get,get_of_lt hlt]; rfl
    have e0 : strE (ks.take (i + 1)) = strE (ks.take i) ++ strE [ks[i]] := by rw [List.take_succ_eq_append_getElem hlt]; unfold strE; rw [List.map_append]
    have hml2 : (strE (ks.take i)).length ≤ 64 := by rw [strE_len,List.length_take]; omega
    generalize ks[i] = x at *
    repeat' (first|with_reducible refine go0 ?_|(with_reducible refine am_cnd ?_ ?_<;>intro hc<;>try (exfalso;omega))|((first|with_reducible (first|refine go1 ?_|refine vc_intro ?_|refine need_el ?_|refine vlen_a ?_|refine need_by ?_|refine need_lk ?_)|((with_reducible refine alloc_intro (fun ko hko=>?_))<;>(try have hne:=fresh_ne (by assumption) hko)<;>(try have hnk:=fresh_ne hk hko)<;>(try simp only [AH.put_none] at hko))|((with_reducible refine vapp_go ?_ (fun v2 H2 hacc hlec=>?_));· simp only [byteCells_length,List.length_cons,List.length_nil,List.length_map,List.length_append,vE_length,fldsE_length,strE_length,strE_len,blobsE_length];omega)|done)<;>(try simp -implicitDefEqProofs (disch:=omega) only [go_sem,wrap_id,hget,blobsE_length])))
    refine vapp_acc (fs := strE [x]) hacc (by have h9 := strE_len [x]; simp only [List.length_cons,List.length_nil] at h9; omega) (fun v2 H3 hacc3 => ?_)
    rw [← e0] at hacc3
    repeat' (first|with_reducible refine go0 ?_|(with_reducible refine am_cnd ?_ ?_<;>intro hc<;>try (exfalso;omega))|((first|with_reducible (first|refine go1 ?_|refine vc_intro ?_|refine need_el ?_|refine vlen_a ?_|refine need_by ?_|refine need_lk ?_)|((with_reducible refine alloc_intro (fun ko hko=>?_))<;>(try have hne:=fresh_ne (by assumption) hko)<;>(try have hnk:=fresh_ne hk hko)<;>(try simp only [AH.put_none] at hko))|((with_reducible refine vapp_go ?_ (fun v2 H2 hacc hlec=>?_));· simp only [byteCells_length,List.length_cons,List.length_nil,List.length_map,List.length_append,vE_length,fldsE_length,strE_length,strE_len,blobsE_length];omega)|done)<;>(try simp -implicitDefEqProofs (disch:=omega) only [go_sem,wrap_id])))
    all_goals exact ⟨n - 1,by omega,i + 1,v2,by omega,rfl,hacc3⟩
  · rw [List.take_of_length_le (by omega)] at hacc
    have hk1 : G k = some (opC e L) := hacc.le _ _ (look_put hk hkr)
    have hg1 : G g = some .nodr := hacc.le _ _ (look_put hg hkr)
    have hr1 : G kr = some (.cells [.nilIface]) := hacc.le _ _ (AH.put_same _ _ _)
    have hle : H.le G := fun q o hq => hacc.le _ _ (look_put hq hkr)
    have hoi1 := hoi G hk1 hg1
    have hmc := fun Q => ACalls.sub (fun s => .cons (hacc.sub s) (.cons (fun _ h => h) .nil)) (map_calls (ks := ks) (l := R.getD []) (t := .no) (t2 := .no) (by omega) Q)
    repeat' (first|with_reducible refine go0 ?_|(with_reducible refine am_cnd ?_ ?_<;>intro hc<;>try (exfalso;omega))|((first|with_reducible (first|refine go1 ?_|refine vc_intro ?_|refine need_el ?_|refine vlen_a ?_|refine need_by ?_|refine call_turn (hoi1) ?_|refine call_of (hmc) ?_|refine qcall_of (hmc) ?_|refine need_lk ?_)|((with_reducible refine alloc_intro (fun ko hko=>?_))<;>(try have hne:=fresh_ne (by assumption) hko)<;>(try have hnk:=fresh_ne hk hko)<;>(try simp only [AH.put_none] at hko))|((with_reducible refine vapp_go ?_ (fun v2 H2 hacc hlec=>?_));· simp only [byteCells_length,List.length_cons,List.length_nil,List.length_map,List.length_append,vE_length,fldsE_length,strE_length,strE_len,blobsE_length];omega)|done)<;>(try simp -implicitDefEqProofs (disch:=omega) only [go_sem,wrap_id,blobsE_length])))
    revert ko
    intro kb hkb
    obtain ⟨hne2,hkb2⟩ := hkb
    refine call_turn (ofail_calls (look_ne (Ne.symm hne2) (AH.put_same _ _ _))) ?_
    generalize hX : opC (fe e (if R.isSome = true then 0 else 4)) L = X
    generalize hX2 : AObj.cells [V.int IntKind.i64 (fe (fe e (if R.isSome = true then 0 else 4)) (mapR ks (R.getD [])).2),V.sl 4 (fldsE L) Tok.no] = X2
    generalize hY : AObj.cells [vV (mapR ks (R.getD [])).1] = Y
    have hnk2 : kr ≠ k := Ne.symm hnk
    have hrb : kr ≠ kb := by rintro rfl; rw [hkb2] at hr1; cases hr1
    have f1 : (((G.put k X).put kb Y).put k X2) kb = some Y := look_ne hne2 (AH.put_same _ _ _)
    have f2 : (((G.put k X).put kb Y).put k X2) kr = some (.cells [.nilIface]) := look_ne hnk2 (look_ne hrb (look_ne hnk2 hr1))
    have f3 : ∀ o,(H.put k X2).le ((((G.put k X).put kb Y).put k X2).put kr o) := fun o q p hq => by
      by_cases hqk : q = k
      · subst hqk
        rw [AH.put_same] at hq; cases hq
        exact look_ne hnk (AH.put_same _ _ _)
      · rw [AH.put_ne _ _ hqk] at hq
        have hG := hle q p hq
        have n1 : q ≠ kr := by rintro rfl; rw [hkr] at hq; cases hq
        have n2 : q ≠ kb := by rintro rfl; rw [hkb2] at hG; cases hG
        exact look_ne n1 (look_ne hqk (look_ne n2 (look_ne hqk hG)))
    generalize (((G.put k X).put kb Y).put k X2) = H5 at *
    subst hY
    repeat' (first|with_reducible refine go0 ?_|(with_reducible refine am_cnd ?_ ?_<;>intro hc<;>try (exfalso;omega))|((first|with_reducible (first|refine go1 ?_|refine vc_intro ?_|refine need_el ?_|refine vlen_a ?_|refine need_by ?_|refine need_lk ?_)|((with_reducible refine alloc_intro (fun ko hko=>?_))<;>(try have hne:=fresh_ne (by assumption) hko)<;>(try have hnk:=fresh_ne hk hko)<;>(try simp only [AH.put_none] at hko))|((with_reducible refine vapp_go ?_ (fun v2 H2 hacc hlec=>?_));· simp only [byteCells_length,List.length_cons,List.length_nil,List.length_map,List.length_append,vE_length,fldsE_length,strE_length,strE_len,blobsE_length];omega)|done)<;>(try simp -implicitDefEqProofs (disch:=omega) only [go_sem])))
    rw [← hX2] at f3
    exact ⟨⟨_,rfl,fun _ _ h => h⟩,f3 _⟩
def openE (D : List UInt8 → Option Vl) (L : List Fld) : Int :=
  let e1 : Int := if (numS L 1).2 = true then 0 else fe 0 4
  let e2 : Int := if (numS L 2).2 = true then e1 else fe e1 4
  match (numS L 1).1 with
  | 2 => e2
  | 3 => e2
  | 4 => fe (if (numS L 3).2 = true then e2 else fe e2 4) (ptE (zagN (numS L 2).1) (zagN (numS L 3).1))
  | 5 => if manyT L 4 ≠ [] then e1 else fe e1 4
  | 6 => fe e1 (if (allO D (manyT L 5)).isSome = true then 0 else 4)
  | 7 => fe (fe e1 (if (allO D (manyT L 7)).isSome = true then 0 else 4)) (mapR (manyT L 6) ((allO D (manyT L 7)).getD [])).2
  | _ => e1
theorem openE_bad (D : List UInt8 → Option Vl) (L : List Fld) : openE D L ≠ 0 ↔ (openD D L).2 = true := by
  unfold openE openD
  generalize (numS L 1).1 = k
  generalize (numS L 1).2 = a
  generalize (numS L 2).2 = b
  generalize (numS L 3).2 = c
  generalize ptE (zagN (numS L 2).1) (zagN (numS L 3).1) = p
  generalize allO D (manyT L 5) = r5
  generalize allO D (manyT L 7) = r7
  generalize manyT L 4 = m4
  generalize (mapR (manyT L 6) (r7.getD [])).2 = mr
  rcases k with _ | _ | _ | _ | _ | _ | _ | _ | k <;> cases a <;> cases b <;> cases c <;> cases r5 <;> cases r7 <;> cases m4 <;> simp [fe]
end Go.Proofs.YtkldmgnhbomknaaGreat
