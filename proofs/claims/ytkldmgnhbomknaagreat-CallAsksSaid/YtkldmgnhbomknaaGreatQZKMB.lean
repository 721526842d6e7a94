/- Contracts of functions of the given program. Conditions: as each theorem says. -/
import Derived.Test.YtkldmgnhbomknaaGreatQZKMA
import Derived.Test.YtkldmgnhbomknaaGreatVmV
set_option linter.unusedVariables false
set_option linter.unusedSimpArgs false
namespace Go.Proofs.YtkldmgnhbomknaaGreat.Msg
open Go.Vm
attribute [local go_sem] eq_self decide_true decide_false AH.put_ne
attribute [local go_sem_proc] Nat.reduceBEq Nat.reduceAdd Nat.reduceSub Nat.reduceMul Nat.reduceEqDiff Nat.reduceLeDiff Nat.reduceLT Int.reduceLE Int.reduceLT Int.reduceToNat Int.reduceAdd Int.reduceEq Int.reduceNeg
attribute [local go_sem] byteCells_get byteCells_length byteCells_take byteCells_drop bytes_cells fldC fldsE_get fldsE_length List.drop_zero bytesOf_cells toNat_succ Nat.sub_zero Int.toNat_natCast Option.map_some Int.natCast_nonneg decide_eq_true_eq decide_eq_false_iff_not
/- flange/message.Encode -/
abbrev k53_0 : MC :=
 .cond (.t 14) ((.seq (.reg [
 vl 2 (.mv (.c .nilSl)),
 vl 3 (.mv (.c (.int .i64 3)))] [2,3]) (.ret))) (.skip)
abbrev k53_1 : MC :=
 .reg [
 mv 21 4,
 vl 22 (.faddr 3 (.t 6)),
 vl 23 (.load false 1 (.t 22)),
 vl 24 (.len .sl (.t 23)),
 vl 25 (.bin .add .num (.t 21) (.t 24)),
 vl 26 (.mx false (.t 25) (.c (.int .i64 4097))),
 mv 4 26] [0,4,15,16,17]
abbrev k53_2 : MC :=
 .reg [
 vl 27 (.bin .add .num (.t 17) (.c (.int .i64 1))),
 mv 17 27] [0,4,15,16,17]
abbrev k53_3 : MC :=
 (.seq (.block 1 ((.seq (.reg [
 vl 19 (.iaddr 4 (.t 15) (.t 17)),
 vl 20 (.load true 4 (.t 19)),
 ⟨some 6,none,.zalloc [(.int .i64 0),(.bool false),(.int .u64 0),.nilSl]⟩,
 ⟨none,none,.store 4 (.t 6) (.t 20)⟩] [0,4,6,15,16,17]) k53_1))) k53_2)
abbrev k53_4 : MC :=
 (.seq (.cond (.t 18) (.skip) (.exit 0)) k53_3)
abbrev k53_5 : MC :=
 (.seq (.reg [
 vl 18 (.bin .lss .num (.t 17) (.t 16))] [0,4,15,16,17,18]) k53_4)
abbrev k53_6 : MC :=
 .block 0 (.loop k53_5)
abbrev k53_7 : MC :=
 .cond (.t 29) ((.seq (.reg [
 vl 2 (.mv (.c .nilSl)),
 vl 3 (.mv (.c (.int .i64 3)))] [2,3]) (.ret))) (.skip)
abbrev k53_8 : MC :=
 .cond (.t 49) (.reg [
 vl 50 (.load true 4 (.t 11)),
 mv 51 7,
 ⟨some 52,none,.call 73 [(.t 50),(.t 51)]⟩,
 mv 7 52] [7,8,9,11,30,31,32]) (.skip)
abbrev k53_9 : MC :=
 .reg [
 vl 53 (.load true 4 (.t 11)),
 ⟨none,none,.store 4 (.t 8) (.t 53)⟩] [7,8,9,30,31,32]
abbrev k53_10 : MC :=
 (.seq ((.seq (.reg [
 mv 48 9,
 vl 49 (.not (.t 48))] [7,8,9,11,30,31,32,49]) k53_8)) k53_9)
abbrev k53_11 : MC :=
 (.seq (.reg [
 mv 36 9,
 mv 37 36,
 ⟨some 38,(some (37,false)),.val (.load true 4 (.t 11))⟩,
 ⟨some 39,(some (37,false)),.call 71 [(.t 38)]⟩,
 ⟨some 40,(some (37,false)),.val (.not (.t 39))⟩,
 vl 41 (.pick (.t 37) (.c (.bool true)) (.t 40)),
 mv 42 41,
 ⟨some 43,(some (42,false)),.val (.load true 4 (.t 11))⟩,
 ⟨some 44,(some (42,false)),.val (.load true 4 (.t 8))⟩,
 ⟨some 45,(some (42,false)),.call 72 [(.t 43),(.t 44)]⟩,
 ⟨some 46,(some (42,false)),.val (.not (.t 45))⟩,
 vl 47 (.pick (.t 42) (.c (.bool true)) (.t 46)),
 mv 9 47] [7,8,9,11,30,31,32]) k53_10)
abbrev k53_12 : MC :=
 .reg [
 vl 54 (.bin .add .num (.t 32) (.c (.int .i64 1))),
 mv 32 54] [7,8,9,30,31,32]
abbrev k53_13 : MC :=
 (.seq (.block 3 ((.seq (.reg [
 vl 34 (.iaddr 4 (.t 30) (.t 32)),
 vl 35 (.load true 4 (.t 34)),
 ⟨some 11,none,.zalloc [(.int .i64 0),(.bool false),(.int .u64 0),.nilSl]⟩,
 ⟨none,none,.store 4 (.t 11) (.t 35)⟩] [7,8,9,11,30,31,32]) k53_11))) k53_12)
abbrev k53_14 : MC :=
 (.seq (.cond (.t 33) (.skip) (.exit 2)) k53_13)
abbrev k53_15 : MC :=
 (.seq (.reg [
 vl 33 (.bin .lss .num (.t 32) (.t 31))] [7,8,9,30,31,32,33]) k53_14)
abbrev k53_16 : MC :=
 .block 2 (.loop k53_15)
abbrev k53_17 : MC :=
 .cond (.t 57) ((.seq (.reg [
 vl 2 (.mv (.c .nilSl)),
 vl 3 (.mv (.c (.int .i64 3)))] [2,3]) (.ret))) (.skip)
abbrev k53_18 : MC :=
 .cond (.t 55) ((.seq (.reg [
 vl 2 (.mv (.c .nilSl)),
 vl 3 (.mv (.c (.int .i64 1)))] [2,3]) (.ret))) ((.seq (.reg [
 mv 58 7,
 vl 59 (.len .sl (.t 58)),
 vl 60 (.bin .gtr .num (.t 59) (.c (.int .i64 4096))),
 mv 57 60] [7,57]) k53_17))
abbrev k53_19 : MC :=
 (.seq (.reg [
 mv 61 7,
 mv 2 61,
 vl 3 (.mv (.c (.int .i64 0)))] [2,3]) (.ret))
abbrev k53_20 : MC :=
 (.seq (.block 4 ((.seq (.reg [
 mv 56 9,
 mv 55 56] [7,55]) k53_18))) k53_19)
abbrev k53_21 : MC :=
 (.seq ((.seq (.reg [
 mv 30 0,
 vl 31 (.len .sl (.t 30)),
 vl 32 (.mv (.c (.int .i64 0)))] [7,8,9,30,31,32]) k53_16)) k53_20)
abbrev k53_22 : MC :=
 (.seq (.reg [
 vl 9 (.mv (.c (.bool false)))] [0,7,8,9]) k53_21)
abbrev k53_23 : MC :=
 (.seq (.reg [
 ⟨some 8,none,.zalloc [(.int .i64 0),(.bool false),(.int .u64 0),.nilSl]⟩] [0,7,8]) k53_22)
abbrev k53_24 : MC :=
 (.seq (.reg [
 vl 7 (.mv (.c .nilSl))] [0,7]) k53_23)
abbrev k53_25 : MC :=
 (.seq ((.seq (.reg [
 mv 28 4,
 vl 29 (.bin .gtr .num (.t 28) (.c (.int .i64 4096)))] [0,29]) k53_7)) k53_24)
abbrev k53_26 : MC :=
 (.seq ((.seq (.reg [
 mv 15 0,
 vl 16 (.len .sl (.t 15)),
 vl 17 (.mv (.c (.int .i64 0)))] [0,4,15,16,17]) k53_6)) k53_25)
abbrev k53_27 : MC :=
 (.seq (.reg [
 vl 4 (.mv (.c (.int .i64 0)))] [0,4]) k53_26)
abbrev k53_28 : MC :=
 (.seq ((.seq (.reg [
 mv 12 0,
 vl 13 (.len .sl (.t 12)),
 vl 14 (.bin .gtr .num (.t 13) (.c (.int .i64 64)))] [0,14]) k53_0)) k53_27)
abbrev k53 : MC :=
 (.seq (.reg [
 vl 2 (.mv (.c .nilSl)),
 vl 3 (.mv (.c (.int .i64 0)))] [0]) k53_28)
theorem c53 : Tryz.f53.body.bind (mcOf Tryz.prog (List.contains [] ·) (List.getD [([],[0]),([],[0,14]),([],[2,3]),([],[0,4]),([],[0,4,15,16,17]),([],[0,4,15,16,17,18]),([],[0,4,6,15,16,17]),([],[0,4,15,16,17]),([],[0,4,15,16,17]),([],[0,29]),([],[2,3]),([],[0,7]),([],[0,7,8]),([],[0,7,8,9]),([],[7,8,9,30,31,32]),([],[7,8,9,30,31,32,33]),([],[7,8,9,11,30,31,32]),([],[7,8,9,11,30,31,32]),([],[7,8,9,11,30,31,32,49]),([],[7,8,9,11,30,31,32]),([],[7,8,9,30,31,32]),([],[7,8,9,30,31,32]),([],[7,55]),([],[2,3]),([],[7,57]),([],[2,3]),([],[2,3])] · ([],[])) 62) = some k53 := by kernel_rfl
theorem r53 : rvsOf Tryz.prog Tryz.f53.results.toList = some [.tmp 2,.tmp 3] := by kernel_rfl
theorem encode_calls {l : List Fld} {t : Tok} (hl : l.length < 100000000) (ho : ∀ f ∈ l,f.n < 18446744073709551616 ∧ f.b.length < 10000000) (H : AH) :
    ACalls Tryz.prog 53 [.sl 4 (fldsE l) t] H (fun o H' => o = .ret (.tuple [.sl 1 (byteCells (encS l).1) .no,.int .i64 (encS l).2]) ∧ H' = H) := by
  refine ACalls.drop ?_
  refine acalls Tryz.func53 c53 r53 (by simp [Tryz.ntmps53]) ?_
  by_cases h64 : 64 < l.length
  · repeat' (first|with_reducible refine go0 ?_|(with_reducible refine am_cnd ?_ ?_<;>intro hc<;>try (exfalso;omega))|((first|with_reducible (first|refine go1 ?_|refine vc_intro ?_|refine need_el ?_|refine vlen_a ?_|refine need_by ?_|refine need_lk ?_)|((with_reducible (first|apply gd_not|apply gd_of|apply gq_not|apply gq_of|apply pickB_of))<;>intro hc<;>(try simp -implicitDefEqProofs (disch:=omega) only [go_sem,hc,wrap_id])<;>(try simp only [reduceCtorEq,bD,beq_iff_eq] at hc)<;>(try (exfalso;omega)))|((with_reducible refine alloc_intro (fun ko hko=>?_))<;>(try have hne:=fresh_ne (by assumption) hko)<;>(try simp only [AH.put_none] at hko))|done)<;>(try simp -implicitDefEqProofs (disch:=omega) only [go_sem,wrap_id])))
    rw [show encS l = ([],3) by rw [encS,if_pos (.inl h64)]]
    (refine drop_end (by (first | exact fun _ _ h => h | (intro s x h; first | exact no_sub _ h | exact nil_no _ h | exact AccP.sub (by assumption) _ _ h | (refine agg_sub rfl ?_ x h; repeat (first | exact .nil | refine .cons (fun _ h => h) ?_ | refine .cons (fun _ h => nil_no _ h) ?_ | refine .cons (fun _ h => no_sub _ h) ?_ | refine .cons (fun _ h => AccP.sub (by assumption) _ _ h) ?_)) | (refine tuple_sub ?_ x h; repeat (first | exact .nil | refine .cons (fun _ h => h) ?_ | refine .cons (fun _ h => nil_no _ h) ?_ | refine .cons (fun _ h => no_sub _ h) ?_ | refine .cons (fun _ h => AccP.sub (by assumption) _ _ h) ?_ | refine .cons (fun _ h => agg_sub rfl (by repeat (first | exact .nil | refine .cons (fun _ h => h) ?_ | refine .cons (fun _ h => nil_no _ h) ?_ | refine .cons (fun _ h => no_sub _ h) ?_ | refine .cons (fun _ h => AccP.sub (by assumption) _ _ h) ?_)) _ h) ?_))))) (by (repeat (first | exact AH.le_refl _ | assumption | exact AccP.le (by assumption) | refine AH.le_put ?_ (by first | assumption | exact none_of_le (by assumption) (by assumption) | exact And.right (by assumption) | exact And.right (And.right (by assumption))) _ | refine AH.le_trans ?_ (AccP.le (by assumption))))))
  · have hall : ∀ i (h : i < l.length),l[i].n < 18446744073709551616 ∧ l[i].b.length < 10000000 := fun i h => ho _ (List.getElem_mem h)
    repeat' (first|with_reducible refine go0 ?_|(with_reducible refine am_cnd ?_ ?_<;>intro hc<;>try (exfalso;omega))|((first|with_reducible (first|refine go1 ?_|refine vc_intro ?_|refine need_el ?_|refine vlen_a ?_|refine need_by ?_|refine need_lk ?_)|((with_reducible (first|apply gd_not|apply gd_of|apply gq_not|apply gq_of|apply pickB_of))<;>intro hc<;>(try simp -implicitDefEqProofs (disch:=omega) only [go_sem,hc,wrap_id])<;>(try simp only [reduceCtorEq,bD,beq_iff_eq] at hc)<;>(try (exfalso;omega)))|((with_reducible refine alloc_intro (fun ko hko=>?_))<;>(try have hne:=fresh_ne (by assumption) hko)<;>(try simp only [AH.put_none] at hko))|done)<;>(try simp -implicitDefEqProofs (disch:=omega) only [go_sem,wrap_id])))
    refine am_loop (fun n a H' => ∃ i : Nat,i + n = l.length ∧ a = [(0,V.sl 4 (fldsE l) t),(4,V.int IntKind.i64 (min (sizeL (l.take i)) 4097 : Nat)),(15,V.sl 4 (fldsE l) t),(16,V.int IntKind.i64 ↑l.length),(17,V.int IntKind.i64 i)] ∧ H.le H') ?_ l.length ⟨0,by omega,by simp [sizeL],AH.le_refl _⟩
    rintro n a H' ⟨i,hi,rfl,hle⟩
    by_cases hlt : i < l.length
    · have hs := sizeL_take l i hlt
      have hb := (hall i hlt).2
      repeat' (first|with_reducible refine go0 ?_|(with_reducible refine am_cnd ?_ ?_<;>intro hc<;>try (exfalso;omega))|((first|with_reducible (first|refine go1 ?_|refine vc_intro ?_|refine need_el ?_|refine vlen_a ?_|refine need_by ?_|refine need_lk ?_)|((with_reducible (first|apply gd_not|apply gd_of|apply gq_not|apply gq_of|apply pickB_of))<;>intro hc<;>(try simp -implicitDefEqProofs (disch:=omega) only [go_sem,hc,wrap_id,get_of_lt hlt])<;>(try simp only [reduceCtorEq,bD,beq_iff_eq] at hc)<;>(try (exfalso;omega)))|((with_reducible refine alloc_intro (fun ko hko=>?_))<;>(try have hne:=fresh_ne (by assumption) hko)<;>(try simp only [AH.put_none] at hko))|done)<;>(try simp -implicitDefEqProofs (disch:=omega) only [go_sem,wrap_id,get_of_lt hlt])))
      refine ⟨n - 1,by omega,i + 1,by omega,?_,by (repeat (first | exact AH.le_refl _ | assumption | exact AccP.le (by assumption) | refine AH.le_put ?_ (by first | assumption | exact none_of_le (by assumption) (by assumption) | exact And.right (by assumption) | exact And.right (And.right (by assumption))) _ | refine AH.le_trans ?_ (AccP.le (by assumption))))⟩
      rw [hs]
      simp only [List.cons.injEq,Prod.mk.injEq,V.int.injEq,true_and,and_true]
      refine ⟨?_,by simp⟩
      omega
    · repeat' (first|with_reducible refine go0 ?_|(with_reducible refine am_cnd ?_ ?_<;>intro hc<;>try (exfalso;omega))|((first|with_reducible (first|refine go1 ?_|refine vc_intro ?_|refine need_el ?_|refine vlen_a ?_|refine need_by ?_|refine need_lk ?_)|((with_reducible (first|apply gd_not|apply gd_of|apply gq_not|apply gq_of|apply pickB_of))<;>intro hc<;>(try simp -implicitDefEqProofs (disch:=omega) only [go_sem,hc,wrap_id])<;>(try simp only [reduceCtorEq,bD,beq_iff_eq] at hc)<;>(try (exfalso;omega)))|((with_reducible refine alloc_intro (fun ko hko=>?_))<;>(try have hne:=fresh_ne (by assumption) hko)<;>(try simp only [AH.put_none] at hko))|done)<;>(try simp -implicitDefEqProofs (disch:=omega) only [go_sem,wrap_id])))
      · rw [List.take_of_length_le (by omega)] at hc
        rw [show encS l = ([],3) by rw [encS,if_pos (.inr (by omega))]]
        (refine drop_end (by (first | exact fun _ _ h => h | (intro s x h; first | exact no_sub _ h | exact nil_no _ h | exact AccP.sub (by assumption) _ _ h | (refine agg_sub rfl ?_ x h; repeat (first | exact .nil | refine .cons (fun _ h => h) ?_ | refine .cons (fun _ h => nil_no _ h) ?_ | refine .cons (fun _ h => no_sub _ h) ?_ | refine .cons (fun _ h => AccP.sub (by assumption) _ _ h) ?_)) | (refine tuple_sub ?_ x h; repeat (first | exact .nil | refine .cons (fun _ h => h) ?_ | refine .cons (fun _ h => nil_no _ h) ?_ | refine .cons (fun _ h => no_sub _ h) ?_ | refine .cons (fun _ h => AccP.sub (by assumption) _ _ h) ?_ | refine .cons (fun _ h => agg_sub rfl (by repeat (first | exact .nil | refine .cons (fun _ h => h) ?_ | refine .cons (fun _ h => nil_no _ h) ?_ | refine .cons (fun _ h => no_sub _ h) ?_ | refine .cons (fun _ h => AccP.sub (by assumption) _ _ h) ?_)) _ h) ?_))))) (by (repeat (first | exact AH.le_refl _ | assumption | exact AccP.le (by assumption) | refine AH.le_put ?_ (by first | assumption | exact none_of_le (by assumption) (by assumption) | exact And.right (by assumption) | exact And.right (And.right (by assumption))) _ | refine AH.le_trans ?_ (AccP.le (by assumption))))))
      · rw [List.take_of_length_le (by omega)] at hc
        have hsz : sizeL l ≤ 4096 := by omega
        have hsm : ∀ j (h : j < l.length),l[j].b.length ≤ 4096 := fun j h => Nat.le_trans (size_mem h) hsz
        refine AM.subC (ds := fldC f0) ?_ (AH.put_same _ _ _) rfl (fun s => by repeat (first | exact .nil | refine .cons (fun _ h => h) ?_ | refine .cons (fun _ h => nil_no _ h) ?_ | refine .cons (fun _ h => no_sub _ h) ?_ | refine .cons (fun _ h => AccP.sub (by assumption) _ _ h) ?_))
        rw [AH.put_put]
        have hko1 := none_of_le hle hko
        refine am_loop (fun n a H2 => ∃ (j : Nat) (v : V) (acc : List UInt8) (wrong : Bool) (last : Fld),j + n = l.length ∧ a = [(7,v),(8,V.ptr ko 0),(9,V.bool wrong),(30,V.sl 4 (fldsE l) t),(31,V.int IntKind.i64 ↑l.length),(32,V.int IntKind.i64 j)] ∧
          AccP H 1 (byteCells acc) v H2 ∧ H2 ko = some (.cells (fldC last)) ∧ acc.length ≤ j * 10020 ∧ fitsL f0 l = (!wrong && fitsL last (l.drop j)) ∧ (wrong = false → layL l = acc ++ layL (l.drop j))) ?_ l.length ⟨0,.nilSl,[],false,f0,by omega,rfl,⟨AH.le_put hle hko1 _,.inl ⟨rfl,rfl⟩⟩,AH.put_same _ _ _,by simp,by simp,by simp⟩
        rintro n a H2 ⟨j,v,acc,wrong,last,hj,rfl,hacc,hlast,hal,hfit,hlay⟩
        by_cases hlt2 : j < l.length
        · rw [List.drop_eq_getElem_cons hlt2,fitsL] at hfit
          rw [List.drop_eq_getElem_cons hlt2] at hlay
          have hsm2 := hsm j hlt2
          have hnn := (hall j hlt2).1
          have turn : ∀ (v' : V) (H3 : AH) (l' : List UInt8) (p : AObj),AccP H 1 (byteCells l') v' H3 → H3 ko = some (.cells (fldC last)) → AccP H 1 (byteCells l') v' (H3.put ko p) := fun v' H3 l' p h1 h2 => AccP.turn h1 hko1 h2 p
          cases hw : wrong
          · subst hw
            cases hr : rightF l[j]
            · repeat' (first|with_reducible refine go0 ?_|(with_reducible refine am_cnd ?_ ?_<;>intro hc<;>try (exfalso;omega))|((first|with_reducible (first|refine go1 ?_|refine vc_intro ?_|refine need_el ?_|refine vlen_a ?_|refine need_by ?_|refine call_of (fright_calls) ?_|refine qcall_of (fright_calls) ?_|refine call_of (behind_calls) ?_|refine qcall_of (behind_calls) ?_|refine need_lk ?_)|((with_reducible (first|apply gd_not|apply gd_of|apply gq_not|apply gq_of|apply pickB_of))<;>intro hc<;>(try simp -implicitDefEqProofs (disch:=omega) only [go_sem,hc,wrap_id,get_of_lt hlt2,hr])<;>(try simp only [reduceCtorEq,bD,beq_iff_eq] at hc)<;>(try (exfalso;omega)))|((with_reducible refine alloc_intro (fun ko hko=>?_))<;>(try have hne:=fresh_ne (by assumption) hko)<;>(try simp only [AH.put_none] at hko))|done)<;>(try simp -implicitDefEqProofs (disch:=omega) only [go_sem,wrap_id,get_of_lt hlt2,hr])))
              refine ⟨n - 1,by omega,j + 1,_,acc,true,l[j],by omega,?_,turn _ _ _ _ (hacc.new (by assumption) _) (look_put hlast (by assumption)),by first | exact AH.put_same _ _ _ | rfl,Nat.le_trans hal (Nat.mul_le_mul_right _ (by omega)),?_,by simp⟩
              · simp
              · simp [hfit,fitsF,hr]
            · have htag := right_tag hr
              have hll := layF_len htag hnn (by omega)
              cases hb : behindF l[j] last
              · repeat' (first|with_reducible refine go0 ?_|(with_reducible refine am_cnd ?_ ?_<;>intro hc<;>try (exfalso;omega))|((first|with_reducible (first|refine go1 ?_|refine vc_intro ?_|refine need_el ?_|refine vlen_a ?_|refine need_by ?_|refine call_of (fright_calls) ?_|refine qcall_of (fright_calls) ?_|refine call_of (behind_calls) ?_|refine qcall_of (behind_calls) ?_|refine need_lk ?_)|((with_reducible (first|apply gd_not|apply gd_of|apply gq_not|apply gq_of|apply pickB_of))<;>intro hc<;>(try simp -implicitDefEqProofs (disch:=omega) only [go_sem,hc,wrap_id,get_of_lt hlt2,hr,hb])<;>(try simp only [reduceCtorEq,bD,beq_iff_eq] at hc)<;>(try (exfalso;omega)))|((with_reducible refine alloc_intro (fun ko hko=>?_))<;>(try have hne:=fresh_ne (by assumption) hko)<;>(try simp only [AH.put_none] at hko))|done)<;>(try simp -implicitDefEqProofs (disch:=omega) only [go_sem,wrap_id,get_of_lt hlt2,hr,hb])))
                refine ⟨n - 1,by omega,j + 1,_,acc,true,l[j],by omega,?_,turn _ _ _ _ (hacc.new (by assumption) _) (look_put hlast (by assumption)),by first | exact AH.put_same _ _ _ | rfl,Nat.le_trans hal (Nat.mul_le_mul_right _ (by omega)),?_,by simp⟩
                · simp
                · simp [hfit,fitsF,hr,hb]
              · repeat' (first|with_reducible refine go0 ?_|(with_reducible refine am_cnd ?_ ?_<;>intro hc<;>try (exfalso;omega))|((first|with_reducible (first|refine go1 ?_|refine vc_intro ?_|refine need_el ?_|refine vlen_a ?_|refine need_by ?_|refine call_of (fright_calls) ?_|refine qcall_of (fright_calls) ?_|refine call_of (behind_calls) ?_|refine qcall_of (behind_calls) ?_|refine need_lk ?_)|((with_reducible (first|apply gd_not|apply gd_of|apply gq_not|apply gq_of|apply pickB_of))<;>intro hc<;>(try simp -implicitDefEqProofs (disch:=omega) only [go_sem,hc,wrap_id,get_of_lt hlt2,hr,hb])<;>(try simp only [reduceCtorEq,bD,beq_iff_eq] at hc)<;>(try (exfalso;omega)))|((with_reducible refine alloc_intro (fun ko hko=>?_))<;>(try have hne:=fresh_ne (by assumption) hko)<;>(try simp only [AH.put_none] at hko))|((with_reducible refine call_ex (lay_calls (hacc.new (by assumption) _) (by omega) ⟨hnn,by omega⟩ htag) (fun v H2 hr=>?_));obtain ⟨hacc,hlec⟩:=hr)|done)<;>(try simp -implicitDefEqProofs (disch:=omega) only [go_sem,wrap_id,get_of_lt hlt2,hr,hb])))
                refine need_look (look_lec (AH.put_same _ _ _) hlec) ?_
                simp -implicitDefEqProofs (disch := omega) only [go_sem]
                refine need_look (look_lec (look_put hlast (by assumption)) hlec) ?_
                simp -implicitDefEqProofs (disch := omega) only [go_sem]
                repeat' (first|with_reducible refine go0 ?_|(with_reducible refine am_cnd ?_ ?_<;>intro hc<;>try (exfalso;omega))|((first|with_reducible (first|refine go1 ?_|refine vc_intro ?_|refine need_el ?_|refine vlen_a ?_|refine need_by ?_|refine need_lk ?_)|((with_reducible (first|apply gd_not|apply gd_of|apply gq_not|apply gq_of|apply pickB_of))<;>intro hc<;>(try simp -implicitDefEqProofs (disch:=omega) only [go_sem,hc,wrap_id])<;>(try simp only [reduceCtorEq,bD,beq_iff_eq] at hc)<;>(try (exfalso;omega)))|((with_reducible refine alloc_intro (fun ko hko=>?_))<;>(try have hne:=fresh_ne (by assumption) hko)<;>(try simp only [AH.put_none] at hko))|done)<;>(try simp -implicitDefEqProofs (disch:=omega) only [go_sem,wrap_id])))
                refine ⟨n - 1,by omega,j + 1,_,acc ++ layF l[j],false,l[j],by omega,?_,turn _ _ _ _ (by assumption) (by (first | exact AH.put_same _ _ _ | exact (by assumption) | exact (look_put (by assumption) (by assumption)) | exact (look_lec (by assumption) (by assumption)) | exact (look_put (AH.put_same _ _ _) (by assumption)) | exact (look_lec (AH.put_same _ _ _) (by assumption)) | exact (look_put (look_put (by assumption) (by assumption)) (by assumption)) | exact (look_lec (look_put (by assumption) (by assumption)) (by assumption)) | exact (look_put (look_lec (by assumption) (by assumption)) (by assumption)) | exact (look_lec (look_lec (by assumption) (by assumption)) (by assumption)) | exact (look_put (look_put (AH.put_same _ _ _) (by assumption)) (by assumption)) | exact (look_lec (look_put (AH.put_same _ _ _) (by assumption)) (by assumption)) | exact (look_put (look_lec (AH.put_same _ _ _) (by assumption)) (by assumption)) | exact (look_lec (look_lec (AH.put_same _ _ _) (by assumption)) (by assumption)))),by first | exact AH.put_same _ _ _ | rfl,?_,?_,?_⟩
                · simp
                · simp only [List.length_append]; omega
                · simp [hfit,fitsF,hr,hb]
                · intro _; rw [hlay rfl]; simp only [layL,List.flatMap_cons,List.append_assoc]
          · subst hw
            repeat' (first|with_reducible refine go0 ?_|(with_reducible refine am_cnd ?_ ?_<;>intro hc<;>try (exfalso;omega))|((first|with_reducible (first|refine go1 ?_|refine vc_intro ?_|refine need_el ?_|refine vlen_a ?_|refine need_by ?_|refine call_of (fright_calls) ?_|refine qcall_of (fright_calls) ?_|refine call_of (behind_calls) ?_|refine qcall_of (behind_calls) ?_|refine need_lk ?_)|((with_reducible (first|apply gd_not|apply gd_of|apply gq_not|apply gq_of|apply pickB_of))<;>intro hc<;>(try simp -implicitDefEqProofs (disch:=omega) only [go_sem,hc,wrap_id,get_of_lt hlt2])<;>(try simp only [reduceCtorEq,bD,beq_iff_eq] at hc)<;>(try (exfalso;omega)))|((with_reducible refine alloc_intro (fun ko hko=>?_))<;>(try have hne:=fresh_ne (by assumption) hko)<;>(try simp only [AH.put_none] at hko))|done)<;>(try simp -implicitDefEqProofs (disch:=omega) only [go_sem,wrap_id,get_of_lt hlt2])))
            refine ⟨n - 1,by omega,j + 1,_,acc,true,l[j],by omega,?_,turn _ _ _ _ (hacc.new (by assumption) _) (look_put hlast (by assumption)),by first | exact AH.put_same _ _ _ | rfl,Nat.le_trans hal (Nat.mul_le_mul_right _ (by omega)),?_,by simp⟩
            · simp
            · simp [hfit]
        · rw [List.drop_eq_nil_of_le (by omega)] at hfit hlay
          have hsz' : ¬ (64 < l.length ∨ 4096 < sizeL l) := by omega
          repeat' (first|with_reducible refine go0 ?_|(with_reducible refine am_cnd ?_ ?_<;>intro hc<;>try (exfalso;omega))|((first|with_reducible (first|refine go1 ?_|refine vc_intro ?_|refine need_el ?_|refine vlen_a ?_|refine need_by ?_|refine need_lk ?_)|((with_reducible (first|apply gd_not|apply gd_of|apply gq_not|apply gq_of|apply pickB_of))<;>intro hc<;>(try simp -implicitDefEqProofs (disch:=omega) only [go_sem,hc,wrap_id])<;>(try simp only [reduceCtorEq,bD,beq_iff_eq] at hc)<;>(try (exfalso;omega)))|((with_reducible refine alloc_intro (fun ko hko=>?_))<;>(try have hne:=fresh_ne (by assumption) hko)<;>(try simp only [AH.put_none] at hko))|done)<;>(try simp -implicitDefEqProofs (disch:=omega) only [go_sem,wrap_id])))
          · rw [show encS l = ([],1) by rw [encS,if_neg hsz',if_pos (by simp_all)]]
            (refine drop_end (by (first | exact fun _ _ h => h | (intro s x h; first | exact no_sub _ h | exact nil_no _ h | exact AccP.sub (by assumption) _ _ h | (refine agg_sub rfl ?_ x h; repeat (first | exact .nil | refine .cons (fun _ h => h) ?_ | refine .cons (fun _ h => nil_no _ h) ?_ | refine .cons (fun _ h => no_sub _ h) ?_ | refine .cons (fun _ h => AccP.sub (by assumption) _ _ h) ?_)) | (refine tuple_sub ?_ x h; repeat (first | exact .nil | refine .cons (fun _ h => h) ?_ | refine .cons (fun _ h => nil_no _ h) ?_ | refine .cons (fun _ h => no_sub _ h) ?_ | refine .cons (fun _ h => AccP.sub (by assumption) _ _ h) ?_ | refine .cons (fun _ h => agg_sub rfl (by repeat (first | exact .nil | refine .cons (fun _ h => h) ?_ | refine .cons (fun _ h => nil_no _ h) ?_ | refine .cons (fun _ h => no_sub _ h) ?_ | refine .cons (fun _ h => AccP.sub (by assumption) _ _ h) ?_)) _ h) ?_))))) (by (repeat (first | exact AH.le_refl _ | assumption | exact AccP.le (by assumption) | refine AH.le_put ?_ (by first | assumption | exact none_of_le (by assumption) (by assumption) | exact And.right (by assumption) | exact And.right (And.right (by assumption))) _ | refine AH.le_trans ?_ (AccP.le (by assumption))))))
          · have e := hlay (by assumption)
            rw [show encS l = ([],3) by rw [encS,if_neg hsz',if_neg (by simp_all [fitsL]),if_pos (by rw [e]; simp [layL]; omega)]]
            (refine drop_end (by (first | exact fun _ _ h => h | (intro s x h; first | exact no_sub _ h | exact nil_no _ h | exact AccP.sub (by assumption) _ _ h | (refine agg_sub rfl ?_ x h; repeat (first | exact .nil | refine .cons (fun _ h => h) ?_ | refine .cons (fun _ h => nil_no _ h) ?_ | refine .cons (fun _ h => no_sub _ h) ?_ | refine .cons (fun _ h => AccP.sub (by assumption) _ _ h) ?_)) | (refine tuple_sub ?_ x h; repeat (first | exact .nil | refine .cons (fun _ h => h) ?_ | refine .cons (fun _ h => nil_no _ h) ?_ | refine .cons (fun _ h => no_sub _ h) ?_ | refine .cons (fun _ h => AccP.sub (by assumption) _ _ h) ?_ | refine .cons (fun _ h => agg_sub rfl (by repeat (first | exact .nil | refine .cons (fun _ h => h) ?_ | refine .cons (fun _ h => nil_no _ h) ?_ | refine .cons (fun _ h => no_sub _ h) ?_ | refine .cons (fun _ h => AccP.sub (by assumption) _ _ h) ?_)) _ h) ?_))))) (by (repeat (first | exact AH.le_refl _ | assumption | exact AccP.le (by assumption) | refine AH.le_put ?_ (by first | assumption | exact none_of_le (by assumption) (by assumption) | exact And.right (by assumption) | exact And.right (And.right (by assumption))) _ | refine AH.le_trans ?_ (AccP.le (by assumption))))))
          · have e := hlay (by assumption)
            have e2 : layL l = acc := by rw [e]; simp [layL]
            rw [show encS l = (acc,0) by rw [encS,if_neg hsz',if_neg (by simp_all [fitsL]),if_neg (by rw [e2]; omega),e2]]
            (refine drop_end (by (first | exact fun _ _ h => h | (intro s x h; first | exact no_sub _ h | exact nil_no _ h | exact AccP.sub (by assumption) _ _ h | (refine agg_sub rfl ?_ x h; repeat (first | exact .nil | refine .cons (fun _ h => h) ?_ | refine .cons (fun _ h => nil_no _ h) ?_ | refine .cons (fun _ h => no_sub _ h) ?_ | refine .cons (fun _ h => AccP.sub (by assumption) _ _ h) ?_)) | (refine tuple_sub ?_ x h; repeat (first | exact .nil | refine .cons (fun _ h => h) ?_ | refine .cons (fun _ h => nil_no _ h) ?_ | refine .cons (fun _ h => no_sub _ h) ?_ | refine .cons (fun _ h => AccP.sub (by assumption) _ _ h) ?_ | refine .cons (fun _ h => agg_sub rfl (by repeat (first | exact .nil | refine .cons (fun _ h => h) ?_ | refine .cons (fun _ h => nil_no _ h) ?_ | refine .cons (fun _ h => no_sub _ h) ?_ | refine .cons (fun _ h => AccP.sub (by assumption) _ _ h) ?_)) _ h) ?_))))) (by (repeat (first | exact AH.le_refl _ | assumption | exact AccP.le (by assumption) | refine AH.le_put ?_ (by first | assumption | exact none_of_le (by assumption) (by assumption) | exact And.right (by assumption) | exact And.right (And.right (by assumption))) _ | refine AH.le_trans ?_ (AccP.le (by assumption))))))
end Go.Proofs.YtkldmgnhbomknaaGreat.Msg
namespace Go.Proofs.YtkldmgnhbomknaaGreat.Msg
open Go.Vm
attribute [local go_sem] eq_self decide_true decide_false AH.put_ne
attribute [local go_sem_proc] Nat.reduceBEq Nat.reduceAdd Nat.reduceSub Nat.reduceMul Nat.reduceEqDiff Nat.reduceLeDiff Nat.reduceLT Int.reduceLE Int.reduceLT Int.reduceToNat Int.reduceAdd Int.reduceEq Int.reduceNeg
attribute [local go_sem] byteCells_get byteCells_length byteCells_take byteCells_drop bytes_cells fldC fldsE_get fldsE_length List.drop_zero bytesOf_cells toNat_succ Nat.sub_zero Int.toNat_natCast Option.map_some Int.natCast_nonneg decide_eq_true_eq decide_eq_false_iff_not
/- (*flange/message.reader).number -/
abbrev k92_0 : MC :=
 (.seq (.reg [
 mv 29 4,
 mv 30 6,
 mv 2 29,
 mv 3 30] [2,3]) (.ret))
abbrev k92_1 : MC :=
 (.seq (.reg [
 mv 21 0,
 vl 22 (.nilc (.t 21)),
 vl 23 (.faddr 1 (.t 22)),
 vl 24 (.load false 1 (.t 23)),
 mv 25 5,
 vl 26 (.bin .add .num (.t 24) (.t 25)),
 vl 27 (.nilc (.t 21)),
 vl 28 (.faddr 1 (.t 27)),
 ⟨none,none,.store 1 (.t 28) (.t 26)⟩] [4,6]) k92_0)
abbrev k92_2 : MC :=
 (.seq (.drw [
 mv 8 0,
 vl 9 (.nilc (.t 8)),
 vl 10 (.faddr 0 (.t 9)),
 vl 11 (.load false 1 (.t 10)),
 mv 12 0,
 vl 13 (.nilc (.t 12)),
 vl 14 (.faddr 1 (.t 13)),
 vl 15 (.load false 1 (.t 14)),
 vl 16 (.slc (some 1) (.t 11) (some (.t 15)) none none),
 ⟨some 17,none,.call 108 [(.t 16)]⟩,
 mv 7 17,
 vl 18 (.ext (.t 7) 0),
 vl 19 (.ext (.t 7) 1),
 vl 20 (.ext (.t 7) 2),
 mv 4 18,
 mv 5 19,
 mv 6 20] [] [0,4,5,6]) k92_1)
abbrev k92 : MC :=
 (.seq (.reg [
 vl 2 (.mv (.c (.int .u64 0))),
 vl 3 (.mv (.c (.int .i64 0)))] [0]) k92_2)
theorem c92 : Tryz.f92.body.bind (mcOf Tryz.prog (List.contains [] ·) (List.getD [([],[0]),([0,0,0,0,0,0,0,0,0,0,0,0,0,0,0,0,0],[0,4,5,6]),([],[4,6]),([],[2,3])] · ([],[])) 31) = some k92 := by kernel_rfl
theorem r92 : rvsOf Tryz.prog Tryz.f92.results.toList = some [.tmp 2,.tmp 3] := by kernel_rfl
/- (*flange/message.reader).field -/
abbrev k77_0 : MC :=
 .cond (.t 14) ((.seq (.reg [
 ⟨some 15,none,.build [(.int .i64 0),(.bool false),(.int .u64 0),.nilSl] []⟩,
 mv 16 5,
 ⟨none,none,.store 4 (.t 2) (.t 15)⟩,
 mv 3 16] [2,3]) (.ret))) (.skip)
abbrev k77_1 : MC :=
 .cond (.t 23) ((.seq (.reg [
 ⟨some 24,none,.build [(.int .i64 0),(.bool false),(.int .u64 0),.nilSl] []⟩,
 mv 25 5,
 ⟨none,none,.store 4 (.t 2) (.t 24)⟩,
 mv 3 25] [2,3]) (.ret))) (.skip)
abbrev k77_2 : MC :=
 .cond (.t 37) ((.seq (.reg [
 vl 38 (.load true 4 (.t 7)),
 ⟨none,none,.store 4 (.t 2) (.t 38)⟩,
 vl 3 (.mv (.c (.int .i64 0)))] [2,3]) (.ret))) (.skip)
abbrev k77_3 : MC :=
 .cond (.t 51) ((.seq (.reg [
 ⟨some 52,none,.build [(.int .i64 0),(.bool false),(.int .u64 0),.nilSl] []⟩,
 ⟨none,none,.store 4 (.t 2) (.t 52)⟩,
 vl 3 (.mv (.c (.int .i64 5)))] [2,3]) (.ret))) (.skip)
abbrev k77_4 : MC :=
 (.seq (.reg [
 vl 81 (.load true 4 (.t 7)),
 ⟨none,none,.store 4 (.t 2) (.t 81)⟩,
 vl 3 (.mv (.c (.int .i64 0)))] [2,3]) (.ret))
abbrev k77_5 : MC :=
 (.seq (.reg [
 mv 72 0,
 vl 73 (.nilc (.t 72)),
 vl 74 (.faddr 1 (.t 73)),
 vl 75 (.load false 1 (.t 74)),
 mv 76 6,
 vl 77 (.i2i .i64 (.t 76)),
 vl 78 (.bin .add .num (.t 75) (.t 77)),
 vl 79 (.nilc (.t 72)),
 vl 80 (.faddr 1 (.t 79)),
 ⟨none,none,.store 1 (.t 80) (.t 78)⟩] [2,7]) k77_4)
abbrev k77_6 : MC :=
 (.seq (.drw [
 mv 53 0,
 vl 54 (.nilc (.t 53)),
 vl 55 (.faddr 0 (.t 54)),
 vl 56 (.load false 1 (.t 55)),
 mv 57 0,
 vl 58 (.nilc (.t 57)),
 vl 59 (.faddr 1 (.t 58)),
 vl 60 (.load false 1 (.t 59)),
 mv 61 0,
 vl 62 (.nilc (.t 61)),
 vl 63 (.faddr 1 (.t 62)),
 vl 64 (.load false 1 (.t 63)),
 mv 65 6,
 vl 66 (.i2i .i64 (.t 65)),
 vl 67 (.bin .add .num (.t 64) (.t 66)),
 vl 68 (.slc (some 1) (.t 56) (some (.t 60)) (some (.t 67)) none),
 ⟨some 69,none,.call 68 [(.t 68)]⟩,
 vl 70 (.faddr 2 (.t 7)),
 vl 71 (.faddr 3 (.t 7))] [
 ⟨none,none,.store 1 (.t 70) (.c (.int .u64 0))⟩,
 ⟨none,none,.store 1 (.t 71) (.t 69)⟩] [0,2,6,7]) k77_5)
abbrev k77_7 : MC :=
 (.seq ((.seq (.drw [
 mv 39 6,
 mv 40 0,
 vl 41 (.nilc (.t 40)),
 vl 42 (.faddr 0 (.t 41)),
 vl 43 (.load false 1 (.t 42)),
 vl 44 (.len .sl (.t 43)),
 mv 45 0,
 vl 46 (.nilc (.t 45)),
 vl 47 (.faddr 1 (.t 46)),
 vl 48 (.load false 1 (.t 47)),
 vl 49 (.bin .sub .num (.t 44) (.t 48)),
 vl 50 (.i2i .u64 (.t 49)),
 vl 51 (.bin .gtr .num (.t 39) (.t 50))] [] [0,2,6,7,51]) k77_3)) k77_6)
abbrev k77_8 : MC :=
 (.seq ((.seq (.reg [
 vl 35 (.faddr 1 (.t 7)),
 vl 36 (.load false 1 (.t 35)),
 vl 37 (.not (.t 36))] [0,2,6,7,37]) k77_2)) k77_7)
abbrev k77_9 : MC :=
 (.seq (.reg [
 mv 26 4,
 vl 27 (.bin .quo .num (.t 26) (.c (.int .u64 2))),
 vl 28 (.mx false (.t 27) (.c (.int .u64 1001))),
 vl 29 (.i2i .i64 (.t 28)),
 mv 30 4,
 vl 31 (.bin .rem .num (.t 30) (.c (.int .u64 2))),
 vl 32 (.bin .eql .num (.t 31) (.c (.int .u64 1))),
 mv 33 6,
 ⟨some 34,none,.build [(.int .i64 0),(.bool false),(.int .u64 0),.nilSl] [(0,1,(.t 29)),(1,1,(.t 32)),(2,1,(.t 33))]⟩,
 ⟨some 7,none,.zalloc [(.int .i64 0),(.bool false),(.int .u64 0),.nilSl]⟩,
 ⟨none,none,.store 4 (.t 7) (.t 34)⟩] [0,2,6,7]) k77_8)
abbrev k77_10 : MC :=
 (.seq ((.seq (.reg [
 mv 22 5,
 vl 23 (.bin .neq .num (.t 22) (.c (.int .i64 0)))] [0,2,4,5,6,23]) k77_1)) k77_9)
abbrev k77_11 : MC :=
 (.seq (.reg [
 mv 18 0,
 ⟨some 19,none,.call 92 [(.t 18)]⟩,
 mv 17 19,
 vl 20 (.ext (.t 17) 0),
 vl 21 (.ext (.t 17) 1),
 mv 6 20,
 mv 5 21] [0,2,4,5,6]) k77_10)
abbrev k77_12 : MC :=
 (.seq ((.seq (.reg [
 mv 13 5,
 vl 14 (.bin .neq .num (.t 13) (.c (.int .i64 0)))] [0,2,4,5,14]) k77_0)) k77_11)
abbrev k77_13 : MC :=
 (.seq (.reg [
 mv 9 0,
 ⟨some 10,none,.call 92 [(.t 9)]⟩,
 mv 8 10,
 vl 11 (.ext (.t 8) 0),
 vl 12 (.ext (.t 8) 1),
 mv 4 11,
 mv 5 12] [0,2,4,5]) k77_12)
abbrev k77 : MC :=
 (.seq (.reg [
 ⟨some 2,none,.zalloc [(.int .i64 0),(.bool false),(.int .u64 0),.nilSl]⟩,
 vl 3 (.mv (.c (.int .i64 0)))] [0,2]) k77_13)
theorem c77 : Tryz.f77.body.bind (mcOf Tryz.prog (List.contains [] ·) (List.getD [([],[0,2]),([],[0,2,4,5]),([],[0,2,4,5,14]),([],[2,3]),([],[0,2,4,5,6]),([],[0,2,4,5,6,23]),([],[2,3]),([],[0,2,6,7]),([],[0,2,6,7,37]),([],[2,3]),([0,0,0,0,0,0,0,0,0,0,0,0,0],[0,2,6,7,51]),([],[2,3]),([0,0,0,0,0,0,0,0,0,0,0,0,0,0,0,0,0,0,2,0,2],[0,2,6,7]),([],[2,7]),([],[2,3])] · ([],[])) 82) = some k77 := by kernel_rfl
theorem r77 : rvsOf Tryz.prog Tryz.f77.results.toList = some [.cell 2 true 4,.tmp 3] := by kernel_rfl
theorem number_calls {b : List UInt8} {t : Tok} {at_ k : Nat} {H : AH} (hb : b.length < 10000000) (ha : at_ ≤ b.length) (hk : H k = some (.cells [.sl 1 (byteCells b) t,.int .i64 at_])) :
    ACalls Tryz.prog 92 [.ptr k 0] H (fun o H' => o = .ret (.tuple [.int .u64 (readS (b.drop at_)).1,.int .i64 (readS (b.drop at_)).2.2]) ∧ H' = H.put k (.cells [.sl 1 (byteCells b) t,.int .i64 ((at_ + (readS (b.drop at_)).2.1 : Nat) : Int)])) := by
  refine acalls Tryz.func92 c92 r92 (by simp [Tryz.ntmps92]) ?_
  have htk : (b.drop at_).take (b.length - at_) = b.drop at_ := List.take_of_length_le (by simp)
  have hrc := read_cases (b.drop at_)
  rw [List.length_drop] at hrc
  repeat' (first|with_reducible refine go0 ?_|(with_reducible refine am_cnd ?_ ?_<;>intro hc<;>try (exfalso;omega))|((first|with_reducible (first|refine go1 ?_|refine vc_intro ?_|refine need_el ?_|refine vlen_a ?_|refine need_by ?_|refine call_of (read_calls (by simp only [List.length_drop];omega)) ?_|refine qcall_of (read_calls (by simp only [List.length_drop];omega)) ?_|refine need_lk ?_)|((with_reducible (first|apply gd_not|apply gd_of|apply gq_not|apply gq_of|apply pickB_of))<;>intro hc<;>(try simp -implicitDefEqProofs (disch:=omega) only [go_sem,hc,wrap_id,hk,htk])<;>(try simp only [reduceCtorEq,bD,beq_iff_eq] at hc)<;>(try (exfalso;omega)))|done)<;>(try simp -implicitDefEqProofs (disch:=omega) only [go_sem,wrap_id,hk,htk])))
  rw [Int.natCast_add]
theorem field_calls {b : List UInt8} {t : Tok} {at_ kr : Nat} {H : AH} (hb : b.length < 10000000) (ha : at_ ≤ b.length) (hk : H kr = some (.cells [.sl 1 (byteCells b) t,.int .i64 at_])) :
    ACalls Tryz.prog 77 [.ptr kr 0] H (fun o H' => o = .ret (.tuple [.agg (fldC (fieldS (b.drop at_)).1),.int .i64 (fieldS (b.drop at_)).2.1]) ∧ H' = H.put kr (.cells [.sl 1 (byteCells b) t,.int .i64 ((at_ + (fieldS (b.drop at_)).2.2 : Nat) : Int)])) := by
  refine ACalls.dropG ?_
  refine acalls Tryz.func77 c77 r77 (by simp [Tryz.ntmps77]) ?_
  have n0 : ∀ (p : Nat) (H : AH),p ≤ b.length → H kr = some (.cells [.sl 1 (byteCells b) t,.int .i64 p]) → ACalls Tryz.prog 92 [.ptr kr 0] H (fun o H' => o = .ret (.tuple [.int .u64 (readS (b.drop p)).1,.int .i64 (readS (b.drop p)).2.2]) ∧ H' = H.put kr (.cells [.sl 1 (byteCells b) t,.int .i64 ((p + (readS (b.drop p)).2.1 : Nat) : Int)])) := fun p H h1 h2 => number_calls hb h1 h2
  rcases hx : readS (b.drop at_) with ⟨key,k1,e1⟩
  have hrc := read_cases (b.drop at_)
  rw [hx,List.length_drop] at hrc
  simp only at hrc
  have n1 := fun H h => n0 at_ H ha h
  rw [hx] at n1
  have hk1 : at_ + k1 ≤ b.length := by omega
  have n2 := fun H h => n0 (at_ + k1) H hk1 h
  rcases hy : readS (b.drop (at_ + k1)) with ⟨m,k2,e2⟩
  rw [hy] at n2
  have hrc2 := read_cases (b.drop (at_ + k1))
  rw [hy,List.length_drop] at hrc2
  simp only at hrc2 n1 n2
  have hfs : fieldS (b.drop at_) = if e1 ≠ 0 then (f0,e1,k1) else if e2 ≠ 0 then (f0,e2,k1 + k2) else if key % 2 ≠ 1 then (⟨((min (key / 2) 1001 : Nat) : Int),false,m,[]⟩,0,k1 + k2) else
      if (b.drop at_).length - (k1 + k2) < m then (f0,5,k1 + k2) else (⟨((min (key / 2) 1001 : Nat) : Int),true,0,((b.drop at_).drop (k1 + k2)).take m⟩,0,k1 + k2 + m) := by
    simp only [fieldS,hx,List.drop_drop,hy]
  have tn : ∀ a c : Nat,((a : Int) + (c : Int)).toNat = a + c := by intro a c; omega
  have hdd : (b.drop at_).drop (k1 + k2) = b.drop (at_ + k1 + k2) := by rw [List.drop_drop,Nat.add_assoc]
  have hlen : (b.drop at_).length = b.length - at_ := List.length_drop
  repeat' (first|with_reducible refine go0 ?_|(with_reducible refine am_cnd ?_ ?_<;>intro hc<;>try (exfalso;omega))|((first|with_reducible (first|refine go1 ?_|refine vc_intro ?_|refine need_el ?_|refine vlen_a ?_|refine need_by ?_|refine call_turn (n1 _ (look_put hk (by assumption))) ?_|refine call_turn (n2 _ (AH.put_same _ _ _)) ?_|refine call_of (clone_calls (by simp only [List.length_take,List.length_drop];omega)) ?_|refine qcall_of (clone_calls (by simp only [List.length_take,List.length_drop];omega)) ?_|refine need_lk ?_)|((with_reducible (first|apply gd_not|apply gd_of|apply gq_not|apply gq_of|apply pickB_of))<;>intro hc<;>(try simp -implicitDefEqProofs (disch:=omega) only [go_sem,hc,wrap_id,u64_id,tdiv2,tmod2,tn,Nat.add_sub_cancel_left])<;>(try simp only [reduceCtorEq,bD,beq_iff_eq] at hc)<;>(try (exfalso;omega)))|((with_reducible refine alloc_intro (fun ko hko=>?_))<;>(try have hne:=fresh_ne (by assumption) hko)<;>(try have hnk:=fresh_ne hk hko)<;>(try simp only [AH.put_none] at hko))|done)<;>(try simp -implicitDefEqProofs (disch:=omega) only [go_sem,wrap_id,u64_id,tdiv2,tmod2,tn,Nat.add_sub_cancel_left])))
  · rw [hfs,if_pos (by assumption)]
    refine drop_end (by (first | exact fun _ _ h => h | (intro s x h; first | exact no_sub _ h | exact nil_no _ h | exact AccP.sub (by assumption) _ _ h | (refine agg_sub rfl ?_ x h; repeat (first | exact .nil | refine .cons (fun _ h => h) ?_ | refine .cons (fun _ h => nil_no _ h) ?_ | refine .cons (fun _ h => no_sub _ h) ?_ | refine .cons (fun _ h => AccP.sub (by assumption) _ _ h) ?_)) | (refine tuple_sub ?_ x h; repeat (first | exact .nil | refine .cons (fun _ h => h) ?_ | refine .cons (fun _ h => nil_no _ h) ?_ | refine .cons (fun _ h => no_sub _ h) ?_ | refine .cons (fun _ h => AccP.sub (by assumption) _ _ h) ?_ | refine .cons (fun _ h => agg_sub rfl (by repeat (first | exact .nil | refine .cons (fun _ h => h) ?_ | refine .cons (fun _ h => nil_no _ h) ?_ | refine .cons (fun _ h => no_sub _ h) ?_ | refine .cons (fun _ h => AccP.sub (by assumption) _ _ h) ?_)) _ h) ?_))))) (put_le_of (by simp (disch := omega) only [AH.put_same,AH.put_ne]) (by (repeat (first | exact leX_refl _ _ | refine leX_self ?_ _ | refine leX_old ?_ (by first | assumption | simp_all) _))))
  · rw [hfs,if_neg (by omega),if_pos (by assumption),← Nat.add_assoc]
    refine drop_end (by (first | exact fun _ _ h => h | (intro s x h; first | exact no_sub _ h | exact nil_no _ h | exact AccP.sub (by assumption) _ _ h | (refine agg_sub rfl ?_ x h; repeat (first | exact .nil | refine .cons (fun _ h => h) ?_ | refine .cons (fun _ h => nil_no _ h) ?_ | refine .cons (fun _ h => no_sub _ h) ?_ | refine .cons (fun _ h => AccP.sub (by assumption) _ _ h) ?_)) | (refine tuple_sub ?_ x h; repeat (first | exact .nil | refine .cons (fun _ h => h) ?_ | refine .cons (fun _ h => nil_no _ h) ?_ | refine .cons (fun _ h => no_sub _ h) ?_ | refine .cons (fun _ h => AccP.sub (by assumption) _ _ h) ?_ | refine .cons (fun _ h => agg_sub rfl (by repeat (first | exact .nil | refine .cons (fun _ h => h) ?_ | refine .cons (fun _ h => nil_no _ h) ?_ | refine .cons (fun _ h => no_sub _ h) ?_ | refine .cons (fun _ h => AccP.sub (by assumption) _ _ h) ?_)) _ h) ?_))))) (put_le_of (by simp (disch := omega) only [AH.put_same,AH.put_ne]) (by (repeat (first | exact leX_refl _ _ | refine leX_self ?_ _ | refine leX_old ?_ (by first | assumption | simp_all) _))))
  · rw [hfs,if_neg (by omega),if_neg (by omega),if_pos (by omega),← Nat.add_assoc]
    have e1 : decide (((key % 2 : Nat) : Int) = 1) = false := decide_eq_false (by omega)
    rw [e1,show (min ((key / 2 : Nat) : Int) 1001) = ((min (key / 2) 1001 : Nat) : Int) by omega]
    refine drop_end (by (first | exact fun _ _ h => h | (intro s x h; first | exact no_sub _ h | exact nil_no _ h | exact AccP.sub (by assumption) _ _ h | (refine agg_sub rfl ?_ x h; repeat (first | exact .nil | refine .cons (fun _ h => h) ?_ | refine .cons (fun _ h => nil_no _ h) ?_ | refine .cons (fun _ h => no_sub _ h) ?_ | refine .cons (fun _ h => AccP.sub (by assumption) _ _ h) ?_)) | (refine tuple_sub ?_ x h; repeat (first | exact .nil | refine .cons (fun _ h => h) ?_ | refine .cons (fun _ h => nil_no _ h) ?_ | refine .cons (fun _ h => no_sub _ h) ?_ | refine .cons (fun _ h => AccP.sub (by assumption) _ _ h) ?_ | refine .cons (fun _ h => agg_sub rfl (by repeat (first | exact .nil | refine .cons (fun _ h => h) ?_ | refine .cons (fun _ h => nil_no _ h) ?_ | refine .cons (fun _ h => no_sub _ h) ?_ | refine .cons (fun _ h => AccP.sub (by assumption) _ _ h) ?_)) _ h) ?_))))) (put_le_of (by simp (disch := omega) only [AH.put_same,AH.put_ne]) (by (repeat (first | exact leX_refl _ _ | refine leX_self ?_ _ | refine leX_old ?_ (by first | assumption | simp_all) _))))
  · rw [hfs,if_neg (by omega),if_neg (by omega),if_neg (by omega),if_pos (by omega),← Nat.add_assoc]
    refine drop_end (by (first | exact fun _ _ h => h | (intro s x h; first | exact no_sub _ h | exact nil_no _ h | exact AccP.sub (by assumption) _ _ h | (refine agg_sub rfl ?_ x h; repeat (first | exact .nil | refine .cons (fun _ h => h) ?_ | refine .cons (fun _ h => nil_no _ h) ?_ | refine .cons (fun _ h => no_sub _ h) ?_ | refine .cons (fun _ h => AccP.sub (by assumption) _ _ h) ?_)) | (refine tuple_sub ?_ x h; repeat (first | exact .nil | refine .cons (fun _ h => h) ?_ | refine .cons (fun _ h => nil_no _ h) ?_ | refine .cons (fun _ h => no_sub _ h) ?_ | refine .cons (fun _ h => AccP.sub (by assumption) _ _ h) ?_ | refine .cons (fun _ h => agg_sub rfl (by repeat (first | exact .nil | refine .cons (fun _ h => h) ?_ | refine .cons (fun _ h => nil_no _ h) ?_ | refine .cons (fun _ h => no_sub _ h) ?_ | refine .cons (fun _ h => AccP.sub (by assumption) _ _ h) ?_)) _ h) ?_))))) (put_le_of (by simp (disch := omega) only [AH.put_same,AH.put_ne]) (by (repeat (first | exact leX_refl _ _ | refine leX_self ?_ _ | refine leX_old ?_ (by first | assumption | simp_all) _))))
  · rw [hfs,if_neg (by omega),if_neg (by omega),if_neg (by omega),if_neg (by omega),hdd,← Nat.add_assoc,← Nat.add_assoc]
    have e1 : decide (((key % 2 : Nat) : Int) = 1) = true := decide_eq_true (by omega)
    rw [show (min ((key / 2 : Nat) : Int) 1001) = ((min (key / 2) 1001 : Nat) : Int) by omega]
    try rw [e1]
    refine drop_end (by (first | exact fun _ _ h => h | (intro s x h; first | exact no_sub _ h | exact nil_no _ h | exact AccP.sub (by assumption) _ _ h | (refine agg_sub rfl ?_ x h; repeat (first | exact .nil | refine .cons (fun _ h => h) ?_ | refine .cons (fun _ h => nil_no _ h) ?_ | refine .cons (fun _ h => no_sub _ h) ?_ | refine .cons (fun _ h => AccP.sub (by assumption) _ _ h) ?_)) | (refine tuple_sub ?_ x h; repeat (first | exact .nil | refine .cons (fun _ h => h) ?_ | refine .cons (fun _ h => nil_no _ h) ?_ | refine .cons (fun _ h => no_sub _ h) ?_ | refine .cons (fun _ h => AccP.sub (by assumption) _ _ h) ?_ | refine .cons (fun _ h => agg_sub rfl (by repeat (first | exact .nil | refine .cons (fun _ h => h) ?_ | refine .cons (fun _ h => nil_no _ h) ?_ | refine .cons (fun _ h => no_sub _ h) ?_ | refine .cons (fun _ h => AccP.sub (by assumption) _ _ h) ?_)) _ h) ?_))))) (put_le_of (by simp (disch := omega) only [AH.put_same,AH.put_ne]; rfl) (by (repeat (first | exact leX_refl _ _ | refine leX_self ?_ _ | refine leX_old ?_ (by first | assumption | simp_all) _))))
end Go.Proofs.YtkldmgnhbomknaaGreat.Msg
namespace Go.Proofs.YtkldmgnhbomknaaGreat.Msg
open Go.Vm
attribute [local go_sem] eq_self decide_true decide_false AH.put_ne
attribute [local go_sem_proc] Nat.reduceBEq Nat.reduceAdd Nat.reduceSub Nat.reduceMul Nat.reduceEqDiff Nat.reduceLeDiff Nat.reduceLT Int.reduceLE Int.reduceLT Int.reduceToNat Int.reduceAdd Int.reduceEq Int.reduceNeg
attribute [local go_sem] byteCells_get byteCells_length byteCells_take byteCells_drop bytes_cells fldC fldsE_get fldsE_length List.drop_zero bytesOf_cells toNat_succ Nat.sub_zero Int.toNat_natCast Option.map_some Int.natCast_nonneg decide_eq_true_eq decide_eq_false_iff_not
/- flange/message.Decode -/
abbrev k59_0 : MC :=
 .cond (.t 13) ((.seq (.reg [
 vl 2 (.mv (.c .nilSl)),
 vl 3 (.mv (.c (.int .i64 0))),
 vl 4 (.mv (.c (.int .i64 3)))] [2,3,4]) (.ret))) (.skip)
abbrev k59_1 : MC :=
 .cond (.t 23) (.skip) (.exit 0)
abbrev k59_2 : MC :=
 .cond (.t 49) ((.seq (.reg [
 mv 53 8,
 vl 2 (.mv (.c .nilSl)),
 mv 3 53,
 vl 4 (.mv (.c (.int .i64 3)))] [2,3,4]) (.ret))) (.skip)
abbrev k59_3 : MC :=
 .cond (.t 38) ((.seq (.reg [
 mv 48 8,
 vl 2 (.mv (.c .nilSl)),
 mv 3 48,
 vl 4 (.mv (.c (.int .i64 1)))] [2,3,4]) (.ret))) ((.seq (.reg [
 mv 50 6,
 vl 51 (.len .sl (.t 50)),
 vl 52 (.bin .eql .num (.t 51) (.c (.int .i64 64))),
 mv 49 52] [0,5,6,7,8,9,49]) k59_2))
abbrev k59_4 : MC :=
 .cond (.t 33) ((.seq (.reg [
 mv 36 8,
 mv 37 10,
 vl 2 (.mv (.c .nilSl)),
 mv 3 36,
 mv 4 37] [2,3,4]) (.ret))) ((.seq (.reg [
 vl 39 (.load true 4 (.t 9)),
 ⟨some 40,none,.call 71 [(.t 39)]⟩,
 vl 41 (.not (.t 40)),
 mv 42 41,
 ⟨some 43,(some (42,false)),.val (.load true 4 (.t 9))⟩,
 ⟨some 44,(some (42,false)),.val (.load true 4 (.t 7))⟩,
 ⟨some 45,(some (42,false)),.call 72 [(.t 43),(.t 44)]⟩,
 ⟨some 46,(some (42,false)),.val (.not (.t 45))⟩,
 vl 47 (.pick (.t 42) (.c (.bool true)) (.t 46)),
 mv 38 47] [0,5,6,7,8,9,38]) k59_3))
abbrev k59_5 : MC :=
 .drw [
 vl 55 (.load true 4 (.t 9)),
 ⟨some 56,none,.bslice 4 1 [(.int .i64 0),(.bool false),(.int .u64 0),.nilSl] [(0,4,(.t 55))]⟩,
 vl 58 (.load true 4 (.t 9))] [
 mv 54 6,
 ⟨some 57,none,.app 4 48 (.t 54) (.t 56)⟩,
 mv 6 57,
 ⟨none,none,.store 4 (.t 7) (.t 58)⟩] [0,5,6,7]
abbrev k59_6 : MC :=
 (.seq (.block 2 ((.seq (.reg [
 mv 34 10,
 vl 35 (.bin .neq .num (.t 34) (.c (.int .i64 0))),
 mv 33 35] [0,5,6,7,8,9,10,33]) k59_4))) k59_5)
abbrev k59_7 : MC :=
 (.seq (.reg [
 mv 29 5,
 ⟨some 30,none,.call 77 [(.t 29)]⟩,
 mv 28 30,
 vl 31 (.ext (.t 28) 0),
 vl 32 (.ext (.t 28) 1),
 ⟨some 9,none,.zalloc [(.int .i64 0),(.bool false),(.int .u64 0),.nilSl]⟩,
 ⟨none,none,.store 4 (.t 9) (.t 31)⟩,
 mv 10 32] [0,5,6,7,8,9,10]) k59_6)
abbrev k59_8 : MC :=
 .block 1 ((.seq (.reg [
 mv 24 5,
 vl 25 (.nilc (.t 24)),
 vl 26 (.faddr 1 (.t 25)),
 vl 27 (.load false 1 (.t 26)),
 mv 8 27] [0,5,6,7,8]) k59_7))
abbrev k59_9 : MC :=
 (.seq ((.seq (.reg [
 mv 17 5,
 vl 18 (.nilc (.t 17)),
 vl 19 (.faddr 1 (.t 18)),
 vl 20 (.load false 1 (.t 19)),
 mv 21 0,
 vl 22 (.len .sl (.t 21)),
 vl 23 (.bin .lss .num (.t 20) (.t 22))] [0,5,6,7,23]) k59_1)) k59_8)
abbrev k59_10 : MC :=
 (.seq (.reg [
 mv 59 6,
 mv 60 6,
 vl 61 (.len .sl (.t 60)),
 mv 2 59,
 mv 3 61,
 vl 4 (.mv (.c (.int .i64 0)))] [2,3,4]) (.ret))
abbrev k59_11 : MC :=
 (.seq (.block 0 (.loop k59_9)) k59_10)
abbrev k59_12 : MC :=
 (.seq (.reg [
 ⟨some 7,none,.zalloc [(.int .i64 0),(.bool false),(.int .u64 0),.nilSl]⟩] [0,5,6,7]) k59_11)
abbrev k59_13 : MC :=
 (.seq (.reg [
 vl 6 (.mv (.c .nilSl))] [0,5,6]) k59_12)
abbrev k59_14 : MC :=
 (.seq (.reg [
 mv 14 0,
 ⟨some 15,none,.build [.nilSl,(.int .i64 0)] [(0,1,(.t 14))]⟩,
 ⟨some 16,none,.box (.t 15)⟩,
 mv 5 16] [0,5]) k59_13)
abbrev k59_15 : MC :=
 (.seq ((.seq (.reg [
 mv 11 0,
 vl 12 (.len .sl (.t 11)),
 vl 13 (.bin .gtr .num (.t 12) (.c (.int .i64 4096)))] [0,13]) k59_0)) k59_14)
abbrev k59 : MC :=
 (.seq (.reg [
 vl 2 (.mv (.c .nilSl)),
 vl 3 (.mv (.c (.int .i64 0))),
 vl 4 (.mv (.c (.int .i64 0)))] [0]) k59_15)
theorem c59 : Tryz.f59.body.bind (mcOf Tryz.prog (List.contains [] ·) (List.getD [([],[0]),([],[0,13]),([],[2,3,4]),([],[0,5]),([],[0,5,6]),([],[0,5,6,7]),([],[0,5,6,7,23]),([],[0,5,6,7,8]),([],[0,5,6,7,8,9,10]),([],[0,5,6,7,8,9,10,33]),([],[2,3,4]),([],[0,5,6,7,8,9,38]),([],[2,3,4]),([],[0,5,6,7,8,9,49]),([],[2,3,4]),([2,0,0,2,0,2,2],[0,5,6,7]),([],[2,3,4])] · ([],[])) 62) = some k59 := by kernel_rfl
theorem r59 : rvsOf Tryz.prog Tryz.f59.results.toList = some [.tmp 2,.tmp 3,.tmp 4] := by kernel_rfl
theorem decode_calls {b : List UInt8} {t : Tok} (hb : b.length < 10000000) (H : AH) :
    ACalls Tryz.prog 59 [.sl 1 (byteCells b) t] H (fun o H' => o = .ret (.tuple [.sl 4 (fldsE (decS b).1) .no,.int .i64 (decS b).2.1,.int .i64 (decS b).2.2]) ∧ H' = H) := by
  refine ACalls.drop ?_
  refine acalls Tryz.func59 c59 r59 (by simp [Tryz.ntmps59]) ?_
  by_cases h4 : 4096 < b.length
  · repeat' (first|with_reducible refine go0 ?_|(with_reducible refine am_cnd ?_ ?_<;>intro hc<;>try (exfalso;omega))|((first|with_reducible (first|refine go1 ?_|refine vc_intro ?_|refine need_el ?_|refine vlen_a ?_|refine need_by ?_|refine need_lk ?_)|((with_reducible (first|apply gd_not|apply gd_of|apply gq_not|apply gq_of|apply pickB_of))<;>intro hc<;>(try simp -implicitDefEqProofs (disch:=omega) only [go_sem,hc,wrap_id])<;>(try simp only [reduceCtorEq,bD,beq_iff_eq] at hc)<;>(try (exfalso;omega)))|((with_reducible refine alloc_intro (fun ko hko=>?_))<;>(try have hne:=fresh_ne (by assumption) hko)<;>(try simp only [AH.put_none] at hko))|((with_reducible refine vapp_go ?_ (fun v2 H2 hacc hlec=>?_));· simp only [byteCells_length,List.length_cons,List.length_nil,List.length_map,List.length_append,fldsE_length];omega)|done)<;>(try simp -implicitDefEqProofs (disch:=omega) only [go_sem,wrap_id])))
    rw [show decS b = ([],0,3) by rw [decS,if_pos h4]]
    (refine drop_end (by (first | exact fun _ _ h => h | (intro s x h; first | exact no_sub _ h | exact nil_no _ h | exact AccP.sub (by assumption) _ _ h | (refine agg_sub rfl ?_ x h; repeat (first | exact .nil | refine .cons (fun _ h => h) ?_ | refine .cons (fun _ h => nil_no _ h) ?_ | refine .cons (fun _ h => no_sub _ h) ?_ | refine .cons (fun _ h => AccP.sub (by assumption) _ _ h) ?_)) | (refine tuple_sub ?_ x h; repeat (first | exact .nil | refine .cons (fun _ h => h) ?_ | refine .cons (fun _ h => nil_no _ h) ?_ | refine .cons (fun _ h => no_sub _ h) ?_ | refine .cons (fun _ h => AccP.sub (by assumption) _ _ h) ?_ | refine .cons (fun _ h => agg_sub rfl (by repeat (first | exact .nil | refine .cons (fun _ h => h) ?_ | refine .cons (fun _ h => nil_no _ h) ?_ | refine .cons (fun _ h => no_sub _ h) ?_ | refine .cons (fun _ h => AccP.sub (by assumption) _ _ h) ?_)) _ h) ?_))))) (by (repeat (first | exact AH.le_refl _ | assumption | exact AccP.le (by assumption) | refine AH.le_put ?_ (by first | assumption | exact none_of_le (by assumption) (by assumption) | exact And.right (by assumption) | exact And.right (And.right (by assumption))) _ | refine AH.le_trans ?_ (AccP.le (by assumption))))))
  · repeat' (first|with_reducible refine go0 ?_|(with_reducible refine am_cnd ?_ ?_<;>intro hc<;>try (exfalso;omega))|((first|with_reducible (first|refine go1 ?_|refine vc_intro ?_|refine need_el ?_|refine vlen_a ?_|refine need_by ?_|refine need_lk ?_)|((with_reducible (first|apply gd_not|apply gd_of|apply gq_not|apply gq_of|apply pickB_of))<;>intro hc<;>(try simp -implicitDefEqProofs (disch:=omega) only [go_sem,hc,wrap_id])<;>(try simp only [reduceCtorEq,bD,beq_iff_eq] at hc)<;>(try (exfalso;omega)))|((with_reducible refine alloc_intro (fun ko hko=>?_))<;>(try have hne:=fresh_ne (by assumption) hko)<;>(try simp only [AH.put_none] at hko))|((with_reducible refine vapp_go ?_ (fun v2 H2 hacc hlec=>?_));· simp only [byteCells_length,List.length_cons,List.length_nil,List.length_map,List.length_append,fldsE_length];omega)|done)<;>(try simp -implicitDefEqProofs (disch:=omega) only [go_sem,wrap_id])))
    rename_i kr hkr
    revert ko
    intro kl hko
    obtain ⟨hlk,hkl⟩ := hko
    have hdec : decS b = decL b.length [] f0 0 b := by rw [decS,if_neg h4]
    refine AM.subC (ds := fldC f0) ?_ (AH.put_same _ _ _) rfl (fun s => by repeat (first | exact .nil | refine .cons (fun _ h => h) ?_ | refine .cons (fun _ h => nil_no _ h) ?_ | refine .cons (fun _ h => no_sub _ h) ?_ | refine .cons (fun _ h => AccP.sub (by assumption) _ _ h) ?_))
    rw [AH.put_put]
    refine am_loop (fun n a H2 => ∃ (p : Nat) (v : V) (acc : List Fld) (last : Fld),p ≤ b.length ∧ b.length - p ≤ n ∧ a = [(0,V.sl 1 (byteCells b) t),(5,V.ptr kr 0),(6,v),(7,V.ptr kl 0)] ∧ AccP H 4 (fldsE acc) v H2 ∧
      H2 kr = some (.cells [.sl 1 (byteCells b) t,.int .i64 p]) ∧ H2 kl = some (.cells (fldC last)) ∧ acc.length ≤ 64 ∧ decS b = decL n acc last p (b.drop p)) ?_ b.length ⟨0,.nilSl,[],f0,by omega,by omega,rfl,⟨AH.le_put (AH.le_put (AH.le_refl _) hkr _) hkl _,.inl ⟨rfl,rfl⟩⟩,look_ne (Ne.symm hlk) (AH.put_same _ _ _),AH.put_same _ _ _,by simp,by rw [hdec]; simp⟩
    rintro n a H2 ⟨p,v,acc,last,hp,hpn,rfl,hacc,hrd,hls,hal,he⟩
    by_cases hlt : p < b.length
    · obtain ⟨g1,g2,g3,g4⟩ := fieldS_len (b.drop p)
      rw [List.length_drop] at g1 g4
      have hne : b.drop p ≠ [] := by intro e; have := congrArg List.length e; simp at this; omega
      obtain ⟨n,rfl⟩ : ∃ m,n = m + 1 := ⟨n - 1,by omega⟩
      simp only [decL,if_neg hne] at he
      have c1 := fun H h => field_calls (H := H) (t := t) (at_ := p) (kr := kr) hb (by omega) h
      rcases hx : fieldS (b.drop p) with ⟨f,e,k⟩
      rw [hx] at he g1 g2 g3 g4 c1
      simp only at he g1 g2 g3 g4 c1
      have turn : ∀ (v' : V) (H3 : AH) (l' : List Fld) (cs : List V) (p : AObj),AccP H 4 (fldsE l') v' H3 → H3 kr = some (.cells cs) → AccP H 4 (fldsE l') v' (H3.put kr p) := fun v' H3 l' cs p h1 h2 => AccP.turn h1 hkr h2 p
      have hacc2 := turn _ _ _ _ (.cells [.sl 1 (byteCells b) t,.int .i64 ((p + k : Nat) : Int)]) hacc hrd
      have hls2 : (H2.put kr (.cells [.sl 1 (byteCells b) t,.int .i64 ((p + k : Nat) : Int)])) kl = some (.cells (fldC last)) := look_ne hlk hls
      have hle2 := hacc2.le
      by_cases hz : e = 0
      · have he1 : ¬ e ≠ 0 := by omega
        rw [if_neg he1] at he
        cases hr : rightF f
        · have hf : fitsF f last = false := by simp [fitsF,hr]
          rw [if_pos hf] at he
          repeat' (first|with_reducible refine go0 ?_|(with_reducible refine am_cnd ?_ ?_<;>intro hc<;>try (exfalso;omega))|((first|with_reducible (first|refine go1 ?_|refine vc_intro ?_|refine need_el ?_|refine vlen_a ?_|refine need_by ?_|refine call_turn (c1 _ hrd) ?_|refine call_of (fright_calls) ?_|refine qcall_of (fright_calls) ?_|refine call_of (behind_calls) ?_|refine qcall_of (behind_calls) ?_|refine need_lk ?_)|((with_reducible (first|apply gd_not|apply gd_of|apply gq_not|apply gq_of|apply pickB_of))<;>intro hc<;>(try simp -implicitDefEqProofs (disch:=omega) only [go_sem,hc,wrap_id,hrd,hr,hz])<;>(try simp only [reduceCtorEq,bD,beq_iff_eq] at hc)<;>(try (exfalso;omega)))|((with_reducible refine alloc_intro (fun ko hko=>?_))<;>(try have hne:=fresh_ne (by assumption) hko)<;>(try simp only [AH.put_none] at hko))|((with_reducible refine vapp_go ?_ (fun v2 H2 hacc hlec=>?_));· simp only [byteCells_length,List.length_cons,List.length_nil,List.length_map,List.length_append,fldsE_length];omega)|done)<;>(try simp -implicitDefEqProofs (disch:=omega) only [go_sem,wrap_id,hrd,hr,hz])))
          rw [he]
          refine drop_end (by (first | exact fun _ _ h => h | (intro s x h; first | exact no_sub _ h | exact nil_no _ h | exact AccP.sub (by assumption) _ _ h | (refine agg_sub rfl ?_ x h; repeat (first | exact .nil | refine .cons (fun _ h => h) ?_ | refine .cons (fun _ h => nil_no _ h) ?_ | refine .cons (fun _ h => no_sub _ h) ?_ | refine .cons (fun _ h => AccP.sub (by assumption) _ _ h) ?_)) | (refine tuple_sub ?_ x h; repeat (first | exact .nil | refine .cons (fun _ h => h) ?_ | refine .cons (fun _ h => nil_no _ h) ?_ | refine .cons (fun _ h => no_sub _ h) ?_ | refine .cons (fun _ h => AccP.sub (by assumption) _ _ h) ?_ | refine .cons (fun _ h => agg_sub rfl (by repeat (first | exact .nil | refine .cons (fun _ h => h) ?_ | refine .cons (fun _ h => nil_no _ h) ?_ | refine .cons (fun _ h => no_sub _ h) ?_ | refine .cons (fun _ h => AccP.sub (by assumption) _ _ h) ?_)) _ h) ?_))))) (AH.le_put hle2 (none_of_le hle2 (by simp only [AH.put_none]; simp_all)) _)
        · cases hbh : behindF f last
          · have hf : fitsF f last = false := by simp [fitsF,hbh]
            rw [if_pos hf] at he
            repeat' (first|with_reducible refine go0 ?_|(with_reducible refine am_cnd ?_ ?_<;>intro hc<;>try (exfalso;omega))|((first|with_reducible (first|refine go1 ?_|refine vc_intro ?_|refine need_el ?_|refine vlen_a ?_|refine need_by ?_|refine call_turn (c1 _ hrd) ?_|refine call_of (fright_calls) ?_|refine qcall_of (fright_calls) ?_|refine call_of (behind_calls) ?_|refine qcall_of (behind_calls) ?_|refine need_lk ?_)|((with_reducible (first|apply gd_not|apply gd_of|apply gq_not|apply gq_of|apply pickB_of))<;>intro hc<;>(try simp -implicitDefEqProofs (disch:=omega) only [go_sem,hc,wrap_id,hrd,hr,hz,hbh])<;>(try simp only [reduceCtorEq,bD,beq_iff_eq] at hc)<;>(try (exfalso;omega)))|((with_reducible refine alloc_intro (fun ko hko=>?_))<;>(try have hne:=fresh_ne (by assumption) hko)<;>(try simp only [AH.put_none] at hko))|((with_reducible refine vapp_go ?_ (fun v2 H2 hacc hlec=>?_));· simp only [byteCells_length,List.length_cons,List.length_nil,List.length_map,List.length_append,fldsE_length];omega)|done)<;>(try simp -implicitDefEqProofs (disch:=omega) only [go_sem,wrap_id,hrd,hr,hz,hbh])))
            rw [he]
            refine drop_end (by (first | exact fun _ _ h => h | (intro s x h; first | exact no_sub _ h | exact nil_no _ h | exact AccP.sub (by assumption) _ _ h | (refine agg_sub rfl ?_ x h; repeat (first | exact .nil | refine .cons (fun _ h => h) ?_ | refine .cons (fun _ h => nil_no _ h) ?_ | refine .cons (fun _ h => no_sub _ h) ?_ | refine .cons (fun _ h => AccP.sub (by assumption) _ _ h) ?_)) | (refine tuple_sub ?_ x h; repeat (first | exact .nil | refine .cons (fun _ h => h) ?_ | refine .cons (fun _ h => nil_no _ h) ?_ | refine .cons (fun _ h => no_sub _ h) ?_ | refine .cons (fun _ h => AccP.sub (by assumption) _ _ h) ?_ | refine .cons (fun _ h => agg_sub rfl (by repeat (first | exact .nil | refine .cons (fun _ h => h) ?_ | refine .cons (fun _ h => nil_no _ h) ?_ | refine .cons (fun _ h => no_sub _ h) ?_ | refine .cons (fun _ h => AccP.sub (by assumption) _ _ h) ?_)) _ h) ?_))))) (AH.le_put hle2 (none_of_le hle2 (by simp only [AH.put_none]; simp_all)) _)
          · have hf : ¬ fitsF f last = false := by simp [fitsF,hbh,hr]
            rw [if_neg hf] at he
            repeat' (first|with_reducible refine go0 ?_|(with_reducible refine am_cnd ?_ ?_<;>intro hc<;>try (exfalso;omega))|((first|with_reducible (first|refine go1 ?_|refine vc_intro ?_|refine need_el ?_|refine vlen_a ?_|refine need_by ?_|refine call_turn (c1 _ hrd) ?_|refine call_of (fright_calls) ?_|refine qcall_of (fright_calls) ?_|refine call_of (behind_calls) ?_|refine qcall_of (behind_calls) ?_|refine need_lk ?_)|((with_reducible (first|apply gd_not|apply gd_of|apply gq_not|apply gq_of|apply pickB_of))<;>intro hc<;>(try simp -implicitDefEqProofs (disch:=omega) only [go_sem,hc,wrap_id,hrd,hr,hz,hbh])<;>(try simp only [reduceCtorEq,bD,beq_iff_eq] at hc)<;>(try (exfalso;omega)))|((with_reducible refine alloc_intro (fun ko hko=>?_))<;>(try have hne:=fresh_ne (by assumption) hko)<;>(try simp only [AH.put_none] at hko))|((with_reducible refine vapp_go ?_ (fun v2 H2 hacc hlec=>?_));· simp only [byteCells_length,List.length_cons,List.length_nil,List.length_map,List.length_append,fldsE_length];omega)|done)<;>(try simp -implicitDefEqProofs (disch:=omega) only [go_sem,wrap_id,hrd,hr,hz,hbh])))
            · rw [if_pos (by omega)] at he
              rw [he]
              refine drop_end (by (first | exact fun _ _ h => h | (intro s x h; first | exact no_sub _ h | exact nil_no _ h | exact AccP.sub (by assumption) _ _ h | (refine agg_sub rfl ?_ x h; repeat (first | exact .nil | refine .cons (fun _ h => h) ?_ | refine .cons (fun _ h => nil_no _ h) ?_ | refine .cons (fun _ h => no_sub _ h) ?_ | refine .cons (fun _ h => AccP.sub (by assumption) _ _ h) ?_)) | (refine tuple_sub ?_ x h; repeat (first | exact .nil | refine .cons (fun _ h => h) ?_ | refine .cons (fun _ h => nil_no _ h) ?_ | refine .cons (fun _ h => no_sub _ h) ?_ | refine .cons (fun _ h => AccP.sub (by assumption) _ _ h) ?_ | refine .cons (fun _ h => agg_sub rfl (by repeat (first | exact .nil | refine .cons (fun _ h => h) ?_ | refine .cons (fun _ h => nil_no _ h) ?_ | refine .cons (fun _ h => no_sub _ h) ?_ | refine .cons (fun _ h => AccP.sub (by assumption) _ _ h) ?_)) _ h) ?_))))) (AH.le_put hle2 (none_of_le hle2 (by simp only [AH.put_none]; simp_all)) _)
            · rw [if_neg (by omega),List.drop_drop] at he
              refine vapp_accL (hacc2.new (by simp only [AH.put_none]; simp_all) _) (by simp only [fldsE_length,List.length_cons,List.length_nil]; omega) (fun v2 H3 hacc3 hlec3 => ?_)
              have q1 : H3 kl = some (.cells (fldC last)) := look_lec (look_ne hne hls2) hlec3
              have q2 : H3 kr = some (.cells [.sl 1 (byteCells b) t,.int .i64 ((p + k : Nat) : Int)]) := look_lec (look_ne (Ne.symm hko.1) (AH.put_same _ _ _)) hlec3
              refine need_look q1 ?_
              simp -implicitDefEqProofs (disch := omega) only [go_sem,wrap_id]
              try repeat' (first|with_reducible refine go0 ?_|(with_reducible refine am_cnd ?_ ?_<;>intro hc<;>try (exfalso;omega))|((first|with_reducible (first|refine go1 ?_|refine vc_intro ?_|refine need_el ?_|refine vlen_a ?_|refine need_by ?_|refine need_lk ?_)|((with_reducible (first|apply gd_not|apply gd_of|apply gq_not|apply gq_of|apply pickB_of))<;>intro hc<;>(try simp -implicitDefEqProofs (disch:=omega) only [go_sem,hc,wrap_id])<;>(try simp only [reduceCtorEq,bD,beq_iff_eq] at hc)<;>(try (exfalso;omega)))|((with_reducible refine alloc_intro (fun ko hko=>?_))<;>(try have hne:=fresh_ne (by assumption) hko)<;>(try simp only [AH.put_none] at hko))|((with_reducible refine vapp_go ?_ (fun v2 H2 hacc hlec=>?_));· simp only [byteCells_length,List.length_cons,List.length_nil,List.length_map,List.length_append,fldsE_length];omega)|done)<;>(try simp -implicitDefEqProofs (disch:=omega) only [go_sem,wrap_id])))
              refine ⟨n,by omega,p + k,v2,acc ++ [f],f,by omega,by omega,rfl,?_,by first | exact q2 | exact look_ne (Ne.symm hlk) q2,by first | exact AH.put_same _ _ _ | rfl,by simp; omega,he⟩
              rw [fldsE_append]
              exact AccP.turn hacc3 hkl q1 _
      · have he1 : e ≠ 0 := by omega
        rw [if_pos he1] at he
        repeat' (first|with_reducible refine go0 ?_|(with_reducible refine am_cnd ?_ ?_<;>intro hc<;>try (exfalso;omega))|((first|with_reducible (first|refine go1 ?_|refine vc_intro ?_|refine need_el ?_|refine vlen_a ?_|refine need_by ?_|refine call_turn (c1 _ hrd) ?_|refine call_of (fright_calls) ?_|refine qcall_of (fright_calls) ?_|refine call_of (behind_calls) ?_|refine qcall_of (behind_calls) ?_|refine need_lk ?_)|((with_reducible (first|apply gd_not|apply gd_of|apply gq_not|apply gq_of|apply pickB_of))<;>intro hc<;>(try simp -implicitDefEqProofs (disch:=omega) only [go_sem,hc,wrap_id,hrd])<;>(try simp only [reduceCtorEq,bD,beq_iff_eq] at hc)<;>(try (exfalso;omega)))|((with_reducible refine alloc_intro (fun ko hko=>?_))<;>(try have hne:=fresh_ne (by assumption) hko)<;>(try simp only [AH.put_none] at hko))|((with_reducible refine vapp_go ?_ (fun v2 H2 hacc hlec=>?_));· simp only [byteCells_length,List.length_cons,List.length_nil,List.length_map,List.length_append,fldsE_length];omega)|done)<;>(try simp -implicitDefEqProofs (disch:=omega) only [go_sem,wrap_id,hrd])))
        rw [he]
        refine drop_end (by (first | exact fun _ _ h => h | (intro s x h; first | exact no_sub _ h | exact nil_no _ h | exact AccP.sub (by assumption) _ _ h | (refine agg_sub rfl ?_ x h; repeat (first | exact .nil | refine .cons (fun _ h => h) ?_ | refine .cons (fun _ h => nil_no _ h) ?_ | refine .cons (fun _ h => no_sub _ h) ?_ | refine .cons (fun _ h => AccP.sub (by assumption) _ _ h) ?_)) | (refine tuple_sub ?_ x h; repeat (first | exact .nil | refine .cons (fun _ h => h) ?_ | refine .cons (fun _ h => nil_no _ h) ?_ | refine .cons (fun _ h => no_sub _ h) ?_ | refine .cons (fun _ h => AccP.sub (by assumption) _ _ h) ?_ | refine .cons (fun _ h => agg_sub rfl (by repeat (first | exact .nil | refine .cons (fun _ h => h) ?_ | refine .cons (fun _ h => nil_no _ h) ?_ | refine .cons (fun _ h => no_sub _ h) ?_ | refine .cons (fun _ h => AccP.sub (by assumption) _ _ h) ?_)) _ h) ?_))))) (AH.le_put hle2 (none_of_le hle2 (by simp only [AH.put_none]; simp_all)) _)
    · repeat' (first|with_reducible refine go0 ?_|(with_reducible refine am_cnd ?_ ?_<;>intro hc<;>try (exfalso;omega))|((first|with_reducible (first|refine go1 ?_|refine vc_intro ?_|refine need_el ?_|refine vlen_a ?_|refine need_by ?_|refine need_lk ?_)|((with_reducible (first|apply gd_not|apply gd_of|apply gq_not|apply gq_of|apply pickB_of))<;>intro hc<;>(try simp -implicitDefEqProofs (disch:=omega) only [go_sem,hc,wrap_id,hrd])<;>(try simp only [reduceCtorEq,bD,beq_iff_eq] at hc)<;>(try (exfalso;omega)))|((with_reducible refine alloc_intro (fun ko hko=>?_))<;>(try have hne:=fresh_ne (by assumption) hko)<;>(try simp only [AH.put_none] at hko))|((with_reducible refine vapp_go ?_ (fun v2 H2 hacc hlec=>?_));· simp only [byteCells_length,List.length_cons,List.length_nil,List.length_map,List.length_append,fldsE_length];omega)|done)<;>(try simp -implicitDefEqProofs (disch:=omega) only [go_sem,wrap_id,hrd])))
      have : b.drop p = [] := List.drop_eq_nil_of_le (by omega)
      have he2 : decS b = (acc,(acc.length : Int),0) := by rw [he,this]; cases n <;> simp [decL]
      rw [he2]
      (refine drop_end (by (first | exact fun _ _ h => h | (intro s x h; first | exact no_sub _ h | exact nil_no _ h | exact AccP.sub (by assumption) _ _ h | (refine agg_sub rfl ?_ x h; repeat (first | exact .nil | refine .cons (fun _ h => h) ?_ | refine .cons (fun _ h => nil_no _ h) ?_ | refine .cons (fun _ h => no_sub _ h) ?_ | refine .cons (fun _ h => AccP.sub (by assumption) _ _ h) ?_)) | (refine tuple_sub ?_ x h; repeat (first | exact .nil | refine .cons (fun _ h => h) ?_ | refine .cons (fun _ h => nil_no _ h) ?_ | refine .cons (fun _ h => no_sub _ h) ?_ | refine .cons (fun _ h => AccP.sub (by assumption) _ _ h) ?_ | refine .cons (fun _ h => agg_sub rfl (by repeat (first | exact .nil | refine .cons (fun _ h => h) ?_ | refine .cons (fun _ h => nil_no _ h) ?_ | refine .cons (fun _ h => no_sub _ h) ?_ | refine .cons (fun _ h => AccP.sub (by assumption) _ _ h) ?_)) _ h) ?_))))) (by (repeat (first | exact AH.le_refl _ | assumption | exact AccP.le (by assumption) | refine AH.le_put ?_ (by first | assumption | exact none_of_le (by assumption) (by assumption) | exact And.right (by assumption) | exact And.right (And.right (by assumption))) _ | refine AH.le_trans ?_ (AccP.le (by assumption))))))
end Go.Proofs.YtkldmgnhbomknaaGreat.Msg
