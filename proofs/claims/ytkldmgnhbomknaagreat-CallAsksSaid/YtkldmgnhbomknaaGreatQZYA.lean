/- Contracts of functions of the given program. Conditions: as each theorem says. -/
import Derived.Test.YtkldmgnhbomknaaGreatQZKMB
import Derived.Test.YtkldmgnhbomknaaGreatVmV
set_option linter.unusedVariables false
set_option linter.unusedSimpArgs false
/- The reference's messages. -/
namespace Go.Proofs.YtkldmgnhbomknaaGreat.Msg
open Go.Vm
attribute [local go_sem] eq_self decide_true decide_false AH.put_ne
attribute [local go_sem_proc] Nat.reduceBEq Nat.reduceAdd Nat.reduceSub Nat.reduceMul Nat.reduceEqDiff Nat.reduceLeDiff Nat.reduceLT Int.reduceLE Int.reduceLT Int.reduceToNat Int.reduceAdd Int.reduceEq Int.reduceNeg
attribute [local go_sem] byteCells_get byteCells_length Int.toNat_natCast Option.map_some Int.natCast_nonneg decide_eq_true_eq decide_eq_false_iff_not
/- flange/flangeref01.Bytes -/
abbrev k76_0 : MC :=
 .cond (.t 10) (.skip) (.exit 0)
abbrev k76_1 : MC :=
 .cond (.t 17) (.reg [
 mv 18 5,
 vl 19 (.bin .add .num (.t 18) (.c (.int .u8 128))),
 mv 5 19] [0,3,5]) (.skip)
abbrev k76_2 : MC :=
 .reg [
 mv 20 3,
 mv 21 5,
 ⟨some 22,none,.bslice 1 1 [(.int .u8 0)] [(0,1,(.t 21))]⟩,
 ⟨some 23,none,.app 1 1 (.t 20) (.t 22)⟩,
 mv 3 23] [0,3]
abbrev k76_3 : MC :=
 (.seq ((.seq (.reg [
 mv 16 0,
 vl 17 (.bin .gtr .num (.t 16) (.c (.int .u64 0)))] [0,3,5,17]) k76_1)) k76_2)
abbrev k76_4 : MC :=
 (.seq (.reg [
 mv 14 0,
 vl 15 (.bin .quo .num (.t 14) (.c (.int .u64 128))),
 mv 0 15] [0,3,5]) k76_3)
abbrev k76_5 : MC :=
 .reg [
 vl 4 (.mv (.c (.bool false)))] [0,3,4]
abbrev k76_6 : MC :=
 (.seq (.block 1 ((.seq (.reg [
 mv 11 0,
 vl 12 (.bin .rem .num (.t 11) (.c (.int .u64 128))),
 vl 13 (.i2i .u8 (.t 12)),
 mv 5 13] [0,3,5]) k76_4))) k76_5)
abbrev k76_7 : MC :=
 (.seq ((.seq (.reg [
 mv 6 4,
 mv 7 6,
 ⟨some 8,(some (7,false)),.val (.mv (.t 0))⟩,
 ⟨some 9,(some (7,false)),.val (.bin .gtr .num (.t 8) (.c (.int .u64 0)))⟩,
 vl 10 (.pick (.t 7) (.c (.bool true)) (.t 9))] [0,3,10]) k76_0)) k76_6)
abbrev k76_8 : MC :=
 .block 0 (.loop k76_7)
abbrev k76_9 : MC :=
 (.seq (.reg [
 mv 24 3,
 mv 2 24] [2]) (.ret))
abbrev k76_10 : MC :=
 (.seq ((.seq (.reg [
 vl 4 (.mv (.c (.bool true)))] [0,3,4]) k76_8)) k76_9)
abbrev k76_11 : MC :=
 (.seq (.reg [
 vl 3 (.mv (.c .nilSl))] [0,3]) k76_10)
abbrev k76 : MC :=
 (.seq (.reg [
 vl 2 (.mv (.c .nilSl))] [0]) k76_11)
theorem c76 : Tryz.f76.body.bind (mcOf Tryz.prog (List.contains [] ·) (List.getD [([],[0]),([],[0,3]),([],[0,3,4]),([],[0,3,10]),([],[0,3,4]),([],[0,3,5]),([],[0,3,5]),([],[0,3,5,17]),([],[0,3,5]),([],[0,3]),([],[2])] · ([],[])) 25) = some k76 := by kernel_rfl
theorem r76 : rvsOf Tryz.prog Tryz.f76.results.toList = some [.tmp 2] := by kernel_rfl
theorem rbytes_calls {H : AH} {n : Nat} (hn : n < 18446744073709551616) :
    ACalls Tryz.prog 76 [.int .u64 n] H (fun o H' => ∃ v',o = .ret v' ∧ AccP H 1 (byteCells (vb n)) v' H') := by
  refine acalls Tryz.func76 c76 r76 (by simp [Tryz.ntmps76]) ?_
  repeat (first | refine am_seq ?_ | (refine am_reg ?_; simp -implicitDefEqProofs (disch := omega) only [go_sem]) | (refine am_drw ?_; simp -implicitDefEqProofs (disch := omega) only [go_sem]) | refine am_block ?_)
  refine am_loop (fun k a H' => ∃ (l' : List UInt8) (n' : Nat) (v' : V) (first : Bool),k = n' + first.toNat ∧ a = [(0,.int .u64 n'),(3,v'),(4,.bool first)] ∧ AccP H 1 (byteCells l') v' H' ∧ (if first = true ∨ 0 < n' then l' ++ vb n' = vb n else l' = vb n) ∧ n' < 18446744073709551616) ?_ (n + 1) ⟨[],n,.nilSl,true,rfl,rfl,AccP.nil _ _,by simp,hn⟩
  rintro k a H' ⟨l',n',v',first,rfl,rfl,hacc',he,hn'⟩
  have hlen : l'.length < 100000010 := by
    have h1 := vb_len10 hn
    split at he
    · have := congrArg List.length he
      simp only [List.length_append] at *
      omega
    · rw [he]; omega
  have step : ∀ v2 H2,(first = true ∨ 0 < n') → 0 < n' / 128 → AccP H 1 (byteCells l' ++ [[V.int IntKind.u8 (((n' % 128 : Nat) : Int) + 128)]]) v2 H2 → AccP H 1 (byteCells (l' ++ [UInt8.ofNat (n' % 128 + 128)])) v2 H2 ∧ (l' ++ [UInt8.ofNat (n' % 128 + 128)]) ++ vb (n' / 128) = vb n := by
    intro v2 H2 hf h0 h
    refine ⟨?_,?_⟩
    · rw [byteCells_append]
      show AccP H 1 (byteCells l' ++ [[V.int IntKind.u8 ((UInt8.ofNat (n' % 128 + 128)).toNat : Int)]]) v2 H2
      rw [ofNat_toNat (by omega)]; simpa using h
    · rw [if_pos hf,vb_ge (by omega)] at he
      rw [← he]; simp
  have last : ∀ v2 H2,(first = true ∨ 0 < n') → ¬ 0 < n' / 128 → AccP H 1 (byteCells l' ++ [[V.int IntKind.u8 ((n' % 128 : Nat) : Int)]]) v2 H2 → AccP H 1 (byteCells (l' ++ [UInt8.ofNat (n' % 128)])) v2 H2 ∧ l' ++ [UInt8.ofNat (n' % 128)] = vb n := by
    intro v2 H2 hf h0 h
    refine ⟨?_,?_⟩
    · rw [byteCells_append]
      show AccP H 1 (byteCells l' ++ [[V.int IntKind.u8 ((UInt8.ofNat (n' % 128)).toNat : Int)]]) v2 H2
      rw [ofNat_toNat (by omega)]; simpa using h
    · rw [if_pos hf,vb_lt (by omega)] at he
      rw [← he,Nat.mod_eq_of_lt (by omega)]
  repeat' (first|with_reducible refine go0 ?_|(with_reducible refine am_cnd ?_ ?_<;>intro hc<;>try (exfalso;omega))|((first|with_reducible (first|refine go1 ?_|refine vc_intro ?_|refine need_el ?_|refine vlen_a ?_|refine need_by ?_|refine need_lk ?_)|((with_reducible (first|apply gd_not|apply gd_of|apply gq_not|apply gq_of|apply pickB_of))<;>intro hc<;>(try simp -implicitDefEqProofs (disch:=omega) only [go_sem,hc,tdiv128,tmod128,u64_id,u8_id])<;>(try simp only [reduceCtorEq,bD,beq_iff_eq] at hc)<;>(try (exfalso;omega)))|((with_reducible refine alloc_intro (fun ko hko=>?_))<;>(try have hne:=fresh_ne (by assumption) hko)<;>(try simp only [AH.put_none] at hko))|((with_reducible refine vapp_go ?_ (fun v2 H2 hacc hlec=>?_));· simp only [byteCells_length,List.length_cons,List.length_nil,List.length_map,List.length_append];omega)|done)<;>(try simp -implicitDefEqProofs (disch:=omega) only [go_sem,tdiv128,tmod128,u64_id,u8_id])))
  · subst first
    obtain ⟨g1,g2⟩ := step _ _ (.inr (by omega)) (by omega) hacc
    exact ⟨n' / 128,by simp; omega,_,n' / 128,_,false,by simp,rfl,g1,by rw [if_pos (.inr (by omega))]; exact g2,by omega⟩
  · subst first
    obtain ⟨g1,g2⟩ := last _ _ (.inr (by omega)) (by omega) hacc
    exact ⟨n' / 128,by simp; omega,_,n' / 128,_,false,by simp,rfl,g1,by rw [if_neg (by simp; omega)]; exact g2,by omega⟩
  · subst first
    rw [if_neg (by simp; omega)] at he
    exact ⟨_,rfl,he ▸ hacc'⟩
  · subst first
    obtain ⟨g1,g2⟩ := step _ _ (.inl rfl) (by omega) hacc
    exact ⟨n' / 128,by simp; omega,_,n' / 128,_,false,by simp,rfl,g1,by rw [if_pos (.inr (by omega))]; exact g2,by omega⟩
  · subst first
    obtain ⟨g1,g2⟩ := last _ _ (.inl rfl) (by omega) hacc
    exact ⟨n' / 128,by simp; omega,_,n' / 128,_,false,by simp,rfl,g1,by rw [if_neg (by simp; omega)]; exact g2,by omega⟩
end Go.Proofs.YtkldmgnhbomknaaGreat.Msg
/- The reference's messages. -/
namespace Go.Proofs.YtkldmgnhbomknaaGreat.Msg
open Go.Vm
attribute [local go_sem] eq_self decide_true decide_false AH.put_ne
attribute [local go_sem_proc] Nat.reduceBEq Nat.reduceAdd Nat.reduceSub Nat.reduceMul Nat.reduceEqDiff Nat.reduceLeDiff Nat.reduceLT Int.reduceLE Int.reduceLT Int.reduceToNat Int.reduceAdd Int.reduceEq Int.reduceNeg
attribute [local go_sem] byteCells_get byteCells_length byteCells_take byteCells_drop bytes_cells fldC fldsE_get fldsE_length List.drop_zero bytesOf_cells toNat_succ Nat.sub_zero Int.toNat_natCast Option.map_some Int.natCast_nonneg decide_eq_true_eq decide_eq_false_iff_not
/- flange/flangeref02.Fits -/
abbrev k57_0 : MC :=
 .cond (.t 39) ((.seq (.reg [
 vl 4 (.mv (.c (.bool false)))] [4]) (.ret))) (.skip)
abbrev k57_1 : MC :=
 (.seq (.reg [
 vl 40 (.faddr 0 (.t 2)),
 vl 41 (.load false 1 (.t 40)),
 vl 42 (.faddr 0 (.t 3)),
 vl 43 (.load false 1 (.t 42)),
 vl 44 (.bin .gtr .num (.t 41) (.t 43)),
 mv 45 44,
 ⟨some 46,(some (45,false)),.val (.faddr 1 (.t 2))⟩,
 ⟨some 47,(some (45,false)),.val (.load false 1 (.t 46))⟩,
 ⟨some 48,(some (45,false)),.val (.mv (.t 47))⟩,
 ⟨some 49,(some (48,true)),.val (.faddr 1 (.t 3))⟩,
 ⟨some 50,(some (48,true)),.val (.load false 1 (.t 49))⟩,
 ⟨some 51,(some (45,false)),.val (.pick (.t 48) (.t 50) (.c (.bool false)))⟩,
 vl 52 (.pick (.t 45) (.c (.bool true)) (.t 51)),
 mv 4 52] [4]) (.ret))
abbrev k57_2 : MC :=
 (.seq ((.seq (.reg [
 vl 5 (.faddr 0 (.t 2)),
 vl 6 (.load false 1 (.t 5)),
 vl 7 (.bin .lss .num (.t 6) (.c (.int .i64 1))),
 mv 8 7,
 ⟨some 9,(some (8,false)),.val (.faddr 0 (.t 2))⟩,
 ⟨some 10,(some (8,false)),.val (.load false 1 (.t 9))⟩,
 ⟨some 11,(some (8,false)),.val (.bin .gtr .num (.t 10) (.c (.int .i64 1000)))⟩,
 vl 12 (.pick (.t 8) (.c (.bool true)) (.t 11)),
 mv 13 12,
 ⟨some 14,(some (13,false)),.val (.faddr 1 (.t 2))⟩,
 ⟨some 15,(some (13,false)),.val (.load false 1 (.t 14))⟩,
 ⟨some 16,(some (13,false)),.val (.mv (.t 15))⟩,
 ⟨some 17,(some (16,true)),.val (.faddr 2 (.t 2))⟩,
 ⟨some 18,(some (16,true)),.val (.load false 1 (.t 17))⟩,
 ⟨some 19,(some (16,true)),.val (.bin .neq .num (.t 18) (.c (.int .u64 0)))⟩,
 ⟨some 20,(some (13,false)),.val (.pick (.t 16) (.t 19) (.c (.bool false)))⟩,
 vl 21 (.pick (.t 13) (.c (.bool true)) (.t 20)),
 mv 22 21,
 ⟨some 23,(some (22,false)),.val (.faddr 1 (.t 2))⟩,
 ⟨some 24,(some (22,false)),.val (.load false 1 (.t 23))⟩,
 ⟨some 25,(some (22,false)),.val (.not (.t 24))⟩,
 ⟨some 26,(some (22,false)),.val (.mv (.t 25))⟩,
 ⟨some 27,(some (26,true)),.val (.faddr 3 (.t 2))⟩,
 ⟨some 28,(some (26,true)),.val (.load false 1 (.t 27))⟩,
 ⟨some 29,(some (26,true)),.val (.len .sl (.t 28))⟩,
 ⟨some 30,(some (26,true)),.val (.bin .gtr .num (.t 29) (.c (.int .i64 0)))⟩,
 ⟨some 31,(some (22,false)),.val (.pick (.t 26) (.t 30) (.c (.bool false)))⟩,
 vl 32 (.pick (.t 22) (.c (.bool true)) (.t 31)),
 mv 33 32,
 ⟨some 34,(some (33,false)),.val (.faddr 0 (.t 2))⟩,
 ⟨some 35,(some (33,false)),.val (.load false 1 (.t 34))⟩,
 ⟨some 36,(some (33,false)),.val (.faddr 0 (.t 3))⟩,
 ⟨some 37,(some (33,false)),.val (.load false 1 (.t 36))⟩,
 ⟨some 38,(some (33,false)),.val (.bin .lss .num (.t 35) (.t 37))⟩,
 vl 39 (.pick (.t 33) (.c (.bool true)) (.t 38))] [2,3,39]) k57_0)) k57_1)
abbrev k57 : MC :=
 (.seq (.reg [
 ⟨some 2,none,.boxi (.t 0)⟩,
 ⟨some 3,none,.boxi (.t 1)⟩,
 vl 4 (.mv (.c (.bool false)))] [2,3]) k57_2)
theorem c57 : Tryz.f57.body.bind (mcOf Tryz.prog (List.contains [2,3] ·) (List.getD [([],[2,3]),([],[2,3,39]),([],[4]),([],[4])] · ([],[])) 53) = some k57 := by kernel_rfl
theorem r57 : rvsOf Tryz.prog Tryz.f57.results.toList = some [.tmp 4] := by kernel_rfl
/- flange/flangeref02.Lay -/
abbrev k58_0 : MC :=
 .cond (.t 6) ((.seq (.drw [
 vl 7 (.faddr 0 (.t 1)),
 vl 8 (.load false 1 (.t 7)),
 vl 9 (.i2i .u64 (.t 8)),
 vl 10 (.bin .mul .num (.t 9) (.c (.int .u64 2))),
 vl 12 (.faddr 2 (.t 1)),
 vl 13 (.load false 1 (.t 12))] [
 ⟨some 11,none,.scall 76 [(.t 10)]⟩,
 ⟨some 14,none,.scall 76 [(.t 13)]⟩,
 ⟨some 15,none,.app 1 1 (.t 11) (.t 14)⟩,
 mv 2 15] [2]) (.ret))) (.skip)
abbrev k58_1 : MC :=
 (.seq (.reg [
 mv 28 3,
 vl 29 (.faddr 3 (.t 1)),
 vl 30 (.load false 1 (.t 29)),
 ⟨some 31,none,.app 1 1 (.t 28) (.t 30)⟩,
 mv 2 31] [2]) (.ret))
abbrev k58_2 : MC :=
 (.seq (.drw [
 vl 16 (.faddr 0 (.t 1)),
 vl 17 (.load false 1 (.t 16)),
 vl 18 (.i2i .u64 (.t 17)),
 vl 19 (.bin .mul .num (.t 18) (.c (.int .u64 2))),
 vl 20 (.bin .add .num (.t 19) (.c (.int .u64 1))),
 vl 22 (.faddr 3 (.t 1)),
 vl 23 (.load false 1 (.t 22)),
 vl 24 (.len .sl (.t 23)),
 vl 25 (.i2i .u64 (.t 24))] [
 ⟨some 21,none,.scall 76 [(.t 20)]⟩,
 ⟨some 26,none,.scall 76 [(.t 25)]⟩,
 ⟨some 27,none,.app 1 1 (.t 21) (.t 26)⟩,
 mv 3 27] [1,3]) k58_1)
abbrev k58_3 : MC :=
 (.seq ((.seq (.reg [
 vl 4 (.faddr 1 (.t 1)),
 vl 5 (.load false 1 (.t 4)),
 vl 6 (.not (.t 5))] [1,6]) k58_0)) k58_2)
abbrev k58 : MC :=
 (.seq (.reg [
 ⟨some 1,none,.boxi (.t 0)⟩,
 vl 2 (.mv (.c .nilSl))] [1]) k58_3)
theorem c58 : Tryz.f58.body.bind (mcOf Tryz.prog (List.contains [1] ·) (List.getD [([],[1]),([],[1,6]),([0,0,0,0,3,0,0,3,2,2],[2]),([0,0,0,0,0,3,0,0,0,0,3,2,2],[1,3]),([],[2])] · ([],[])) 32) = some k58 := by kernel_rfl
theorem r58 : rvsOf Tryz.prog Tryz.f58.results.toList = some [.tmp 2] := by kernel_rfl
/- flange/flangeref02.Encode -/
abbrev k26_0 : MC :=
 .cond (.t 11) ((.seq (.reg [
 vl 2 (.mv (.c .nilSl)),
 vl 3 (.mv (.c (.int .i64 3)))] [2,3]) (.ret))) (.skip)
abbrev k26_1 : MC :=
 .cond (.t 16) (.skip) (.exit 0)
abbrev k26_2 : MC :=
 .cond (.t 40) (.reg [
 mv 41 5,
 mv 42 0,
 mv 43 8,
 vl 44 (.iaddr 4 (.t 42) (.t 43)),
 vl 45 (.load true 4 (.t 44)),
 ⟨some 46,none,.call 58 [(.t 45)]⟩,
 ⟨some 47,none,.app 1 1 (.t 41) (.t 46)⟩,
 mv 5 47] [0,4,5,6,7,8]) (.skip)
abbrev k26_3 : MC :=
 (.seq (.reg [
 mv 40 7] [0,4,5,6,7,8,40]) k26_2)
abbrev k26_4 : MC :=
 (.seq (.reg [
 mv 36 0,
 mv 37 8,
 vl 38 (.iaddr 4 (.t 36) (.t 37)),
 vl 39 (.load true 4 (.t 38)),
 ⟨none,none,.store 4 (.t 6) (.t 39)⟩] [0,4,5,6,7,8]) k26_3)
abbrev k26_5 : MC :=
 (.seq (.drw [
 mv 27 7,
 mv 28 27,
 ⟨some 29,(some (28,true)),.val (.mv (.t 0))⟩,
 ⟨some 30,(some (28,true)),.val (.mv (.t 8))⟩,
 ⟨some 31,(some (28,true)),.val (.iaddr 4 (.t 29) (.t 30))⟩,
 ⟨some 32,(some (28,true)),.val (.load true 4 (.t 31))⟩,
 ⟨some 33,(some (28,true)),.val (.load true 4 (.t 6))⟩,
 ⟨some 34,(some (28,true)),.call 57 [(.t 32),(.t 33)]⟩,
 vl 35 (.pick (.t 28) (.t 34) (.c (.bool false))),
 mv 7 35] [] [0,4,5,6,7,8]) k26_4)
abbrev k26_6 : MC :=
 .reg [
 mv 17 8,
 vl 18 (.bin .add .num (.t 17) (.c (.int .i64 1))),
 mv 8 18] [0,4,5,6,7,8]
abbrev k26_7 : MC :=
 (.seq (.block 1 ((.seq (.reg [
 mv 19 4,
 mv 20 0,
 mv 21 8,
 vl 22 (.iaddr 4 (.t 20) (.t 21)),
 vl 23 (.faddr 3 (.t 22)),
 vl 24 (.load false 1 (.t 23)),
 vl 25 (.len .sl (.t 24)),
 vl 26 (.bin .add .num (.t 19) (.t 25)),
 mv 4 26] [0,4,5,6,7,8]) k26_5))) k26_6)
abbrev k26_8 : MC :=
 (.seq ((.seq (.reg [
 mv 13 8,
 mv 14 0,
 vl 15 (.len .sl (.t 14)),
 vl 16 (.bin .lss .num (.t 13) (.t 15))] [0,4,5,6,7,8,16]) k26_1)) k26_7)
abbrev k26_9 : MC :=
 .block 0 (.loop k26_8)
abbrev k26_10 : MC :=
 .cond (.t 49) ((.seq (.reg [
 vl 2 (.mv (.c .nilSl)),
 vl 3 (.mv (.c (.int .i64 3)))] [2,3]) (.ret))) (.skip)
abbrev k26_11 : MC :=
 .cond (.t 51) ((.seq (.reg [
 vl 2 (.mv (.c .nilSl)),
 vl 3 (.mv (.c (.int .i64 1)))] [2,3]) (.ret))) (.skip)
abbrev k26_12 : MC :=
 .cond (.t 54) ((.seq (.reg [
 vl 2 (.mv (.c .nilSl)),
 vl 3 (.mv (.c (.int .i64 3)))] [2,3]) (.ret))) (.skip)
abbrev k26_13 : MC :=
 (.seq (.reg [
 mv 55 5,
 mv 2 55,
 vl 3 (.mv (.c (.int .i64 0)))] [2,3]) (.ret))
abbrev k26_14 : MC :=
 (.seq ((.seq (.reg [
 mv 52 5,
 vl 53 (.len .sl (.t 52)),
 vl 54 (.bin .gtr .num (.t 53) (.c (.int .i64 4096)))] [5,54]) k26_12)) k26_13)
abbrev k26_15 : MC :=
 (.seq ((.seq (.reg [
 mv 50 7,
 vl 51 (.not (.t 50))] [5,51]) k26_11)) k26_14)
abbrev k26_16 : MC :=
 (.seq ((.seq (.reg [
 mv 48 4,
 vl 49 (.bin .gtr .num (.t 48) (.c (.int .i64 4096)))] [5,7,49]) k26_10)) k26_15)
abbrev k26_17 : MC :=
 (.seq ((.seq (.reg [
 vl 8 (.mv (.c (.int .i64 0)))] [0,4,5,6,7,8]) k26_9)) k26_16)
abbrev k26_18 : MC :=
 (.seq (.reg [
 vl 7 (.mv (.c (.bool true)))] [0,4,5,6,7]) k26_17)
abbrev k26_19 : MC :=
 (.seq (.reg [
 ⟨some 12,none,.build [(.int .i64 0),(.bool false),(.int .u64 0),.nilSl] []⟩,
 ⟨some 6,none,.zalloc [(.int .i64 0),(.bool false),(.int .u64 0),.nilSl]⟩,
 ⟨none,none,.store 4 (.t 6) (.t 12)⟩] [0,4,5,6]) k26_18)
abbrev k26_20 : MC :=
 (.seq (.reg [
 vl 5 (.mv (.c .nilSl))] [0,4,5]) k26_19)
abbrev k26_21 : MC :=
 (.seq (.reg [
 vl 4 (.mv (.c (.int .i64 0)))] [0,4]) k26_20)
abbrev k26_22 : MC :=
 (.seq ((.seq (.reg [
 mv 9 0,
 vl 10 (.len .sl (.t 9)),
 vl 11 (.bin .gtr .num (.t 10) (.c (.int .i64 64)))] [0,11]) k26_0)) k26_21)
abbrev k26 : MC :=
 (.seq (.reg [
 vl 2 (.mv (.c .nilSl)),
 vl 3 (.mv (.c (.int .i64 0)))] [0]) k26_22)
theorem c26 : Tryz.f26.body.bind (mcOf Tryz.prog (List.contains [] ·) (List.getD [([],[0]),([],[0,11]),([],[2,3]),([],[0,4]),([],[0,4,5]),([],[0,4,5,6]),([],[0,4,5,6,7]),([],[0,4,5,6,7,8]),([],[0,4,5,6,7,8,16]),([],[0,4,5,6,7,8]),([],[0,4,5,6,7,8]),([0,0,0,0,0,0,0,0,0,0],[0,4,5,6,7,8]),([],[0,4,5,6,7,8]),([],[0,4,5,6,7,8,40]),([],[0,4,5,6,7,8]),([],[5,7,49]),([],[2,3]),([],[5,51]),([],[2,3]),([],[5,54]),([],[2,3]),([],[2,3])] · ([],[])) 56) = some k26 := by kernel_rfl
theorem r26 : rvsOf Tryz.prog Tryz.f26.results.toList = some [.tmp 2,.tmp 3] := by kernel_rfl
theorem fits_calls {f l : Fld} (H : AH) : ACalls Tryz.prog 57 [.agg (fldC f),.agg (fldC l)] H (fun o H' => o = .ret (.bool (fitsF f l)) ∧ H' = H) := by
  refine acalls Tryz.func57 c57 r57 (by simp [Tryz.ntmps57]) ?_
  repeat' (first|with_reducible refine go0 ?_|(with_reducible refine am_cnd ?_ ?_<;>intro hc<;>try (exfalso;omega))|((first|with_reducible (first|refine go1 ?_|refine vc_intro ?_|refine need_el ?_|refine vlen_a ?_|refine need_by ?_|refine need_lk ?_)|((with_reducible (first|apply gd_not|apply gd_of|apply gq_not|apply gq_of|apply pickB_of))<;>intro hc<;>(try simp -implicitDefEqProofs (disch:=omega) only [go_sem,hc])<;>(try simp only [reduceCtorEq,bD,beq_iff_eq] at hc)<;>(try (exfalso;omega)))|((with_reducible refine alloc_intro (fun ko hko=>?_))<;>(try have hne:=fresh_ne (by assumption) hko)<;>(try simp only [AH.put_none] at hko))|done)<;>(try simp -implicitDefEqProofs (disch:=omega) only [go_sem])))
  all_goals first
    | (simp_all [fitsF,rightF,behindF]; done)
    | (simp_all [fitsF,rightF,behindF]; omega)
    | (have e : f.tag = l.tag := by omega
       simp_all [fitsF,rightF,behindF]; done)
    | (simp_all [fitsF,rightF,behindF]; intro e; simp_all; done)
    | skip
theorem rlay_calls {f : Fld} (hf : f.n < 18446744073709551616 ∧ f.b.length < 10000000) (h : 1 ≤ f.tag ∧ f.tag ≤ 1000) (H : AH) :
    ACalls Tryz.prog 58 [.agg (fldC f)] H (fun o H' => o = .ret (.sl 1 (byteCells (layF f)) .no) ∧ H' = H) := by
  refine acc_pure ?_
  refine acalls Tryz.func58 c58 r58 (by simp [Tryz.ntmps58]) ?_
  have hk : keyN f < 18446744073709551616 := by simp only [keyN]; cases f.by_ <;> simp <;> omega
  have h1 := vb_len10 hk
  have h2 := vb_len10 (show f.b.length < 18446744073709551616 by omega)
  have h3 := vb_len10 hf.1
  have e1 : f.by_ = false → f.tag * 2 = ((keyN f : Nat) : Int) := by intro h; simp [keyN,h]; omega
  have e2 : f.by_ = true → f.tag * 2 + 1 = ((keyN f : Nat) : Int) := by intro h; simp [keyN,h]; omega
  cases hby : f.by_
  · repeat' (first|with_reducible refine go0 ?_|(with_reducible refine am_cnd ?_ ?_<;>intro hc<;>try (exfalso;omega))|((first|with_reducible (first|refine go1 ?_|refine vc_intro ?_|refine need_el ?_|refine vlen_a ?_|refine need_by ?_|refine call_ex (rbytes_calls (by omega)) (fun v H2 hr=>?_)|refine need_lk ?_)|((with_reducible refine alloc_intro (fun ko hko=>?_))<;>(try have hne:=fresh_ne (by assumption) hko)<;>(try have hnk:=fresh_ne hk hko)<;>(try simp only [AH.put_none] at hko))|((with_reducible refine vapp_go ?_ (fun v2 H2 hacc hlec=>?_));· simp only [byteCells_length,List.length_cons,List.length_nil,List.length_map,List.length_append,fldsE_length,List.length_take];omega)|done)<;>(try simp -implicitDefEqProofs (disch:=omega) only [go_sem,u64_id,hby,e1 hby])))
    refine ⟨_,rfl,?_⟩
    simpa [layF,hby,byteCells_append] using hacc
  · repeat' (first|with_reducible refine go0 ?_|(with_reducible refine am_cnd ?_ ?_<;>intro hc<;>try (exfalso;omega))|((first|with_reducible (first|refine go1 ?_|refine vc_intro ?_|refine need_el ?_|refine vlen_a ?_|refine need_by ?_|refine call_ex (rbytes_calls (by omega)) (fun v H2 hr=>?_)|refine need_lk ?_)|((with_reducible refine alloc_intro (fun ko hko=>?_))<;>(try have hne:=fresh_ne (by assumption) hko)<;>(try have hnk:=fresh_ne hk hko)<;>(try simp only [AH.put_none] at hko))|((with_reducible refine vapp_go ?_ (fun v2 H2 hacc hlec=>?_));· simp only [byteCells_length,List.length_cons,List.length_nil,List.length_map,List.length_append,fldsE_length,List.length_take];omega)|done)<;>(try simp -implicitDefEqProofs (disch:=omega) only [go_sem,u64_id,hby,e2 hby])))
    refine ⟨_,rfl,?_⟩
    simpa [layF,hby,byteCells_append] using hacc
theorem rencode_calls {l : List Fld} {t : Tok} (hl : l.length < 100000000) (ho : ∀ f ∈ l,f.n < 18446744073709551616 ∧ f.b.length < 10000000) (H : AH) :
    ACalls Tryz.prog 26 [.sl 4 (fldsE l) t] H (fun o H' => o = .ret (.tuple [.sl 1 (byteCells (encS l).1) .no,.int .i64 (encS l).2]) ∧ H' = H) := by
  refine ACalls.drop ?_
  refine acalls Tryz.func26 c26 r26 (by simp [Tryz.ntmps26]) ?_
  by_cases h64 : 64 < l.length
  · repeat' (first|with_reducible refine go0 ?_|(with_reducible refine am_cnd ?_ ?_<;>intro hc<;>try (exfalso;omega))|((first|with_reducible (first|refine go1 ?_|refine vc_intro ?_|refine need_el ?_|refine vlen_a ?_|refine need_by ?_|refine need_lk ?_)|((with_reducible (first|apply gd_not|apply gd_of|apply gq_not|apply gq_of|apply pickB_of))<;>intro hc<;>(try simp -implicitDefEqProofs (disch:=omega) only [go_sem,hc,wrap_id])<;>(try simp only [reduceCtorEq,bD,beq_iff_eq] at hc)<;>(try (exfalso;omega)))|((with_reducible refine alloc_intro (fun ko hko=>?_))<;>(try have hne:=fresh_ne (by assumption) hko)<;>(try simp only [AH.put_none] at hko))|((with_reducible refine vapp_go ?_ (fun v2 H2 hacc hlec=>?_));· simp only [byteCells_length,List.length_cons,List.length_nil,List.length_map,List.length_append,fldsE_length,List.length_take];omega)|done)<;>(try simp -implicitDefEqProofs (disch:=omega) only [go_sem,wrap_id])))
    rw [show encS l = ([],3) by rw [encS,if_pos (.inl h64)]]
    (refine drop_end (by (first | exact fun _ _ h => h | (intro s x h; first | exact no_sub _ h | exact nil_no _ h | exact AccP.sub (by assumption) _ _ h | (refine agg_sub rfl ?_ x h; repeat (first | exact .nil | refine .cons (fun _ h => h) ?_ | refine .cons (fun _ h => nil_no _ h) ?_ | refine .cons (fun _ h => no_sub _ h) ?_ | refine .cons (fun _ h => AccP.sub (by assumption) _ _ h) ?_)) | (refine tuple_sub ?_ x h; repeat (first | exact .nil | refine .cons (fun _ h => h) ?_ | refine .cons (fun _ h => nil_no _ h) ?_ | refine .cons (fun _ h => no_sub _ h) ?_ | refine .cons (fun _ h => AccP.sub (by assumption) _ _ h) ?_ | refine .cons (fun _ h => agg_sub rfl (by repeat (first | exact .nil | refine .cons (fun _ h => h) ?_ | refine .cons (fun _ h => nil_no _ h) ?_ | refine .cons (fun _ h => no_sub _ h) ?_ | refine .cons (fun _ h => AccP.sub (by assumption) _ _ h) ?_)) _ h) ?_))))) (by (repeat (first | exact AH.le_refl _ | assumption | exact AccP.le (by assumption) | refine AH.le_put ?_ (by first | assumption | exact none_of_le (by assumption) (by assumption) | exact And.right (by assumption) | exact And.right (And.right (by assumption))) _ | refine AH.le_trans ?_ (AccP.le (by assumption))))))
  · have hall : ∀ i (h : i < l.length),l[i].n < 18446744073709551616 ∧ l[i].b.length < 10000000 := fun i h => ho _ (List.getElem_mem h)
    repeat' (first|with_reducible refine go0 ?_|(with_reducible refine am_cnd ?_ ?_<;>intro hc<;>try (exfalso;omega))|((first|with_reducible (first|refine go1 ?_|refine vc_intro ?_|refine need_el ?_|refine vlen_a ?_|refine need_by ?_|refine need_lk ?_)|((with_reducible (first|apply gd_not|apply gd_of|apply gq_not|apply gq_of|apply pickB_of))<;>intro hc<;>(try simp -implicitDefEqProofs (disch:=omega) only [go_sem,hc,wrap_id])<;>(try simp only [reduceCtorEq,bD,beq_iff_eq] at hc)<;>(try (exfalso;omega)))|((with_reducible refine alloc_intro (fun ko hko=>?_))<;>(try have hne:=fresh_ne (by assumption) hko)<;>(try simp only [AH.put_none] at hko))|((with_reducible refine vapp_go ?_ (fun v2 H2 hacc hlec=>?_));· simp only [byteCells_length,List.length_cons,List.length_nil,List.length_map,List.length_append,fldsE_length,List.length_take];omega)|done)<;>(try simp -implicitDefEqProofs (disch:=omega) only [go_sem,wrap_id])))
    refine AM.subC (ds := fldC f0) ?_ (AH.put_same _ _ _) rfl (fun s => by repeat (first | exact .nil | refine .cons (fun _ h => h) ?_ | refine .cons (fun _ h => nil_no _ h) ?_ | refine .cons (fun _ h => no_sub _ h) ?_ | refine .cons (fun _ h => AccP.sub (by assumption) _ _ h) ?_))
    rw [AH.put_put]
    refine am_loop (fun n a H2 => ∃ (j : Nat) (v : V) (acc : List UInt8) (fits : Bool) (last : Fld),j + n = l.length ∧ a = [(0,V.sl 4 (fldsE l) t),(4,.int .i64 (sizeL (l.take j))),(5,v),(6,V.ptr ko 0),(7,V.bool fits),(8,V.int IntKind.i64 j)] ∧
      AccP H 1 (byteCells acc) v H2 ∧ H2 ko = some (.cells (fldC last)) ∧ acc.length ≤ j * 10020000 ∧ sizeL (l.take j) ≤ j * 10000000 ∧ fitsL f0 l = (fits && fitsL last (l.drop j)) ∧ (fits = true → layL l = acc ++ layL (l.drop j))) ?_ l.length ⟨0,.nilSl,[],true,f0,by omega,by simp [sizeL],⟨AH.le_put (AH.le_refl _) hko _,.inl ⟨rfl,rfl⟩⟩,AH.put_same _ _ _,by simp,by simp [sizeL],by simp,by simp⟩
    rintro n a H2 ⟨j,v,acc,fits,last,hj,rfl,hacc,hlast,hal,hsl,hfit,hlay⟩
    by_cases hlt : j < l.length
    · rw [List.drop_eq_getElem_cons hlt,fitsL] at hfit
      rw [List.drop_eq_getElem_cons hlt] at hlay
      obtain ⟨hnn,hbb⟩ := hall j hlt
      have hst := sizeL_take l j hlt
      have turn : ∀ (v' : V) (H3 : AH) (l' : List UInt8) (p : AObj),AccP H 1 (byteCells l') v' H3 → H3 ko = some (.cells (fldC last)) → AccP H 1 (byteCells l') v' (H3.put ko p) := fun v' H3 l' p h1 h2 => AccP.turn h1 hko h2 p
      cases hw : fits
      · subst hw
        repeat' (first|with_reducible refine go0 ?_|(with_reducible refine am_cnd ?_ ?_<;>intro hc<;>try (exfalso;omega))|((first|with_reducible (first|refine go1 ?_|refine vc_intro ?_|refine need_el ?_|refine vlen_a ?_|refine need_by ?_|refine call_of (fits_calls) ?_|refine qcall_of (fits_calls) ?_|refine need_lk ?_)|((with_reducible (first|apply gd_not|apply gd_of|apply gq_not|apply gq_of|apply pickB_of))<;>intro hc<;>(try simp -implicitDefEqProofs (disch:=omega) only [go_sem,hc,wrap_id,get_of_lt hlt])<;>(try simp only [reduceCtorEq,bD,beq_iff_eq] at hc)<;>(try (exfalso;omega)))|((with_reducible refine alloc_intro (fun ko hko=>?_))<;>(try have hne:=fresh_ne (by assumption) hko)<;>(try simp only [AH.put_none] at hko))|((with_reducible refine vapp_go ?_ (fun v2 H2 hacc hlec=>?_));· simp only [byteCells_length,List.length_cons,List.length_nil,List.length_map,List.length_append,fldsE_length,List.length_take];omega)|done)<;>(try simp -implicitDefEqProofs (disch:=omega) only [go_sem,wrap_id,get_of_lt hlt])))
        refine ⟨n - 1,by omega,j + 1,_,acc,false,l[j],by omega,?_,turn _ _ _ _ hacc hlast,by first | exact AH.put_same _ _ _ | rfl,Nat.le_trans hal (Nat.mul_le_mul_right _ (by omega)),by omega,?_,by simp⟩
        · rw [hst]; simp
        · simp [hfit]
      · subst hw
        cases hf : fitsF l[j] last
        · repeat' (first|with_reducible refine go0 ?_|(with_reducible refine am_cnd ?_ ?_<;>intro hc<;>try (exfalso;omega))|((first|with_reducible (first|refine go1 ?_|refine vc_intro ?_|refine need_el ?_|refine vlen_a ?_|refine need_by ?_|refine call_of (fits_calls) ?_|refine qcall_of (fits_calls) ?_|refine need_lk ?_)|((with_reducible (first|apply gd_not|apply gd_of|apply gq_not|apply gq_of|apply pickB_of))<;>intro hc<;>(try simp -implicitDefEqProofs (disch:=omega) only [go_sem,hc,wrap_id,get_of_lt hlt,hf])<;>(try simp only [reduceCtorEq,bD,beq_iff_eq] at hc)<;>(try (exfalso;omega)))|((with_reducible refine alloc_intro (fun ko hko=>?_))<;>(try have hne:=fresh_ne (by assumption) hko)<;>(try simp only [AH.put_none] at hko))|((with_reducible refine vapp_go ?_ (fun v2 H2 hacc hlec=>?_));· simp only [byteCells_length,List.length_cons,List.length_nil,List.length_map,List.length_append,fldsE_length,List.length_take];omega)|done)<;>(try simp -implicitDefEqProofs (disch:=omega) only [go_sem,wrap_id,get_of_lt hlt,hf])))
          refine ⟨n - 1,by omega,j + 1,_,acc,false,l[j],by omega,?_,turn _ _ _ _ hacc hlast,by first | exact AH.put_same _ _ _ | rfl,Nat.le_trans hal (Nat.mul_le_mul_right _ (by omega)),by omega,?_,by simp⟩
          · rw [hst]; simp
          · simp [hfit,hf]
        · have htag := fits_tag hf
          have hll := layF_len htag hnn (by omega)
          repeat' (first|with_reducible refine go0 ?_|(with_reducible refine am_cnd ?_ ?_<;>intro hc<;>try (exfalso;omega))|((first|with_reducible (first|refine go1 ?_|refine vc_intro ?_|refine need_el ?_|refine vlen_a ?_|refine need_by ?_|refine call_of (fits_calls) ?_|refine qcall_of (fits_calls) ?_|refine call_of (rlay_calls ⟨hnn,by omega⟩ htag) ?_|refine qcall_of (rlay_calls ⟨hnn,by omega⟩ htag) ?_|refine need_lk ?_)|((with_reducible (first|apply gd_not|apply gd_of|apply gq_not|apply gq_of|apply pickB_of))<;>intro hc<;>(try simp -implicitDefEqProofs (disch:=omega) only [go_sem,hc,wrap_id,get_of_lt hlt,hf])<;>(try simp only [reduceCtorEq,bD,beq_iff_eq] at hc)<;>(try (exfalso;omega)))|((with_reducible refine alloc_intro (fun ko hko=>?_))<;>(try have hne:=fresh_ne (by assumption) hko)<;>(try simp only [AH.put_none] at hko))|((with_reducible refine vapp_go ?_ (fun v2 H2 hacc hlec=>?_));· simp only [byteCells_length,List.length_cons,List.length_nil,List.length_map,List.length_append,fldsE_length,List.length_take];omega)|done)<;>(try simp -implicitDefEqProofs (disch:=omega) only [go_sem,wrap_id,get_of_lt hlt,hf])))
          refine vapp_accL (turn _ _ _ _ hacc hlast) (by simp only [byteCells_length]; omega) (fun v2 H3 hacc3 hlec => ?_)
          repeat' (first|with_reducible refine go0 ?_|(with_reducible refine am_cnd ?_ ?_<;>intro hc<;>try (exfalso;omega))|((first|with_reducible (first|refine go1 ?_|refine vc_intro ?_|refine need_el ?_|refine vlen_a ?_|refine need_by ?_|refine need_lk ?_)|((with_reducible (first|apply gd_not|apply gd_of|apply gq_not|apply gq_of|apply pickB_of))<;>intro hc<;>(try simp -implicitDefEqProofs (disch:=omega) only [go_sem,hc,wrap_id])<;>(try simp only [reduceCtorEq,bD,beq_iff_eq] at hc)<;>(try (exfalso;omega)))|((with_reducible refine alloc_intro (fun ko hko=>?_))<;>(try have hne:=fresh_ne (by assumption) hko)<;>(try simp only [AH.put_none] at hko))|((with_reducible refine vapp_go ?_ (fun v2 H2 hacc hlec=>?_));· simp only [byteCells_length,List.length_cons,List.length_nil,List.length_map,List.length_append,fldsE_length,List.length_take];omega)|done)<;>(try simp -implicitDefEqProofs (disch:=omega) only [go_sem,wrap_id])))
          refine ⟨n - 1,by omega,j + 1,_,acc ++ layF l[j],true,l[j],by omega,?_,by rw [byteCells_append]; exact hacc3,look_lec (AH.put_same _ _ _) hlec,?_,by omega,?_,?_⟩
          · rw [hst]; simp
          · simp only [List.length_append]; omega
          · simp [hfit,hf]
          · intro _; rw [hlay rfl]; simp only [layL,List.flatMap_cons,List.append_assoc]
    · rw [List.drop_eq_nil_of_le (by omega)] at hfit hlay
      have hts : sizeL (l.take j) = sizeL l := by rw [List.take_of_length_le (by omega)]
      repeat' (first|with_reducible refine go0 ?_|(with_reducible refine am_cnd ?_ ?_<;>intro hc<;>try (exfalso;omega))|((first|with_reducible (first|refine go1 ?_|refine vc_intro ?_|refine need_el ?_|refine vlen_a ?_|refine need_by ?_|refine need_lk ?_)|((with_reducible (first|apply gd_not|apply gd_of|apply gq_not|apply gq_of|apply pickB_of))<;>intro hc<;>(try simp -implicitDefEqProofs (disch:=omega) only [go_sem,hc,wrap_id])<;>(try simp only [reduceCtorEq,bD,beq_iff_eq] at hc)<;>(try (exfalso;omega)))|((with_reducible refine alloc_intro (fun ko hko=>?_))<;>(try have hne:=fresh_ne (by assumption) hko)<;>(try simp only [AH.put_none] at hko))|((with_reducible refine vapp_go ?_ (fun v2 H2 hacc hlec=>?_));· simp only [byteCells_length,List.length_cons,List.length_nil,List.length_map,List.length_append,fldsE_length,List.length_take];omega)|done)<;>(try simp -implicitDefEqProofs (disch:=omega) only [go_sem,wrap_id])))
      · rw [show encS l = ([],3) by rw [encS,if_pos (.inr (by omega))]]
        (refine drop_end (by (first | exact fun _ _ h => h | (intro s x h; first | exact no_sub _ h | exact nil_no _ h | exact AccP.sub (by assumption) _ _ h | (refine agg_sub rfl ?_ x h; repeat (first | exact .nil | refine .cons (fun _ h => h) ?_ | refine .cons (fun _ h => nil_no _ h) ?_ | refine .cons (fun _ h => no_sub _ h) ?_ | refine .cons (fun _ h => AccP.sub (by assumption) _ _ h) ?_)) | (refine tuple_sub ?_ x h; repeat (first | exact .nil | refine .cons (fun _ h => h) ?_ | refine .cons (fun _ h => nil_no _ h) ?_ | refine .cons (fun _ h => no_sub _ h) ?_ | refine .cons (fun _ h => AccP.sub (by assumption) _ _ h) ?_ | refine .cons (fun _ h => agg_sub rfl (by repeat (first | exact .nil | refine .cons (fun _ h => h) ?_ | refine .cons (fun _ h => nil_no _ h) ?_ | refine .cons (fun _ h => no_sub _ h) ?_ | refine .cons (fun _ h => AccP.sub (by assumption) _ _ h) ?_)) _ h) ?_))))) (by (repeat (first | exact AH.le_refl _ | assumption | exact AccP.le (by assumption) | refine AH.le_put ?_ (by first | assumption | exact none_of_le (by assumption) (by assumption) | exact And.right (by assumption) | exact And.right (And.right (by assumption))) _ | refine AH.le_trans ?_ (AccP.le (by assumption))))))
      · have hsz' : ¬ (64 < l.length ∨ 4096 < sizeL l) := by omega
        rw [show encS l = ([],1) by rw [encS,if_neg hsz',if_pos (by simp_all)]]
        (refine drop_end (by (first | exact fun _ _ h => h | (intro s x h; first | exact no_sub _ h | exact nil_no _ h | exact AccP.sub (by assumption) _ _ h | (refine agg_sub rfl ?_ x h; repeat (first | exact .nil | refine .cons (fun _ h => h) ?_ | refine .cons (fun _ h => nil_no _ h) ?_ | refine .cons (fun _ h => no_sub _ h) ?_ | refine .cons (fun _ h => AccP.sub (by assumption) _ _ h) ?_)) | (refine tuple_sub ?_ x h; repeat (first | exact .nil | refine .cons (fun _ h => h) ?_ | refine .cons (fun _ h => nil_no _ h) ?_ | refine .cons (fun _ h => no_sub _ h) ?_ | refine .cons (fun _ h => AccP.sub (by assumption) _ _ h) ?_ | refine .cons (fun _ h => agg_sub rfl (by repeat (first | exact .nil | refine .cons (fun _ h => h) ?_ | refine .cons (fun _ h => nil_no _ h) ?_ | refine .cons (fun _ h => no_sub _ h) ?_ | refine .cons (fun _ h => AccP.sub (by assumption) _ _ h) ?_)) _ h) ?_))))) (by (repeat (first | exact AH.le_refl _ | assumption | exact AccP.le (by assumption) | refine AH.le_put ?_ (by first | assumption | exact none_of_le (by assumption) (by assumption) | exact And.right (by assumption) | exact And.right (And.right (by assumption))) _ | refine AH.le_trans ?_ (AccP.le (by assumption))))))
      · have hsz' : ¬ (64 < l.length ∨ 4096 < sizeL l) := by omega
        have e := hlay (by assumption)
        rw [show encS l = ([],3) by rw [encS,if_neg hsz',if_neg (by simp_all [fitsL]),if_pos (by rw [e]; simp [layL]; omega)]]
        (refine drop_end (by (first | exact fun _ _ h => h | (intro s x h; first | exact no_sub _ h | exact nil_no _ h | exact AccP.sub (by assumption) _ _ h | (refine agg_sub rfl ?_ x h; repeat (first | exact .nil | refine .cons (fun _ h => h) ?_ | refine .cons (fun _ h => nil_no _ h) ?_ | refine .cons (fun _ h => no_sub _ h) ?_ | refine .cons (fun _ h => AccP.sub (by assumption) _ _ h) ?_)) | (refine tuple_sub ?_ x h; repeat (first | exact .nil | refine .cons (fun _ h => h) ?_ | refine .cons (fun _ h => nil_no _ h) ?_ | refine .cons (fun _ h => no_sub _ h) ?_ | refine .cons (fun _ h => AccP.sub (by assumption) _ _ h) ?_ | refine .cons (fun _ h => agg_sub rfl (by repeat (first | exact .nil | refine .cons (fun _ h => h) ?_ | refine .cons (fun _ h => nil_no _ h) ?_ | refine .cons (fun _ h => no_sub _ h) ?_ | refine .cons (fun _ h => AccP.sub (by assumption) _ _ h) ?_)) _ h) ?_))))) (by (repeat (first | exact AH.le_refl _ | assumption | exact AccP.le (by assumption) | refine AH.le_put ?_ (by first | assumption | exact none_of_le (by assumption) (by assumption) | exact And.right (by assumption) | exact And.right (And.right (by assumption))) _ | refine AH.le_trans ?_ (AccP.le (by assumption))))))
      · have hsz' : ¬ (64 < l.length ∨ 4096 < sizeL l) := by omega
        have e := hlay (by assumption)
        have e2 : layL l = acc := by rw [e]; simp [layL]
        rw [show encS l = (acc,0) by rw [encS,if_neg hsz',if_neg (by simp_all [fitsL]),if_neg (by rw [e2]; omega),e2]]
        (refine drop_end (by (first | exact fun _ _ h => h | (intro s x h; first | exact no_sub _ h | exact nil_no _ h | exact AccP.sub (by assumption) _ _ h | (refine agg_sub rfl ?_ x h; repeat (first | exact .nil | refine .cons (fun _ h => h) ?_ | refine .cons (fun _ h => nil_no _ h) ?_ | refine .cons (fun _ h => no_sub _ h) ?_ | refine .cons (fun _ h => AccP.sub (by assumption) _ _ h) ?_)) | (refine tuple_sub ?_ x h; repeat (first | exact .nil | refine .cons (fun _ h => h) ?_ | refine .cons (fun _ h => nil_no _ h) ?_ | refine .cons (fun _ h => no_sub _ h) ?_ | refine .cons (fun _ h => AccP.sub (by assumption) _ _ h) ?_ | refine .cons (fun _ h => agg_sub rfl (by repeat (first | exact .nil | refine .cons (fun _ h => h) ?_ | refine .cons (fun _ h => nil_no _ h) ?_ | refine .cons (fun _ h => no_sub _ h) ?_ | refine .cons (fun _ h => AccP.sub (by assumption) _ _ h) ?_)) _ h) ?_))))) (by (repeat (first | exact AH.le_refl _ | assumption | exact AccP.le (by assumption) | refine AH.le_put ?_ (by first | assumption | exact none_of_le (by assumption) (by assumption) | exact And.right (by assumption) | exact And.right (And.right (by assumption))) _ | refine AH.le_trans ?_ (AccP.le (by assumption))))))
end Go.Proofs.YtkldmgnhbomknaaGreat.Msg
