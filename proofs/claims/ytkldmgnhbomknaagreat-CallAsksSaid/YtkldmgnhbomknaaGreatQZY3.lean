/- The reference's bytes of a value. -/
import Derived.Test.YtkldmgnhbomknaaGreatQZJ7
import Derived.Test.YtkldmgnhbomknaaGreatQZKV21
import Derived.Test.YtkldmgnhbomknaaGreatQZVA
import Derived.Test.YtkldmgnhbomknaaGreatQZYA
import Derived.Test.YtkldmgnhbomknaaGreatVmV
set_option linter.unusedVariables false
set_option linter.unusedSimpArgs false
namespace Go.Proofs.YtkldmgnhbomknaaGreat
open Go.Vm
attribute [local go_sem] eq_self decide_true decide_false AH.put_ne
attribute [local go_sem_proc] Nat.reduceBEq Nat.reduceAdd Nat.reduceSub Nat.reduceMul Nat.reduceEqDiff Nat.reduceLeDiff Nat.reduceLT Int.reduceLE Int.reduceLT Int.reduceToNat Int.reduceAdd Int.reduceEq Int.reduceNeg
attribute [local go_sem] vE_length byteCells_length fldC fldsE_get fldsE_length List.drop_zero toNat_succ Nat.sub_zero Int.toNat_natCast Option.map_some Int.natCast_nonneg decide_eq_true_eq decide_eq_false_iff_not
/- flange/flangeref01.Zig -/
abbrev k74_0 : MC :=
 .cond (.t 4) ((.seq (.reg [
 mv 5 0,
 vl 6 (.i2i .u64 (.t 5)),
 vl 7 (.bin .mul .num (.c (.int .u64 2)) (.t 6)),
 mv 2 7] [2]) (.ret))) (.skip)
abbrev k74_1 : MC :=
 (.seq (.reg [
 mv 8 0,
 vl 9 (.bin .add .num (.t 8) (.c (.int .i64 1))),
 vl 10 (.neg (.t 9)),
 vl 11 (.i2i .u64 (.t 10)),
 vl 12 (.bin .mul .num (.c (.int .u64 2)) (.t 11)),
 vl 13 (.bin .add .num (.t 12) (.c (.int .u64 1))),
 mv 2 13] [2]) (.ret))
abbrev k74_2 : MC :=
 (.seq ((.seq (.reg [
 mv 3 0,
 vl 4 (.bin .geq .num (.t 3) (.c (.int .i64 0)))] [0,4]) k74_0)) k74_1)
abbrev k74 : MC :=
 (.seq (.reg [
 vl 2 (.mv (.c (.int .u64 0)))] [0]) k74_2)
theorem c74 : Tryz.f74.body.bind (mcOf Tryz.prog (List.contains [] ·) (List.getD [([],[0]),([],[0,4]),([],[2]),([],[2])] · ([],[])) 14) = some k74 := by kernel_rfl
theorem r74 : rvsOf Tryz.prog Tryz.f74.results.toList = some [.tmp 2] := by kernel_rfl
/- flange/flangeref06.Fields -/
abbrev k55_0 : MC :=
 .cond (.t 21) (.reg [
 vl 5 (.mv (.c (.int .u64 1)))] [1,4,5]) (.skip)
abbrev k55_1 : MC :=
 .reg [
 mv 22 4,
 mv 23 5,
 ⟨some 24,none,.build [(.int .i64 0),(.bool false),(.int .u64 0),.nilSl] [(0,1,(.c (.int .i64 2))),(2,1,(.t 23))]⟩,
 ⟨some 25,none,.bslice 4 1 [(.int .i64 0),(.bool false),(.int .u64 0),.nilSl] [(0,4,(.t 24))]⟩,
 ⟨some 26,none,.app 4 48 (.t 22) (.t 25)⟩,
 mv 4 26] [1,4]
abbrev k55_2 : MC :=
 (.seq ((.seq (.reg [
 vl 20 (.faddr 1 (.t 1)),
 vl 21 (.load false 1 (.t 20))] [1,4,5,21]) k55_0)) k55_1)
abbrev k55_3 : MC :=
 .cond (.t 49) (.reg [
 mv 51 4,
 vl 52 (.faddr 4 (.t 1)),
 vl 53 (.load false 1 (.t 52)),
 ⟨some 54,none,.s2b (.t 53)⟩,
 ⟨some 55,none,.build [(.int .i64 0),(.bool false),(.int .u64 0),.nilSl] [(0,1,(.c (.int .i64 4))),(1,1,(.c (.bool true))),(3,1,(.t 54))]⟩,
 ⟨some 56,none,.bslice 4 1 [(.int .i64 0),(.bool false),(.int .u64 0),.nilSl] [(0,4,(.t 55))]⟩,
 ⟨some 57,none,.app 4 48 (.t 51) (.t 56)⟩,
 mv 4 57] [1,4]) (.skip)
abbrev k55_4 : MC :=
 .cond (.t 36) (.drw [
 vl 39 (.faddr 2 (.t 1)),
 vl 40 (.load false 1 (.t 39)),
 ⟨some 41,none,.call 74 [(.t 40)]⟩,
 ⟨some 42,none,.build [(.int .i64 0),(.bool false),(.int .u64 0),.nilSl] [(0,1,(.c (.int .i64 2))),(2,1,(.t 41))]⟩,
 vl 43 (.faddr 3 (.t 1)),
 vl 44 (.load false 1 (.t 43)),
 ⟨some 45,none,.call 74 [(.t 44)]⟩,
 ⟨some 46,none,.build [(.int .i64 0),(.bool false),(.int .u64 0),.nilSl] [(0,1,(.c (.int .i64 3))),(2,1,(.t 45))]⟩,
 ⟨some 47,none,.bslice 4 2 [(.int .i64 0),(.bool false),(.int .u64 0),.nilSl,(.int .i64 0),(.bool false),(.int .u64 0),.nilSl] [(0,4,(.t 42)),(4,4,(.t 46))]⟩] [
 mv 38 4,
 ⟨some 48,none,.app 4 48 (.t 38) (.t 47)⟩,
 mv 4 48] [1,4]) ((.seq (.reg [
 vl 50 (.bin .eql .num (.t 17) (.c (.int .i64 5))),
 mv 49 50] [1,4,49]) k55_3))
abbrev k55_5 : MC :=
 .cond (.t 27) (.reg [
 mv 29 4,
 vl 30 (.faddr 2 (.t 1)),
 vl 31 (.load false 1 (.t 30)),
 ⟨some 32,none,.call 74 [(.t 31)]⟩,
 ⟨some 33,none,.build [(.int .i64 0),(.bool false),(.int .u64 0),.nilSl] [(0,1,(.c (.int .i64 2))),(2,1,(.t 32))]⟩,
 ⟨some 34,none,.bslice 4 1 [(.int .i64 0),(.bool false),(.int .u64 0),.nilSl] [(0,4,(.t 33))]⟩,
 ⟨some 35,none,.app 4 48 (.t 29) (.t 34)⟩,
 mv 4 35] [1,4]) ((.seq (.reg [
 vl 37 (.bin .eql .num (.t 17) (.c (.int .i64 4))),
 mv 36 37] [1,4,17,36]) k55_4))
abbrev k55_6 : MC :=
 .cond (.t 18) ((.seq (.reg [
 vl 5 (.mv (.c (.int .u64 0)))] [1,4,5]) k55_2)) ((.seq (.reg [
 vl 28 (.bin .eql .num (.t 17) (.c (.int .i64 3))),
 mv 27 28] [1,4,17,27]) k55_5))
abbrev k55_7 : MC :=
 .block 0 ((.seq (.reg [
 vl 19 (.bin .eql .num (.t 17) (.c (.int .i64 2))),
 mv 18 19] [1,4,17,18]) k55_6))
abbrev k55_8 : MC :=
 .cond (.t 67) (.skip) (.exit 1)
abbrev k55_9 : MC :=
 .reg [
 mv 68 6,
 vl 69 (.bin .add .num (.t 68) (.c (.int .i64 1))),
 mv 6 69] [1,4,6]
abbrev k55_10 : MC :=
 (.seq (.block 2 (.reg [
 mv 70 4,
 vl 71 (.faddr 6 (.t 1)),
 vl 72 (.load false 1 (.t 71)),
 mv 73 6,
 vl 74 (.iaddr 1 (.t 72) (.t 73)),
 vl 75 (.load false 1 (.t 74)),
 ⟨some 76,none,.s2b (.t 75)⟩,
 ⟨some 77,none,.build [(.int .i64 0),(.bool false),(.int .u64 0),.nilSl] [(0,1,(.c (.int .i64 6))),(1,1,(.c (.bool true))),(3,1,(.t 76))]⟩,
 ⟨some 78,none,.bslice 4 1 [(.int .i64 0),(.bool false),(.int .u64 0),.nilSl] [(0,4,(.t 77))]⟩,
 ⟨some 79,none,.app 4 48 (.t 70) (.t 78)⟩,
 mv 4 79] [1,4,6])) k55_9)
abbrev k55_11 : MC :=
 (.seq ((.seq (.reg [
 mv 58 6,
 vl 59 (.faddr 5 (.t 1)),
 vl 60 (.load false 1 (.t 59)),
 vl 61 (.len .sl (.t 60)),
 vl 62 (.bin .lss .num (.t 58) (.t 61)),
 mv 63 62,
 ⟨some 64,(some (63,true)),.val (.faddr 0 (.t 1))⟩,
 ⟨some 65,(some (63,true)),.val (.load false 1 (.t 64))⟩,
 ⟨some 66,(some (63,true)),.val (.bin .eql .num (.t 65) (.c (.int .i64 7)))⟩,
 vl 67 (.pick (.t 63) (.t 66) (.c (.bool false)))] [1,4,6,67]) k55_8)) k55_10)
abbrev k55_12 : MC :=
 .block 1 (.loop k55_11)
abbrev k55_13 : MC :=
 .cond (.t 84) (.skip) (.exit 3)
abbrev k55_14 : MC :=
 .cond (.t 97) ((.seq (.reg [
 vl 2 (.mv (.c .nilSl)),
 vl 3 (.mv (.c (.bool false)))] [2,3]) (.ret))) (.skip)
abbrev k55_15 : MC :=
 .cond (.t 100) (.reg [
 vl 10 (.mv (.c (.int .i64 7)))] [1,4,7,8,10]) (.skip)
abbrev k55_16 : MC :=
 .reg [
 mv 101 4,
 mv 102 10,
 mv 103 8,
 ⟨some 104,none,.build [(.int .i64 0),(.bool false),(.int .u64 0),.nilSl] [(0,1,(.t 102)),(1,1,(.c (.bool true))),(3,1,(.t 103))]⟩,
 ⟨some 105,none,.bslice 4 1 [(.int .i64 0),(.bool false),(.int .u64 0),.nilSl] [(0,4,(.t 104))]⟩,
 ⟨some 106,none,.app 4 48 (.t 101) (.t 105)⟩,
 mv 4 106] [1,4,7]
abbrev k55_17 : MC :=
 (.seq ((.seq (.reg [
 vl 98 (.faddr 0 (.t 1)),
 vl 99 (.load false 1 (.t 98)),
 vl 100 (.bin .eql .num (.t 99) (.c (.int .i64 7)))] [1,4,7,8,10,100]) k55_15)) k55_16)
abbrev k55_18 : MC :=
 (.seq (.reg [
 vl 10 (.mv (.c (.int .i64 5)))] [1,4,7,8,10]) k55_17)
abbrev k55_19 : MC :=
 (.seq ((.seq (.reg [
 mv 96 9,
 vl 97 (.not (.t 96))] [1,4,7,8,97]) k55_14)) k55_18)
abbrev k55_20 : MC :=
 .reg [
 mv 85 7,
 vl 86 (.bin .add .num (.t 85) (.c (.int .i64 1))),
 mv 7 86] [1,4,7]
abbrev k55_21 : MC :=
 (.seq (.block 4 ((.seq (.reg [
 vl 88 (.faddr 5 (.t 1)),
 vl 89 (.load false 1 (.t 88)),
 mv 90 7,
 vl 91 (.iaddr 7 (.t 89) (.t 90)),
 vl 92 (.load true 7 (.t 91)),
 ⟨some 93,none,.call 24 [(.t 92)]⟩,
 mv 87 93,
 vl 94 (.ext (.t 87) 0),
 vl 95 (.ext (.t 87) 1),
 mv 8 94,
 mv 9 95] [1,4,7,8,9]) k55_19))) k55_20)
abbrev k55_22 : MC :=
 (.seq ((.seq (.reg [
 mv 80 7,
 vl 81 (.faddr 5 (.t 1)),
 vl 82 (.load false 1 (.t 81)),
 vl 83 (.len .sl (.t 82)),
 vl 84 (.bin .lss .num (.t 80) (.t 83))] [1,4,7,84]) k55_13)) k55_21)
abbrev k55_23 : MC :=
 .block 3 (.loop k55_22)
abbrev k55_24 : MC :=
 (.seq (.reg [
 mv 107 4,
 mv 2 107,
 vl 3 (.mv (.c (.bool true)))] [2,3]) (.ret))
abbrev k55_25 : MC :=
 (.seq ((.seq (.reg [
 vl 7 (.mv (.c (.int .i64 0)))] [1,4,7]) k55_23)) k55_24)
abbrev k55_26 : MC :=
 (.seq ((.seq (.reg [
 vl 6 (.mv (.c (.int .i64 0)))] [1,4,6]) k55_12)) k55_25)
abbrev k55_27 : MC :=
 (.seq ((.seq (.reg [
 vl 16 (.faddr 0 (.t 1)),
 vl 17 (.load false 1 (.t 16))] [1,4,17]) k55_7)) k55_26)
abbrev k55_28 : MC :=
 (.seq (.reg [
 vl 11 (.faddr 0 (.t 1)),
 vl 12 (.load false 1 (.t 11)),
 vl 13 (.i2i .u64 (.t 12)),
 ⟨some 14,none,.build [(.int .i64 0),(.bool false),(.int .u64 0),.nilSl] [(0,1,(.c (.int .i64 1))),(2,1,(.t 13))]⟩,
 ⟨some 15,none,.bslice 4 1 [(.int .i64 0),(.bool false),(.int .u64 0),.nilSl] [(0,4,(.t 14))]⟩,
 mv 4 15] [1,4]) k55_27)
abbrev k55 : MC :=
 (.seq (.reg [
 ⟨some 1,none,.boxi (.t 0)⟩,
 vl 2 (.mv (.c .nilSl)),
 vl 3 (.mv (.c (.bool false)))] [1]) k55_28)
theorem c55 : Tryz.f55.body.bind (mcOf Tryz.prog (List.contains [1] ·) (List.getD [([],[1]),([],[1,4]),([],[1,4,17]),([],[1,4,17,18]),([],[1,4,5]),([],[1,4,5,21]),([],[1,4,5]),([],[1,4]),([],[1,4,17,27]),([],[1,4]),([],[1,4,17,36]),([2,0,0,0,0,0,0,0,0,0,2,2],[1,4]),([],[1,4,49]),([],[1,4]),([],[1,4,6]),([],[1,4,6,67]),([],[1,4,6]),([],[1,4,6]),([],[1,4,7]),([],[1,4,7,84]),([],[1,4,7]),([],[1,4,7,8,9]),([],[1,4,7,8,97]),([],[2,3]),([],[1,4,7,8,10]),([],[1,4,7,8,10,100]),([],[1,4,7,8,10]),([],[1,4,7]),([],[2,3])] · ([],[])) 108) = some k55 := by kernel_rfl
theorem r55 : rvsOf Tryz.prog Tryz.f55.results.toList = some [.tmp 2,.tmp 3] := by kernel_rfl
/- flange/flangeref06.Bytes -/
abbrev k24_0 : MC :=
 .cond (.t 19) ((.seq (.reg [
 vl 2 (.mv (.c .nilSl)),
 vl 3 (.mv (.c (.bool false)))] [2,3]) (.ret))) (.skip)
abbrev k24_1 : MC :=
 (.seq (.reg [
 mv 25 6,
 mv 26 7,
 vl 27 (.bin .eql .num (.t 26) (.c (.int .i64 0))),
 mv 2 25,
 mv 3 27] [2,3]) (.ret))
abbrev k24_2 : MC :=
 (.seq (.reg [
 mv 21 4,
 ⟨some 22,none,.call 26 [(.t 21)]⟩,
 mv 20 22,
 vl 23 (.ext (.t 20) 0),
 vl 24 (.ext (.t 20) 1),
 mv 6 23,
 mv 7 24] [6,7]) k24_1)
abbrev k24_3 : MC :=
 (.seq ((.seq (.reg [
 mv 13 5,
 vl 14 (.not (.t 13)),
 mv 15 14,
 ⟨some 16,(some (15,false)),.val (.load true 7 (.t 1))⟩,
 ⟨some 17,(some (15,false)),.call 56 [(.t 16)]⟩,
 ⟨some 18,(some (15,false)),.val (.not (.t 17))⟩,
 vl 19 (.pick (.t 15) (.c (.bool true)) (.t 18))] [4,19]) k24_0)) k24_2)
abbrev k24_4 : MC :=
 (.seq (.reg [
 vl 9 (.load true 7 (.t 1)),
 ⟨some 10,none,.call 55 [(.t 9)]⟩,
 mv 8 10,
 vl 11 (.ext (.t 8) 0),
 vl 12 (.ext (.t 8) 1),
 mv 4 11,
 mv 5 12] [1,4,5]) k24_3)
abbrev k24 : MC :=
 (.seq (.reg [
 ⟨some 1,none,.boxi (.t 0)⟩,
 vl 2 (.mv (.c .nilSl)),
 vl 3 (.mv (.c (.bool false)))] [1]) k24_4)
theorem c24 : Tryz.f24.body.bind (mcOf Tryz.prog (List.contains [1] ·) (List.getD [([],[1]),([],[1,4,5]),([],[4,19]),([],[2,3]),([],[6,7]),([],[2,3])] · ([],[])) 28) = some k24 := by kernel_rfl
theorem r24 : rvsOf Tryz.prog Tryz.f24.results.toList = some [.tmp 2,.tmp 3] := by kernel_rfl
theorem rzig_calls {n : Int} (h : -9223372036854775808 ≤ n ∧ n < 9223372036854775808) (H : AH) : ACalls Tryz.prog 74 [.int .i64 n] H (fun o H' => o = .ret (.int .u64 (zigN n)) ∧ H' = H) := by
  refine ACalls.drop ?_
  have w1 : 0 ≤ n → IntKind.u64.wrap n = n := fun h0 => u64_id h0 (by omega)
  have w2 : 0 ≤ n → IntKind.u64.wrap (2 * n) = 2 * n := fun h0 => u64_id (by omega) (by omega)
  refine acalls Tryz.func74 c74 r74 (by simp [Tryz.ntmps74]) ?_
  by_cases h0 : 0 ≤ n
  · repeat' (first|with_reducible refine go0 ?_|(with_reducible refine am_cnd ?_ ?_<;>intro hc<;>try (exfalso;omega))|((first|with_reducible (first|refine go1 ?_|refine vc_intro ?_|refine need_el ?_|refine vlen_a ?_|refine need_by ?_|refine need_lk ?_)|done)<;>(try simp -implicitDefEqProofs (disch:=omega) only [go_sem,h0,w1 h0,w2 h0])))
    all_goals refine end_eq (congrArg (V.int .u64) ?_) (AH.le_refl _)
    all_goals (rw [zigN,if_pos h0]; omega)
  · repeat' (first|with_reducible refine go0 ?_|(with_reducible refine am_cnd ?_ ?_<;>intro hc<;>try (exfalso;omega))|((first|with_reducible (first|refine go1 ?_|refine vc_intro ?_|refine need_el ?_|refine vlen_a ?_|refine need_by ?_|refine need_lk ?_)|done)<;>(try simp -implicitDefEqProofs (disch:=omega) only [go_sem,h0])))
    all_goals refine end_eq (congrArg (V.int .u64) ?_) (AH.le_refl _)
    all_goals (rw [zigN,if_neg h0,wrap_id (n + 1) (by omega) (by omega),wrap_id (0 - (n + 1)) (by omega) (by omega),u64_id (n := 0 - (n + 1)) (by omega) (by omega),u64_id (n := 2 * (0 - (n + 1))) (by omega) (by omega),u64_id (by omega) (by omega)]; omega)
def fldN (f : Fld) : List V := [.int .i64 f.tag,.bool f.by_,.int .u64 f.n,if f.by_ = true then .sl 1 (byteCells f.b) .no else .nilSl]
theorem els_fld {s : St} : ∀ {l : List Fld} {b o : Nat},(∀ f ∈ l,f.by_ = false → f.b = []) → Holds s (.els b o 4 (l.map fldN)) → Holds s (.els b o 4 (fldsE l))
  | [],_,_,_,_ => .elsNil _ _ _
  | f :: l,b,o,hb,h => by
    cases h with
    | elsCons _ _ _ _ _ h1 h2 h3 =>
      refine .elsCons _ _ _ _ _ rfl ?_ (els_fld (fun g hg => hb g (List.mem_cons_of_mem _ hg)) h3)
      have hx := hb f List.mem_cons_self
      cases hby : f.by_ with
      | true => simp only [fldN,hby,if_true] at h2; simp only [fldC,hby]; exact h2
      | false =>
        simp only [fldN,hby,if_false,Bool.false_eq_true] at h2
        simp only [fldC,hby,hx hby]
        cases h2 with
        | rowCons _ _ _ _ _ a1 a2 a3 h2 =>
        cases h2 with
        | rowCons _ _ _ _ _ b1 b2 b3 h2 =>
        cases h2 with
        | rowCons _ _ _ _ _ c1 c2 c3 h2 =>
        cases h2 with
        | rowCons _ _ _ _ _ d1 d2 d3 h2 =>
        exact .rowCons _ _ _ _ _ a1 a2 a3 (.rowCons _ _ _ _ _ b1 b2 b3 (.rowCons _ _ _ _ _ c1 c2 c3 (.rowCons _ _ _ _ _ rfl d2 (nil_no _ d3) h2)))
theorem sl_fld {s : St} {l : List Fld} (hb : ∀ f ∈ l,f.by_ = false → f.b = []) (x : Value) (h : s.val (.sl 4 (l.map fldN) .no) x) : s.val (.sl 4 (fldsE l) .no) x := by
  cases l with
  | nil => exact h
  | cons f l =>
    rcases inv_sl h with ⟨h1,_⟩ | ⟨_,_,h1,_⟩ | ⟨b,o,cap,rfl,h2,h3,h4⟩
    · cases h1
    · cases h1
    · rw [List.length_map] at h3 h4 ⊢
      exact (by simpa [fldsE] using Holds.sl (s := s) 4 (fldsE (f :: l)) .no b o cap (els_fld hb h2) (by simpa [fldsE] using h3) trivial)
def GrowP (H : AH) (es : List (List V)) (v : V) (H' : AH) : Prop := AccP H 4 es v H' ∨ (H.le H' ∧ v = .sl 4 es .tight)
theorem grow_fresh {H : AH} {es es' : List (List V)} {k n : Nat} (hk : H k = none) (e : es = es') (hn : n = es'.length) : GrowP H es (.sl 4 es' (.id k)) (H.put k (.top 4 n)) := by
  subst e hn; exact .inl (AccP.fresh (AH.le_refl _) hk)
theorem GrowP.le {H : AH} {es : List (List V)} {v : V} {H' : AH} (h : GrowP H es v H') : H.le H' := h.elim (fun h => h.le) (fun h => h.1)
theorem vapp_grow {H H' : AH} {b : Nat} {es fs : List (List V)} {v : V} {K : V → AH → Prop} (h : GrowP H es v H') (hb : (es.length + fs.length) * b ≤ 140737488355328) (hf : 1 ≤ fs.length)
    (hk : ∀ v2 H2,GrowP H (es ++ fs) v2 H2 → K v2 H2) : vapp H' 4 b fs K v := by
  rcases h with h | ⟨hl,rfl⟩
  · exact vapp_acc h hb fun v2 H2 h => hk v2 H2 (.inl h)
  · rw [vapp_tight]
    exact ⟨⟨rfl,by omega,hb⟩,fun i hi => hk _ _ (.inl (by rw [← List.length_append]; exact AccP.fresh hl hi))⟩
theorem GrowP.sub {H H' : AH} {es : List (List V)} {v : V} (h : GrowP H es v H') (s : St) (x : Value) (hx : s.val v x) : s.val (.sl 4 es .no) x := by
  rcases h with h | ⟨_,rfl⟩
  · exact h.sub s x hx
  · exact no_sub x hx
def BytesOk (m : Rv) : Prop := ∀ v,Sm v m → v.Ok → m.FitB 140737488351232 → Rg m → ∀ H : AH,ACalls Tryz.prog 24 [.agg [.int .i64 m.K,.bool m.B,.int .i64 m.N,.int .i64 m.M,.str m.S,.sl 7 (rvE m.L) .no,.sl 1 (strE m.Keys) .no]] H (fun o H' => o = .ret (.tuple [.sl 1 (byteCells (encM m).1) .no,.bool (decide ((encM m).2 = 0))]) ∧ H' = H)
abbrev FQ (H : AH) (r : V) : AExit → A → AH → Prop := Body [RV.tmp 2,RV.tmp 3] fun o H' => (∃ u,o = Out.ret u ∧ ∀ (s : St) (x : Value),s.val u x → s.val r x) ∧ H.le H'
def fR (m : Rv) (l : List Fld) : V := if badL (m.L.map encM) = true then .tuple [.sl 4 [] .no,.bool false] else .tuple [.sl 4 (fldsE (l ++ ((m.L.map encM).map Prod.fst).map fun b => ⟨if m.K = 7 then 7 else 5,true,0,b⟩)) .no,.bool true]
theorem fields_tail {m : Rv} {v : Vl} {w : V} {l : List Fld} {H G : AH} (hs : Sm v m) (ho : v.Ok) (hf : m.FitB 140737488351232) (hrg : Rg m) (hg : GrowP H (l.map fldN) w G) (hn : ∀ f ∈ l,f.by_ = false → f.b = []) (hl : (l.length + m.L.length) * 48 ≤ 140737488355328) (ih : ∀ x ∈ m.L,BytesOk x) :
    AM Tryz.prog Tryz.f55.ntmps (.loop k55_22) (BQ 3 (SQ Tryz.prog Tryz.f55.ntmps k55_24 (FQ H (fR m l)))) [(1,.rptr [.int .i64 m.K,.bool m.B,.int .i64 m.N,.int .i64 m.M,.str m.S,.sl 7 (rvE m.L) .no,.sl 1 (strE m.Keys) .no] 0),(4,w),(7,.int .i64 0)] G := by
  unfold FQ
  have hml := hf.l
  refine am_loop (fun n st G' => ∃ (i : Nat) (w' : V),i + n = m.L.length ∧ st = [(1,.rptr [.int .i64 m.K,.bool m.B,.int .i64 m.N,.int .i64 m.M,.str m.S,.sl 7 (rvE m.L) .no,.sl 1 (strE m.Keys) .no] 0),(4,w'),(7,.int .i64 i)] ∧ GrowP H ((l ++ (((m.L.take i).map encM).map Prod.fst).map fun b => (⟨if m.K = 7 then 7 else 5,true,0,b⟩ : Fld)).map fldN) w' G' ∧ badL ((m.L.take i).map encM) = false) ?_ m.L.length ⟨0,w,by omega,rfl,by simpa using hg,rfl⟩
  rintro n st G' ⟨i,w',hi,rfl,hgr,hbad⟩
  by_cases hlt : i < m.L.length
  · have hsi : ∃ y : Vl,Sm y m.L[i] ∧ y.Ok := by
      cases hs with
      | mk _ _ hK hB hS hl hk hN hP hi => exact ⟨v.items[i]'(by omega),hi i (by omega) hlt,Ok.items ho _ (List.getElem_mem _)⟩
    obtain ⟨y,hy,hyo⟩ := hsi
    have hc1 := ih _ (List.getElem_mem hlt) y hy hyo (hf.m _ (List.getElem_mem hlt)) (hrg.l _ (List.getElem_mem hlt))
    have hget := rvE_get hlt
    have e0 : (m.L.take (i + 1)).map encM = (m.L.take i).map encM ++ [encM m.L[i]] := by rw [List.take_succ_eq_append_getElem hlt,List.map_append]; rfl
    by_cases hb : (encM m.L[i]).2 = 0
    · rw [decide_eq_true hb] at hc1
      by_cases h7 : m.K = 7
      · simp only [h7,if_true] at hgr
        repeat' (first|((with_reducible refine vapp_grow hgr (by simp only [List.length_append,List.length_map,List.length_take,List.length_cons,List.length_nil];omega) (by simp only [List.length_cons,List.length_nil];omega) (fun v2 H3 hg3=>?_)))|with_reducible refine go0 ?_|(with_reducible refine am_cnd ?_ ?_<;>intro hc<;>try (exfalso;omega))|((first|with_reducible (first|refine go1 ?_|refine vc_intro ?_|refine need_el ?_|refine vlen_a ?_|refine need_by ?_|refine call_of (hc1) ?_|refine qcall_of (hc1) ?_|refine need_lk ?_)|((with_reducible refine alloc_intro (fun ko hko=>?_))<;>(try have hne:=fresh_ne (by assumption) hko)<;>(try have hnk:=fresh_ne hk hko)<;>(try simp only [AH.put_none] at hko))|((with_reducible refine vapp_go ?_ (fun v2 H2 hacc hlec=>?_));· simp only [byteCells_length,List.length_cons,List.length_nil,List.length_map,List.length_append,vE_length,fldsE_length,strE_length,strE_len,rvE_length];omega)|done)<;>(try simp -implicitDefEqProofs (disch:=omega) only [go_sem,wrap_id,hget,rvE_length,h7,Bool.not_true])))
        all_goals refine ⟨n - 1,by omega,i + 1,v2,by omega,by first | rfl | (rw [h7]; rfl),?_,by rw [e0,badL,List.any_append,← badL,hbad]; simp [hb]⟩
        rw [e0]
        simp only [h7,if_true,List.map_append,List.map_cons,List.map_nil,← List.append_assoc]
        simpa [fldN] using hg3
      · simp only [h7,if_false] at hgr
        repeat' (first|((with_reducible refine vapp_grow hgr (by simp only [List.length_append,List.length_map,List.length_take,List.length_cons,List.length_nil];omega) (by simp only [List.length_cons,List.length_nil];omega) (fun v2 H3 hg3=>?_)))|with_reducible refine go0 ?_|(with_reducible refine am_cnd ?_ ?_<;>intro hc<;>try (exfalso;omega))|((first|with_reducible (first|refine go1 ?_|refine vc_intro ?_|refine need_el ?_|refine vlen_a ?_|refine need_by ?_|refine call_of (hc1) ?_|refine qcall_of (hc1) ?_|refine need_lk ?_)|((with_reducible refine alloc_intro (fun ko hko=>?_))<;>(try have hne:=fresh_ne (by assumption) hko)<;>(try have hnk:=fresh_ne hk hko)<;>(try simp only [AH.put_none] at hko))|((with_reducible refine vapp_go ?_ (fun v2 H2 hacc hlec=>?_));· simp only [byteCells_length,List.length_cons,List.length_nil,List.length_map,List.length_append,vE_length,fldsE_length,strE_length,strE_len,rvE_length];omega)|done)<;>(try simp -implicitDefEqProofs (disch:=omega) only [go_sem,wrap_id,hget,rvE_length,h7,Bool.not_true])))
        all_goals refine ⟨n - 1,by omega,i + 1,v2,by omega,rfl,?_,by rw [e0,badL,List.any_append,← badL,hbad]; simp [hb]⟩
        rw [e0]
        simp only [h7,if_false,List.map_append,List.map_cons,List.map_nil,← List.append_assoc]
        simpa [fldN] using hg3
    · rw [decide_eq_false hb] at hc1
      have hball : badL (m.L.map encM) = true := by
        rw [badL,List.any_eq_true]; exact ⟨_,List.mem_map.2 ⟨_,List.getElem_mem hlt,rfl⟩,by simpa using hb⟩
      rw [fR,if_pos hball]
      repeat' (first|with_reducible refine go0 ?_|(with_reducible refine am_cnd ?_ ?_<;>intro hc<;>try (exfalso;omega))|((first|with_reducible (first|refine go1 ?_|refine vc_intro ?_|refine need_el ?_|refine vlen_a ?_|refine need_by ?_|refine call_of (hc1) ?_|refine qcall_of (hc1) ?_|refine need_lk ?_)|((with_reducible refine alloc_intro (fun ko hko=>?_))<;>(try have hne:=fresh_ne (by assumption) hko)<;>(try have hnk:=fresh_ne hk hko)<;>(try simp only [AH.put_none] at hko))|((with_reducible refine vapp_go ?_ (fun v2 H2 hacc hlec=>?_));· simp only [byteCells_length,List.length_cons,List.length_nil,List.length_map,List.length_append,vE_length,fldsE_length,strE_length,strE_len,rvE_length];omega)|done)<;>(try simp -implicitDefEqProofs (disch:=omega) only [go_sem,wrap_id,hget,rvE_length,Bool.not_false])))
      all_goals exact drop_end (by (first | exact fun _ _ h => h | (intro s x h; first | exact no_sub _ h | exact nil_no _ h | exact AccP.sub (by assumption) _ _ h | (refine agg_sub rfl ?_ x h; repeat (first | exact .nil | refine .cons (fun _ h => h) ?_ | refine .cons (fun _ h => nil_no _ h) ?_ | refine .cons (fun _ h => no_sub _ h) ?_ | refine .cons (fun _ h => AccP.sub (by assumption) _ _ h) ?_)) | (refine tuple_sub ?_ x h; repeat (first | exact .nil | refine .cons (fun _ h => h) ?_ | refine .cons (fun _ h => nil_no _ h) ?_ | refine .cons (fun _ h => no_sub _ h) ?_ | refine .cons (fun _ h => AccP.sub (by assumption) _ _ h) ?_ | refine .cons (fun _ h => agg_sub rfl (by repeat (first | exact .nil | refine .cons (fun _ h => h) ?_ | refine .cons (fun _ h => nil_no _ h) ?_ | refine .cons (fun _ h => no_sub _ h) ?_ | refine .cons (fun _ h => AccP.sub (by assumption) _ _ h) ?_)) _ h) ?_))))) hgr.le
  · have hti : m.L.take i = m.L := List.take_of_length_le (by omega)
    rw [hti] at hgr hbad
    have hfr : fR m l = .tuple [.sl 4 (fldsE (l ++ ((m.L.map encM).map Prod.fst).map fun b => ⟨if m.K = 7 then 7 else 5,true,0,b⟩)) .no,.bool true] := if_neg (by rw [hbad]; exact Bool.false_ne_true)
    rw [hfr]
    have hn2 : ∀ f ∈ l ++ ((m.L.map encM).map Prod.fst).map (fun b => (⟨if m.K = 7 then 7 else 5,true,0,b⟩ : Fld)),f.by_ = false → f.b = [] := fun f hf => by
      rcases List.mem_append.1 hf with hf | hf
      · exact hn f hf
      · obtain ⟨b,_,rfl⟩ := List.mem_map.1 hf
        intro h; cases h
    repeat' (first|with_reducible refine go0 ?_|(with_reducible refine am_cnd ?_ ?_<;>intro hc<;>try (exfalso;omega))|((first|with_reducible (first|refine go1 ?_|refine vc_intro ?_|refine need_el ?_|refine vlen_a ?_|refine need_by ?_|refine need_lk ?_)|((with_reducible refine alloc_intro (fun ko hko=>?_))<;>(try have hne:=fresh_ne (by assumption) hko)<;>(try have hnk:=fresh_ne hk hko)<;>(try simp only [AH.put_none] at hko))|((with_reducible refine vapp_go ?_ (fun v2 H2 hacc hlec=>?_));· simp only [byteCells_length,List.length_cons,List.length_nil,List.length_map,List.length_append,vE_length,fldsE_length,strE_length,strE_len,rvE_length];omega)|done)<;>(try simp -implicitDefEqProofs (disch:=omega) only [go_sem,wrap_id,rvE_length])))
    all_goals exact drop_end (fun s x h => tuple_sub (.cons (fun x h => sl_fld hn2 x (hgr.sub s x h)) (.cons (fun x h => h) .nil)) x h) hgr.le
theorem fields_keys {m : Rv} {v : Vl} {w : V} {l : List Fld} {H G : AH} (hs : Sm v m) (ho : v.Ok) (hf : m.FitB 140737488351232) (hrg : Rg m) (hg : GrowP H (l.map fldN) w G) (hn : ∀ f ∈ l,f.by_ = false → f.b = []) (hl : l.length ≤ 3) (h67 : m.K = 7 → l.length ≤ 1) (ih : ∀ x ∈ m.L,BytesOk x) :
    AM Tryz.prog Tryz.f55.ntmps (.loop k55_11) (BQ 1 (SQ Tryz.prog Tryz.f55.ntmps k55_25 (FQ H (fR m (l ++ if m.K = 7 then m.Keys.map fun b => ⟨6,true,0,b⟩ else []))))) [(1,.rptr [.int .i64 m.K,.bool m.B,.int .i64 m.N,.int .i64 m.M,.str m.S,.sl 7 (rvE m.L) .no,.sl 1 (strE m.Keys) .no] 0),(4,w),(6,.int .i64 0)] G := by
  have hml := hf.l
  by_cases h7 : m.K = 7
  · have hkl : m.Keys.length = m.L.length := by
      cases hs with
      | mk _ _ hK hB hS hl hk hN hP hi => rw [← hl,← hk,items_keys (by omega)]
    have h1 := h67 h7
    rw [if_pos h7]
    refine am_loop (fun n st G' => ∃ (i : Nat) (w' : V),i + n = m.L.length ∧ st = [(1,.rptr [.int .i64 m.K,.bool m.B,.int .i64 m.N,.int .i64 m.M,.str m.S,.sl 7 (rvE m.L) .no,.sl 1 (strE m.Keys) .no] 0),(4,w'),(6,.int .i64 i)] ∧ GrowP H ((l ++ (m.Keys.take i).map fun b => (⟨6,true,0,b⟩ : Fld)).map fldN) w' G') ?_ m.L.length ⟨0,w,by omega,rfl,by simpa using hg⟩
    rintro n st G' ⟨i,w',hi,rfl,hgr⟩
    by_cases hlt : i < m.L.length
    · have hlk : i < m.Keys.length := by omega
      have hget := strE_get hlk
      repeat' (first|((with_reducible refine vapp_grow hgr (by simp only [List.length_append,List.length_map,List.length_take,List.length_cons,List.length_nil];omega) (by simp only [List.length_cons,List.length_nil];omega) (fun v2 H3 hg3=>?_)))|with_reducible refine go0 ?_|(with_reducible refine am_cnd ?_ ?_<;>intro hc<;>try (exfalso;omega))|((first|with_reducible (first|refine go1 ?_|refine vc_intro ?_|refine need_el ?_|refine vlen_a ?_|refine need_by ?_|refine need_lk ?_)|((with_reducible (first|apply gd_not|apply gd_of|apply gq_not|apply gq_of|apply pickB_of))<;>intro hc<;>(try simp -implicitDefEqProofs (disch:=omega) only [go_sem,hc,wrap_id,hget,rvE_length,strE_len,h7])<;>(try simp only [reduceCtorEq,bD,beq_iff_eq] at hc)<;>(try (exfalso;omega)))|((with_reducible refine alloc_intro (fun ko hko=>?_))<;>(try have hne:=fresh_ne (by assumption) hko)<;>(try have hnk:=fresh_ne hk hko)<;>(try simp only [AH.put_none] at hko))|((with_reducible refine vapp_go ?_ (fun v2 H2 hacc hlec=>?_));· simp only [byteCells_length,List.length_cons,List.length_nil,List.length_map,List.length_append,vE_length,fldsE_length,strE_length,strE_len,rvE_length];omega)|done)<;>(try simp -implicitDefEqProofs (disch:=omega) only [go_sem,wrap_id,hget,rvE_length,strE_len,h7])))
      all_goals refine ⟨n - 1,by omega,i + 1,v2,by omega,by first | rfl | (rw [h7]; rfl),?_⟩
      rw [List.take_succ_eq_append_getElem hlk]
      simp only [List.map_append,List.map_cons,List.map_nil,← List.append_assoc]
      simpa [fldN] using hg3
    · have hti : m.Keys.take i = m.Keys := List.take_of_length_le (by omega)
      rw [hti] at hgr
      have hn2 : ∀ f ∈ l ++ m.Keys.map (fun b => (⟨6,true,0,b⟩ : Fld)),f.by_ = false → f.b = [] := fun f hf => by
        rcases List.mem_append.1 hf with hf | hf
        · exact hn f hf
        · obtain ⟨b,_,rfl⟩ := List.mem_map.1 hf
          intro h; cases h
      have tail := fields_tail hs ho hf hrg hgr hn2 (by simp only [List.length_append,List.length_map]; omega) ih
      rw [h7] at tail
      repeat' (first|with_reducible refine go0 ?_|(with_reducible refine am_cnd ?_ ?_<;>intro hc<;>try (exfalso;omega))|((first|with_reducible (first|refine go1 ?_|refine vc_intro ?_|refine need_el ?_|refine vlen_a ?_|refine need_by ?_|refine need_lk ?_)|((with_reducible (first|apply gd_not|apply gd_of|apply gq_not|apply gq_of|apply pickB_of))<;>intro hc<;>(try simp -implicitDefEqProofs (disch:=omega) only [go_sem,hc,wrap_id,rvE_length,h7])<;>(try simp only [reduceCtorEq,bD,beq_iff_eq] at hc)<;>(try (exfalso;omega)))|((with_reducible refine alloc_intro (fun ko hko=>?_))<;>(try have hne:=fresh_ne (by assumption) hko)<;>(try have hnk:=fresh_ne hk hko)<;>(try simp only [AH.put_none] at hko))|((with_reducible refine vapp_go ?_ (fun v2 H2 hacc hlec=>?_));· simp only [byteCells_length,List.length_cons,List.length_nil,List.length_map,List.length_append,vE_length,fldsE_length,strE_length,strE_len,rvE_length];omega)|done)<;>(try simp -implicitDefEqProofs (disch:=omega) only [go_sem,wrap_id,rvE_length,h7])))
      all_goals exact tail
  · rw [if_neg h7,List.append_nil]
    have tail := fields_tail hs ho hf hrg hg hn (by omega) ih
    refine am_loop (fun n st G' => n = 0 ∧ st = [(1,.rptr [.int .i64 m.K,.bool m.B,.int .i64 m.N,.int .i64 m.M,.str m.S,.sl 7 (rvE m.L) .no,.sl 1 (strE m.Keys) .no] 0),(4,w),(6,.int .i64 0)] ∧ G' = G) ?_ 0 ⟨rfl,rfl,rfl⟩
    rintro n st G' ⟨rfl,rfl,rfl⟩
    repeat' (first|with_reducible refine go0 ?_|(with_reducible refine am_cnd ?_ ?_<;>intro hc<;>try (exfalso;omega))|((first|with_reducible (first|refine go1 ?_|refine vc_intro ?_|refine need_el ?_|refine vlen_a ?_|refine need_by ?_|refine need_lk ?_)|((with_reducible (first|apply gd_not|apply gd_of|apply gq_not|apply gq_of|apply pickB_of))<;>intro hc<;>(try simp -implicitDefEqProofs (disch:=omega) only [go_sem,hc,wrap_id,rvE_length,h7])<;>(try simp only [reduceCtorEq,bD,beq_iff_eq] at hc)<;>(try (exfalso;omega)))|((with_reducible refine alloc_intro (fun ko hko=>?_))<;>(try have hne:=fresh_ne (by assumption) hko)<;>(try have hnk:=fresh_ne hk hko)<;>(try simp only [AH.put_none] at hko))|((with_reducible refine vapp_go ?_ (fun v2 H2 hacc hlec=>?_));· simp only [byteCells_length,List.length_cons,List.length_nil,List.length_map,List.length_append,vE_length,fldsE_length,strE_length,strE_len,rvE_length];omega)|done)<;>(try simp -implicitDefEqProofs (disch:=omega) only [go_sem,wrap_id,rvE_length,h7])))
    all_goals exact tail
theorem fields_calls {m : Rv} {v : Vl} (hs : Sm v m) (ho : v.Ok) (hf : m.FitB 140737488351232) (hrg : Rg m) (ih : ∀ x ∈ m.L,BytesOk x) (H : AH) :
    ACalls Tryz.prog 55 [.agg [.int .i64 m.K,.bool m.B,.int .i64 m.N,.int .i64 m.M,.str m.S,.sl 7 (rvE m.L) .no,.sl 1 (strE m.Keys) .no]] H (fun o H' => o = .ret (if badL (m.L.map encM) = true then .tuple [.sl 4 [] .no,.bool false] else .tuple [.sl 4 (fldsE (fldM m ((m.L.map encM).map Prod.fst))) .no,.bool true]) ∧ H' = H) := by
  refine ACalls.drop ?_
  have hkd : 0 ≤ m.K ∧ m.K ≤ 7 := by
    rw [← sm_of_kind hs]; cases v <;> simp [Vl.kind]
  have hL : m.K ≠ 6 → m.K ≠ 7 → m.L = [] := fun h6 h7 => by
    cases hs with
    | mk _ _ hK hB hS hl hkk hN hP hi =>
      refine List.eq_nil_of_length_eq_zero ?_
      rw [← hl]
      cases v <;> first | rfl | exact absurd hK.symm h6 | exact absurd hK.symm h7
  have hr3 : m.K = 3 → -9223372036854775808 ≤ m.N ∧ m.N < 9223372036854775808 := hrg.n
  have hr4 : m.K = 4 → (-9223372036854775808 ≤ m.N ∧ m.N < 9223372036854775808) ∧ (-9223372036854775808 ≤ m.M ∧ m.M < 9223372036854775808) := fun h4 => by
    cases hs with
    | mk _ _ hK hB hS hl hkk hN hP hi =>
      obtain ⟨e1,e2⟩ := hP h4
      cases ho with
      | pt _ _ a b c d => simp only [Vl.isP] at e1 e2; omega
      | _ => exact absurd (hK.trans h4) (by simp [Vl.kind])
  have key := fun (w : V) (l : List Fld) (G : AH) (hn : ∀ f ∈ l,f.by_ = false → f.b = []) (h1 : l.length ≤ 3) (h2 : m.K = 7 → l.length ≤ 1) (e : (l ++ if m.K = 7 then m.Keys.map fun b => (⟨6,true,0,b⟩ : Fld) else []) ++ ((m.L.map encM).map Prod.fst).map (fun b => (⟨if m.K = 7 then 7 else 5,true,0,b⟩ : Fld)) = fldM m ((m.L.map encM).map Prod.fst)) (hg : GrowP H (l.map fldN) w G) => by
    have := fields_keys (H := H) hs ho hf hrg hg hn h1 h2 ih
    rw [fR,e] at this
    exact this
  generalize hR : (if badL (m.L.map encM) = true then V.tuple [.sl 4 [] .no,.bool false] else V.tuple [.sl 4 (fldsE (fldM m ((m.L.map encM).map Prod.fst))) .no,.bool true]) = R at *
  clear hR
  refine acalls Tryz.func55 c55 r55 (by simp [Tryz.ntmps55]) ?_
  obtain hk | hk | hk | hk | hk | hk | hk | hk : m.K = 0 ∨ m.K = 1 ∨ m.K = 2 ∨ m.K = 3 ∨ m.K = 4 ∨ m.K = 5 ∨ m.K = 6 ∨ m.K = 7 := by omega
  · skip
    have hg0 : GrowP H ([kF m].map fldN) (.sl 4 [[.int .i64 1,.bool false,.int .u64 0,.nilSl]] .tight) H := .inr ⟨AH.le_refl _,by simp [kF,fldN,hk]⟩
    have key := fun w G => key w [kF m] G (by simp [kF]) (by simp) (by intro _; simp) (by simp [fldM,restF,hk,hL])
    rw [hk] at key
    repeat' (first|with_reducible refine go0 ?_|(with_reducible refine am_cnd ?_ ?_<;>intro hc<;>try (exfalso;omega))|((first|with_reducible (first|refine go1 ?_|refine vc_intro ?_|refine need_el ?_|refine vlen_a ?_|refine need_by ?_|refine need_lk ?_)|((with_reducible (first|apply gd_not|apply gd_of|apply gq_not|apply gq_of|apply pickB_of))<;>intro hc<;>(try simp -implicitDefEqProofs (disch:=omega) only [go_sem,hc,hk])<;>(try simp only [reduceCtorEq,bD,beq_iff_eq] at hc)<;>(try (exfalso;omega)))|((with_reducible refine alloc_intro (fun ko hko=>?_))<;>(try have hne:=fresh_ne (by assumption) hko)<;>(try have hnk:=fresh_ne hk hko)<;>(try simp only [AH.put_none] at hko))|((with_reducible refine vapp_go ?_ (fun v2 H2 hacc hlec=>?_));· simp only [byteCells_length,List.length_cons,List.length_nil,List.length_map,List.length_append,vE_length,fldsE_length,strE_length,strE_len,rvE_length];omega)|done)<;>(try simp -implicitDefEqProofs (disch:=omega) only [go_sem,hk])))
    all_goals exact key _ _ hg0
  · skip
    have hg0 : GrowP H ([kF m].map fldN) (.sl 4 [[.int .i64 1,.bool false,.int .u64 1,.nilSl]] .tight) H := .inr ⟨AH.le_refl _,by simp [kF,fldN,hk]⟩
    have key := fun w G => key w [kF m] G (by simp [kF]) (by simp) (by intro _; simp) (by simp [fldM,restF,hk,hL])
    rw [hk] at key
    repeat' (first|with_reducible refine go0 ?_|(with_reducible refine am_cnd ?_ ?_<;>intro hc<;>try (exfalso;omega))|((first|with_reducible (first|refine go1 ?_|refine vc_intro ?_|refine need_el ?_|refine vlen_a ?_|refine need_by ?_|refine need_lk ?_)|((with_reducible (first|apply gd_not|apply gd_of|apply gq_not|apply gq_of|apply pickB_of))<;>intro hc<;>(try simp -implicitDefEqProofs (disch:=omega) only [go_sem,hc,hk])<;>(try simp only [reduceCtorEq,bD,beq_iff_eq] at hc)<;>(try (exfalso;omega)))|((with_reducible refine alloc_intro (fun ko hko=>?_))<;>(try have hne:=fresh_ne (by assumption) hko)<;>(try have hnk:=fresh_ne hk hko)<;>(try simp only [AH.put_none] at hko))|((with_reducible refine vapp_go ?_ (fun v2 H2 hacc hlec=>?_));· simp only [byteCells_length,List.length_cons,List.length_nil,List.length_map,List.length_append,vE_length,fldsE_length,strE_length,strE_len,rvE_length];omega)|done)<;>(try simp -implicitDefEqProofs (disch:=omega) only [go_sem,hk])))
    all_goals exact key _ _ hg0
  · have hLn := hL (by omega) (by omega)
    have hg0 : GrowP H ([kF m].map fldN) (.sl 4 [[.int .i64 1,.bool false,.int .u64 2,.nilSl]] .tight) H := .inr ⟨AH.le_refl _,by simp [kF,fldN,hk]⟩
    have key := fun w G => key w [kF m,⟨2,false,m.B.toNat,[]⟩] G (by simp [kF]) (by simp) (by intro _; omega) (by simp [fldM,restF,hk,hL])
    rw [hk] at key
    cases hB : m.B
    · rw [hB] at key
      repeat' (first|((with_reducible refine vapp_grow hg0 (by simp only [List.length_append,List.length_map,List.length_cons,List.length_nil];omega) (by simp only [List.length_cons,List.length_nil];omega) (fun v2 H3 hg3=>?_)))|with_reducible refine go0 ?_|(with_reducible refine am_cnd ?_ ?_<;>intro hc<;>try (exfalso;omega))|((first|with_reducible (first|refine go1 ?_|refine vc_intro ?_|refine need_el ?_|refine vlen_a ?_|refine need_by ?_|refine need_lk ?_)|((with_reducible (first|apply gd_not|apply gd_of|apply gq_not|apply gq_of|apply pickB_of))<;>intro hc<;>(try simp -implicitDefEqProofs (disch:=omega) only [go_sem,hc,hk,hB])<;>(try simp only [reduceCtorEq,bD,beq_iff_eq] at hc)<;>(try (exfalso;omega)))|((with_reducible refine alloc_intro (fun ko hko=>?_))<;>(try have hne:=fresh_ne (by assumption) hko)<;>(try have hnk:=fresh_ne hk hko)<;>(try simp only [AH.put_none] at hko))|((with_reducible refine vapp_go ?_ (fun v2 H2 hacc hlec=>?_));· simp only [byteCells_length,List.length_cons,List.length_nil,List.length_map,List.length_append,vE_length,fldsE_length,strE_length,strE_len,rvE_length];omega)|done)<;>(try simp -implicitDefEqProofs (disch:=omega) only [go_sem,hk,hB])))
      all_goals exact key _ _ (grow_fresh hko (by simp [fldN,kF,hk,show IntKind.u64.wrap 2 = 2 from rfl,show IntKind.u64.wrap 3 = 3 from rfl,show IntKind.u64.wrap 4 = 4 from rfl,show IntKind.u64.wrap 5 = 5 from rfl]) rfl)
    · rw [hB] at key
      repeat' (first|((with_reducible refine vapp_grow hg0 (by simp only [List.length_append,List.length_map,List.length_cons,List.length_nil];omega) (by simp only [List.length_cons,List.length_nil];omega) (fun v2 H3 hg3=>?_)))|with_reducible refine go0 ?_|(with_reducible refine am_cnd ?_ ?_<;>intro hc<;>try (exfalso;omega))|((first|with_reducible (first|refine go1 ?_|refine vc_intro ?_|refine need_el ?_|refine vlen_a ?_|refine need_by ?_|refine need_lk ?_)|((with_reducible (first|apply gd_not|apply gd_of|apply gq_not|apply gq_of|apply pickB_of))<;>intro hc<;>(try simp -implicitDefEqProofs (disch:=omega) only [go_sem,hc,hk,hB])<;>(try simp only [reduceCtorEq,bD,beq_iff_eq] at hc)<;>(try (exfalso;omega)))|((with_reducible refine alloc_intro (fun ko hko=>?_))<;>(try have hne:=fresh_ne (by assumption) hko)<;>(try have hnk:=fresh_ne hk hko)<;>(try simp only [AH.put_none] at hko))|((with_reducible refine vapp_go ?_ (fun v2 H2 hacc hlec=>?_));· simp only [byteCells_length,List.length_cons,List.length_nil,List.length_map,List.length_append,vE_length,fldsE_length,strE_length,strE_len,rvE_length];omega)|done)<;>(try simp -implicitDefEqProofs (disch:=omega) only [go_sem,hk,hB])))
      all_goals exact key _ _ (grow_fresh hko (by simp [fldN,kF,hk,show IntKind.u64.wrap 2 = 2 from rfl,show IntKind.u64.wrap 3 = 3 from rfl,show IntKind.u64.wrap 4 = 4 from rfl,show IntKind.u64.wrap 5 = 5 from rfl]) rfl)
  · skip
    have hg0 : GrowP H ([kF m].map fldN) (.sl 4 [[.int .i64 1,.bool false,.int .u64 3,.nilSl]] .tight) H := .inr ⟨AH.le_refl _,by simp [kF,fldN,hk]⟩
    have key := fun w G => key w [kF m,⟨2,false,zigN m.N,[]⟩] G (by simp [kF]) (by simp) (by intro _; omega) (by simp [fldM,restF,hk,hL])
    rw [hk] at key
    repeat' (first|((with_reducible refine vapp_grow hg0 (by simp only [List.length_append,List.length_map,List.length_cons,List.length_nil];omega) (by simp only [List.length_cons,List.length_nil];omega) (fun v2 H3 hg3=>?_)))|with_reducible refine go0 ?_|(with_reducible refine am_cnd ?_ ?_<;>intro hc<;>try (exfalso;omega))|((first|with_reducible (first|refine go1 ?_|refine vc_intro ?_|refine need_el ?_|refine vlen_a ?_|refine need_by ?_|refine call_of (rzig_calls (hr3 hk)) ?_|refine qcall_of (rzig_calls (hr3 hk)) ?_|refine need_lk ?_)|((with_reducible (first|apply gd_not|apply gd_of|apply gq_not|apply gq_of|apply pickB_of))<;>intro hc<;>(try simp -implicitDefEqProofs (disch:=omega) only [go_sem,hc,hk])<;>(try simp only [reduceCtorEq,bD,beq_iff_eq] at hc)<;>(try (exfalso;omega)))|((with_reducible refine alloc_intro (fun ko hko=>?_))<;>(try have hne:=fresh_ne (by assumption) hko)<;>(try have hnk:=fresh_ne hk hko)<;>(try simp only [AH.put_none] at hko))|((with_reducible refine vapp_go ?_ (fun v2 H2 hacc hlec=>?_));· simp only [byteCells_length,List.length_cons,List.length_nil,List.length_map,List.length_append,vE_length,fldsE_length,strE_length,strE_len,rvE_length];omega)|done)<;>(try simp -implicitDefEqProofs (disch:=omega) only [go_sem,hk])))
    all_goals exact key _ _ (grow_fresh hko (by simp [fldN,kF,hk,show IntKind.u64.wrap 2 = 2 from rfl,show IntKind.u64.wrap 3 = 3 from rfl,show IntKind.u64.wrap 4 = 4 from rfl,show IntKind.u64.wrap 5 = 5 from rfl]) rfl)
  · skip
    have hg0 : GrowP H ([kF m].map fldN) (.sl 4 [[.int .i64 1,.bool false,.int .u64 4,.nilSl]] .tight) H := .inr ⟨AH.le_refl _,by simp [kF,fldN,hk]⟩
    have key := fun w G => key w [kF m,⟨2,false,zigN m.N,[]⟩,⟨3,false,zigN m.M,[]⟩] G (by simp [kF]) (by simp) (by intro _; omega) (by simp [fldM,restF,hk,hL])
    rw [hk] at key
    repeat' (first|((with_reducible refine vapp_grow hg0 (by simp only [List.length_append,List.length_map,List.length_cons,List.length_nil];omega) (by simp only [List.length_cons,List.length_nil];omega) (fun v2 H3 hg3=>?_)))|with_reducible refine go0 ?_|(with_reducible refine am_cnd ?_ ?_<;>intro hc<;>try (exfalso;omega))|((first|with_reducible (first|refine go1 ?_|refine vc_intro ?_|refine need_el ?_|refine vlen_a ?_|refine need_by ?_|refine call_of (rzig_calls (hr4 hk).1) ?_|refine qcall_of (rzig_calls (hr4 hk).1) ?_|refine call_of (rzig_calls (hr4 hk).2) ?_|refine qcall_of (rzig_calls (hr4 hk).2) ?_|refine need_lk ?_)|((with_reducible (first|apply gd_not|apply gd_of|apply gq_not|apply gq_of|apply pickB_of))<;>intro hc<;>(try simp -implicitDefEqProofs (disch:=omega) only [go_sem,hc,hk])<;>(try simp only [reduceCtorEq,bD,beq_iff_eq] at hc)<;>(try (exfalso;omega)))|((with_reducible refine alloc_intro (fun ko hko=>?_))<;>(try have hne:=fresh_ne (by assumption) hko)<;>(try have hnk:=fresh_ne hk hko)<;>(try simp only [AH.put_none] at hko))|((with_reducible refine vapp_go ?_ (fun v2 H2 hacc hlec=>?_));· simp only [byteCells_length,List.length_cons,List.length_nil,List.length_map,List.length_append,vE_length,fldsE_length,strE_length,strE_len,rvE_length];omega)|done)<;>(try simp -implicitDefEqProofs (disch:=omega) only [go_sem,hk])))
    all_goals exact key _ _ (grow_fresh hko (by simp [fldN,kF,hk,show IntKind.u64.wrap 2 = 2 from rfl,show IntKind.u64.wrap 3 = 3 from rfl,show IntKind.u64.wrap 4 = 4 from rfl,show IntKind.u64.wrap 5 = 5 from rfl]) rfl)
  · skip
    have hg0 : GrowP H ([kF m].map fldN) (.sl 4 [[.int .i64 1,.bool false,.int .u64 5,.nilSl]] .tight) H := .inr ⟨AH.le_refl _,by simp [kF,fldN,hk]⟩
    have key := fun w G => key w [kF m,⟨4,true,0,m.S⟩] G (by simp [kF]) (by simp) (by intro _; omega) (by simp [fldM,restF,hk,hL])
    rw [hk] at key
    repeat' (first|((with_reducible refine vapp_grow hg0 (by simp only [List.length_append,List.length_map,List.length_cons,List.length_nil];omega) (by simp only [List.length_cons,List.length_nil];omega) (fun v2 H3 hg3=>?_)))|with_reducible refine go0 ?_|(with_reducible refine am_cnd ?_ ?_<;>intro hc<;>try (exfalso;omega))|((first|with_reducible (first|refine go1 ?_|refine vc_intro ?_|refine need_el ?_|refine vlen_a ?_|refine need_by ?_|refine need_lk ?_)|((with_reducible (first|apply gd_not|apply gd_of|apply gq_not|apply gq_of|apply pickB_of))<;>intro hc<;>(try simp -implicitDefEqProofs (disch:=omega) only [go_sem,hc,hk])<;>(try simp only [reduceCtorEq,bD,beq_iff_eq] at hc)<;>(try (exfalso;omega)))|((with_reducible refine alloc_intro (fun ko hko=>?_))<;>(try have hne:=fresh_ne (by assumption) hko)<;>(try have hnk:=fresh_ne hk hko)<;>(try simp only [AH.put_none] at hko))|((with_reducible refine vapp_go ?_ (fun v2 H2 hacc hlec=>?_));· simp only [byteCells_length,List.length_cons,List.length_nil,List.length_map,List.length_append,vE_length,fldsE_length,strE_length,strE_len,rvE_length];omega)|done)<;>(try simp -implicitDefEqProofs (disch:=omega) only [go_sem,hk])))
    all_goals exact key _ _ (grow_fresh hko (by simp [fldN,kF,hk,show IntKind.u64.wrap 2 = 2 from rfl,show IntKind.u64.wrap 3 = 3 from rfl,show IntKind.u64.wrap 4 = 4 from rfl,show IntKind.u64.wrap 5 = 5 from rfl]) rfl)
  · skip
    have hg0 : GrowP H ([kF m].map fldN) (.sl 4 [[.int .i64 1,.bool false,.int .u64 6,.nilSl]] .tight) H := .inr ⟨AH.le_refl _,by simp [kF,fldN,hk]⟩
    have key := fun w G => key w [kF m] G (by simp [kF]) (by simp) (by intro _; simp) (by simp [fldM,restF,hk])
    rw [hk] at key
    repeat' (first|with_reducible refine go0 ?_|(with_reducible refine am_cnd ?_ ?_<;>intro hc<;>try (exfalso;omega))|((first|with_reducible (first|refine go1 ?_|refine vc_intro ?_|refine need_el ?_|refine vlen_a ?_|refine need_by ?_|refine need_lk ?_)|((with_reducible (first|apply gd_not|apply gd_of|apply gq_not|apply gq_of|apply pickB_of))<;>intro hc<;>(try simp -implicitDefEqProofs (disch:=omega) only [go_sem,hc,hk])<;>(try simp only [reduceCtorEq,bD,beq_iff_eq] at hc)<;>(try (exfalso;omega)))|((with_reducible refine alloc_intro (fun ko hko=>?_))<;>(try have hne:=fresh_ne (by assumption) hko)<;>(try have hnk:=fresh_ne hk hko)<;>(try simp only [AH.put_none] at hko))|((with_reducible refine vapp_go ?_ (fun v2 H2 hacc hlec=>?_));· simp only [byteCells_length,List.length_cons,List.length_nil,List.length_map,List.length_append,vE_length,fldsE_length,strE_length,strE_len,rvE_length];omega)|done)<;>(try simp -implicitDefEqProofs (disch:=omega) only [go_sem,hk])))
    all_goals exact key _ _ hg0
  · skip
    have hg0 : GrowP H ([kF m].map fldN) (.sl 4 [[.int .i64 1,.bool false,.int .u64 7,.nilSl]] .tight) H := .inr ⟨AH.le_refl _,by simp [kF,fldN,hk]⟩
    have key := fun w G => key w [kF m] G (by simp [kF]) (by simp) (by intro _; simp) (by simp [fldM,restF,hk])
    rw [hk] at key
    repeat' (first|with_reducible refine go0 ?_|(with_reducible refine am_cnd ?_ ?_<;>intro hc<;>try (exfalso;omega))|((first|with_reducible (first|refine go1 ?_|refine vc_intro ?_|refine need_el ?_|refine vlen_a ?_|refine need_by ?_|refine need_lk ?_)|((with_reducible (first|apply gd_not|apply gd_of|apply gq_not|apply gq_of|apply pickB_of))<;>intro hc<;>(try simp -implicitDefEqProofs (disch:=omega) only [go_sem,hc,hk])<;>(try simp only [reduceCtorEq,bD,beq_iff_eq] at hc)<;>(try (exfalso;omega)))|((with_reducible refine alloc_intro (fun ko hko=>?_))<;>(try have hne:=fresh_ne (by assumption) hko)<;>(try have hnk:=fresh_ne hk hko)<;>(try simp only [AH.put_none] at hko))|((with_reducible refine vapp_go ?_ (fun v2 H2 hacc hlec=>?_));· simp only [byteCells_length,List.length_cons,List.length_nil,List.length_map,List.length_append,vE_length,fldsE_length,strE_length,strE_len,rvE_length];omega)|done)<;>(try simp -implicitDefEqProofs (disch:=omega) only [go_sem,hk])))
    all_goals exact key _ _ hg0
theorem encS_bad (l : List Fld) (h : (Vm.encS l).2 ≠ 0) : (Vm.encS l).1 = [] := by
  unfold Vm.encS at *
  split
  · rfl
  · split
    · rfl
    · split
      · rfl
      · rename_i a b c; rw [if_neg a,if_neg b,if_neg c] at h; exact absurd rfl h
theorem rb6_calls : ∀ m : Rv,BytesOk m := by
  refine Rv.ind fun m ih v hs ho hf hrg H => ?_
  refine ACalls.drop ?_
  have hf2 : m.Fit := hf.mono (by decide)
  have fc := fields_calls hs ho hf hrg ih
  have rc := rright_calls hs hf2
  rw [encM_eq]
  refine acalls Tryz.func24 c24 r24 (by simp [Tryz.ntmps24]) ?_
  cases hb : badL (m.L.map encM) with
  | true =>
    simp only [hb,if_true] at fc
    simp only [true_or,or_true,if_true]
    repeat' (first|with_reducible refine go0 ?_|(with_reducible refine am_cnd ?_ ?_<;>intro hc<;>try (exfalso;omega))|((first|with_reducible (first|refine go1 ?_|refine vc_intro ?_|refine need_el ?_|refine vlen_a ?_|refine need_by ?_|refine call_of (fc) ?_|refine qcall_of (fc) ?_|refine call_of (rc) ?_|refine qcall_of (rc) ?_|refine need_lk ?_)|((with_reducible (first|apply gd_not|apply gd_of|apply gq_not|apply gq_of|apply pickB_of))<;>intro hc<;>(try simp -implicitDefEqProofs (disch:=omega) only [go_sem,hc,Bool.not_false])<;>(try simp only [reduceCtorEq,bD,beq_iff_eq] at hc)<;>(try (exfalso;omega)))|((with_reducible refine alloc_intro (fun ko hko=>?_))<;>(try have hne:=fresh_ne (by assumption) hko)<;>(try simp only [AH.put_none] at hko))|done)<;>(try simp -implicitDefEqProofs (disch:=omega) only [go_sem,Bool.not_false])))
    all_goals exact drop_end (by (first | exact fun _ _ h => h | (intro s x h; first | exact no_sub _ h | exact nil_no _ h | exact AccP.sub (by assumption) _ _ h | (refine agg_sub rfl ?_ x h; repeat (first | exact .nil | refine .cons (fun _ h => h) ?_ | refine .cons (fun _ h => nil_no _ h) ?_ | refine .cons (fun _ h => no_sub _ h) ?_ | refine .cons (fun _ h => AccP.sub (by assumption) _ _ h) ?_)) | (refine tuple_sub ?_ x h; repeat (first | exact .nil | refine .cons (fun _ h => h) ?_ | refine .cons (fun _ h => nil_no _ h) ?_ | refine .cons (fun _ h => no_sub _ h) ?_ | refine .cons (fun _ h => AccP.sub (by assumption) _ _ h) ?_ | refine .cons (fun _ h => agg_sub rfl (by repeat (first | exact .nil | refine .cons (fun _ h => h) ?_ | refine .cons (fun _ h => nil_no _ h) ?_ | refine .cons (fun _ h => no_sub _ h) ?_ | refine .cons (fun _ h => AccP.sub (by assumption) _ _ h) ?_)) _ h) ?_))))) (AH.le_refl _)
  | false =>
    simp only [hb,if_false,Bool.false_eq_true] at fc
    cases hr : rightM m with
    | false =>
      rw [hr] at rc
      simp only [true_or,if_true]
      repeat' (first|with_reducible refine go0 ?_|(with_reducible refine am_cnd ?_ ?_<;>intro hc<;>try (exfalso;omega))|((first|with_reducible (first|refine go1 ?_|refine vc_intro ?_|refine need_el ?_|refine vlen_a ?_|refine need_by ?_|refine call_of (fc) ?_|refine qcall_of (fc) ?_|refine call_of (rc) ?_|refine qcall_of (rc) ?_|refine need_lk ?_)|((with_reducible (first|apply gd_not|apply gd_of|apply gq_not|apply gq_of|apply pickB_of))<;>intro hc<;>(try simp -implicitDefEqProofs (disch:=omega) only [go_sem,hc,Bool.not_true,Bool.not_false])<;>(try simp only [reduceCtorEq,bD,beq_iff_eq] at hc)<;>(try (exfalso;omega)))|((with_reducible refine alloc_intro (fun ko hko=>?_))<;>(try have hne:=fresh_ne (by assumption) hko)<;>(try simp only [AH.put_none] at hko))|done)<;>(try simp -implicitDefEqProofs (disch:=omega) only [go_sem,Bool.not_true,Bool.not_false])))
      all_goals exact drop_end (by (first | exact fun _ _ h => h | (intro s x h; first | exact no_sub _ h | exact nil_no _ h | exact AccP.sub (by assumption) _ _ h | (refine agg_sub rfl ?_ x h; repeat (first | exact .nil | refine .cons (fun _ h => h) ?_ | refine .cons (fun _ h => nil_no _ h) ?_ | refine .cons (fun _ h => no_sub _ h) ?_ | refine .cons (fun _ h => AccP.sub (by assumption) _ _ h) ?_)) | (refine tuple_sub ?_ x h; repeat (first | exact .nil | refine .cons (fun _ h => h) ?_ | refine .cons (fun _ h => nil_no _ h) ?_ | refine .cons (fun _ h => no_sub _ h) ?_ | refine .cons (fun _ h => AccP.sub (by assumption) _ _ h) ?_ | refine .cons (fun _ h => agg_sub rfl (by repeat (first | exact .nil | refine .cons (fun _ h => h) ?_ | refine .cons (fun _ h => nil_no _ h) ?_ | refine .cons (fun _ h => no_sub _ h) ?_ | refine .cons (fun _ h => AccP.sub (by assumption) _ _ h) ?_)) _ h) ?_))))) (AH.le_refl _)
    | true =>
      rw [hr] at rc
      obtain ⟨hfo,hfl⟩ := fldM_ok hs ho hrg (by simp only [rightM,Bool.and_eq_true] at hr; have := hr.2; rw [allM_eq,Bool.and_eq_true] at this; exact this.1)
      have ec := Msg.rencode_calls (l := fldM m ((m.L.map encM).map Prod.fst)) (t := .no) (by omega) (fun f hf => ⟨(hfo f hf).1,by have := (hfo f hf).2; omega⟩)
      have hz := encS_bad (fldM m ((m.L.map encM).map Prod.fst))
      generalize Vm.encS (fldM m ((m.L.map encM).map Prod.fst)) = z at *
      by_cases h0 : z.2 = 0
      · try simp only [h0,not_true,Bool.true_eq_false,Bool.false_eq_true,or_self,if_false,decide_true]
        repeat' (first|with_reducible refine go0 ?_|(with_reducible refine am_cnd ?_ ?_<;>intro hc<;>try (exfalso;omega))|((first|with_reducible (first|refine go1 ?_|refine vc_intro ?_|refine need_el ?_|refine vlen_a ?_|refine need_by ?_|refine call_of (fc) ?_|refine qcall_of (fc) ?_|refine call_of (rc) ?_|refine qcall_of (rc) ?_|refine call_of (ec) ?_|refine qcall_of (ec) ?_|refine need_lk ?_)|((with_reducible (first|apply gd_not|apply gd_of|apply gq_not|apply gq_of|apply pickB_of))<;>intro hc<;>(try simp -implicitDefEqProofs (disch:=omega) only [go_sem,hc,Bool.not_true,Bool.not_false,h0,decide_true])<;>(try simp only [reduceCtorEq,bD,beq_iff_eq] at hc)<;>(try (exfalso;omega)))|((with_reducible refine alloc_intro (fun ko hko=>?_))<;>(try have hne:=fresh_ne (by assumption) hko)<;>(try simp only [AH.put_none] at hko))|done)<;>(try simp -implicitDefEqProofs (disch:=omega) only [go_sem,Bool.not_true,Bool.not_false,h0,decide_true])))
        all_goals (refine drop_end (by (first | exact fun _ _ h => h | (intro s x h; first | exact no_sub _ h | exact nil_no _ h | exact AccP.sub (by assumption) _ _ h | (refine agg_sub rfl ?_ x h; repeat (first | exact .nil | refine .cons (fun _ h => h) ?_ | refine .cons (fun _ h => nil_no _ h) ?_ | refine .cons (fun _ h => no_sub _ h) ?_ | refine .cons (fun _ h => AccP.sub (by assumption) _ _ h) ?_)) | (refine tuple_sub ?_ x h; repeat (first | exact .nil | refine .cons (fun _ h => h) ?_ | refine .cons (fun _ h => nil_no _ h) ?_ | refine .cons (fun _ h => no_sub _ h) ?_ | refine .cons (fun _ h => AccP.sub (by assumption) _ _ h) ?_ | refine .cons (fun _ h => agg_sub rfl (by repeat (first | exact .nil | refine .cons (fun _ h => h) ?_ | refine .cons (fun _ h => nil_no _ h) ?_ | refine .cons (fun _ h => no_sub _ h) ?_ | refine .cons (fun _ h => AccP.sub (by assumption) _ _ h) ?_)) _ h) ?_))))) (by (repeat (first | exact AH.le_refl _ | assumption | exact AccP.le (by assumption) | refine AH.le_put ?_ (by first | assumption | exact none_of_le (by assumption) (by assumption) | exact And.right (by assumption) | exact And.right (And.right (by assumption))) _ | refine AH.le_trans ?_ (AccP.le (by assumption))))))
      · have hz := hz h0
        try simp only [h0,not_false_eq_true,or_true,if_true]
        repeat' (first|with_reducible refine go0 ?_|(with_reducible refine am_cnd ?_ ?_<;>intro hc<;>try (exfalso;omega))|((first|with_reducible (first|refine go1 ?_|refine vc_intro ?_|refine need_el ?_|refine vlen_a ?_|refine need_by ?_|refine call_of (fc) ?_|refine qcall_of (fc) ?_|refine call_of (rc) ?_|refine qcall_of (rc) ?_|refine call_of (ec) ?_|refine qcall_of (ec) ?_|refine need_lk ?_)|((with_reducible (first|apply gd_not|apply gd_of|apply gq_not|apply gq_of|apply pickB_of))<;>intro hc<;>(try simp -implicitDefEqProofs (disch:=omega) only [go_sem,hc,Bool.not_true,Bool.not_false,h0,hz])<;>(try simp only [reduceCtorEq,bD,beq_iff_eq] at hc)<;>(try (exfalso;omega)))|((with_reducible refine alloc_intro (fun ko hko=>?_))<;>(try have hne:=fresh_ne (by assumption) hko)<;>(try simp only [AH.put_none] at hko))|done)<;>(try simp -implicitDefEqProofs (disch:=omega) only [go_sem,Bool.not_true,Bool.not_false,h0,hz])))
        all_goals (refine drop_end (by (first | exact fun _ _ h => h | (intro s x h; first | exact no_sub _ h | exact nil_no _ h | exact AccP.sub (by assumption) _ _ h | (refine agg_sub rfl ?_ x h; repeat (first | exact .nil | refine .cons (fun _ h => h) ?_ | refine .cons (fun _ h => nil_no _ h) ?_ | refine .cons (fun _ h => no_sub _ h) ?_ | refine .cons (fun _ h => AccP.sub (by assumption) _ _ h) ?_)) | (refine tuple_sub ?_ x h; repeat (first | exact .nil | refine .cons (fun _ h => h) ?_ | refine .cons (fun _ h => nil_no _ h) ?_ | refine .cons (fun _ h => no_sub _ h) ?_ | refine .cons (fun _ h => AccP.sub (by assumption) _ _ h) ?_ | refine .cons (fun _ h => agg_sub rfl (by repeat (first | exact .nil | refine .cons (fun _ h => h) ?_ | refine .cons (fun _ h => nil_no _ h) ?_ | refine .cons (fun _ h => no_sub _ h) ?_ | refine .cons (fun _ h => AccP.sub (by assumption) _ _ h) ?_)) _ h) ?_))))) (by (repeat (first | exact AH.le_refl _ | assumption | exact AccP.le (by assumption) | refine AH.le_put ?_ (by first | assumption | exact none_of_le (by assumption) (by assumption) | exact And.right (by assumption) | exact And.right (And.right (by assumption))) _ | refine AH.le_trans ?_ (AccP.le (by assumption))))))
end Go.Proofs.YtkldmgnhbomknaaGreat
