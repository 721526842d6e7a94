/- Of the walks of this seat: contracts of functions of the given program, proved over the abstract values of the texts Vm. Conditions: as each theorem says. -/
import Derived.Test.YtjlphncecdlmcaaNG
import Derived.Test.YtjlphncecdlmcaaVm36
set_option linter.unusedVariables false
set_option linter.unusedSimpArgs false
namespace Go.Proofs.Ytjlphncecdlmcaa
open Go.Vm
attribute [local go_sem] eq_self decide_true decide_false AH.put_ne
attribute [local go_sem_proc] Nat.reduceBEq Nat.reduceAdd Nat.reduceSub Nat.reduceMul Nat.reduceEqDiff Nat.reduceLeDiff Nat.reduceLT Int.reduceLE Int.reduceLT Int.reduceToNat Int.reduceAdd Int.reduceEq Int.reduceNeg
attribute [local go_sem] byteCells_get byteCells_length byteCells_take byteCells_drop bytes_cells fldC fldsE_get fldsE_length List.drop_zero bytesOf_cells toNat_succ Nat.sub_zero Int.toNat_natCast Option.map_some Int.natCast_nonneg decide_eq_true_eq decide_eq_false_iff_not
/- flange/flangeref02.Decode -/
abbrev k33_0 : MC :=
 .cond (.t 18) ((.seq (.reg [
 ⟨some 2, none, .val (.mv (.c .nilSl))⟩,
 ⟨some 3, none, .val (.mv (.c (.int .i64 0)))⟩,
 ⟨some 4, none, .val (.mv (.c (.int .i64 3)))⟩] [2, 3, 4]) (.ret))) (.skip)
abbrev k33_1 : MC :=
 .cond (.t 23) (.skip) (.exit 0)
abbrev k33_2 : MC :=
 .cond (.t 33) ((.seq (.reg [
 ⟨some 34, none, .val (.mv (.t 7))⟩,
 ⟨some 35, none, .val (.mv (.t 10))⟩,
 ⟨some 2, none, .val (.mv (.c .nilSl))⟩,
 ⟨some 3, none, .val (.mv (.t 34))⟩,
 ⟨some 4, none, .val (.mv (.t 35))⟩] [2, 3, 4]) (.ret))) (.skip)
abbrev k33_3 : MC :=
 .cond (.t 47) ((.seq (.reg [
 ⟨some 48, none, .val (.mv (.t 7))⟩,
 ⟨some 49, none, .val (.mv (.t 13))⟩,
 ⟨some 2, none, .val (.mv (.c .nilSl))⟩,
 ⟨some 3, none, .val (.mv (.t 48))⟩,
 ⟨some 4, none, .val (.mv (.t 49))⟩] [2, 3, 4]) (.ret))) (.skip)
abbrev k33_4 : MC :=
 .cond (.t 66) ((.seq (.reg [
 ⟨some 67, none, .val (.mv (.t 7))⟩,
 ⟨some 2, none, .val (.mv (.c .nilSl))⟩,
 ⟨some 3, none, .val (.mv (.t 67))⟩,
 ⟨some 4, none, .val (.mv (.c (.int .i64 5)))⟩] [2, 3, 4]) (.ret))) (.skip)
abbrev k33_5 : MC :=
 .cond (.t 74) (.reg [
 ⟨some 75, none, .val (.mv (.t 8))⟩,
 ⟨some 76, none, .val (.bin .quo .num (.t 75) (.c (.int .u64 2)))⟩,
 ⟨some 77, none, .val (.i2i .i64 (.t 76))⟩,
 ⟨some 78, none, .val (.faddr 0 (.t 15))⟩,
 ⟨none, none, .store 1 (.t 78) (.t 77)⟩] [0, 5, 6, 7, 11, 14, 15]) (.skip)
abbrev k33_6 : MC :=
 .reg [
 ⟨some 90, none, .val (.mv (.t 14))⟩,
 ⟨some 91, none, .val (.mv (.t 11))⟩,
 ⟨some 92, none, .val (.i2i .i64 (.t 91))⟩,
 ⟨some 93, none, .val (.bin .add .num (.t 90) (.t 92))⟩,
 ⟨some 14, none, .val (.mv (.t 93))⟩] [0, 5, 6, 7, 14, 15]
abbrev k33_7 : MC :=
 (.seq (.reg [
 ⟨some 82, none, .val (.mv (.t 0))⟩,
 ⟨some 83, none, .val (.mv (.t 14))⟩,
 ⟨some 84, none, .val (.mv (.t 14))⟩,
 ⟨some 85, none, .val (.mv (.t 11))⟩,
 ⟨some 86, none, .val (.i2i .i64 (.t 85))⟩,
 ⟨some 87, none, .val (.bin .add .num (.t 84) (.t 86))⟩,
 ⟨some 88, none, .val (.slc (some 1) (.t 82) (some (.t 83)) (some (.t 87)) none)⟩,
 ⟨some 89, none, .val (.faddr 3 (.t 15))⟩,
 ⟨none, none, .store 1 (.t 89) (.t 88)⟩] [0, 5, 6, 7, 11, 14, 15]) k33_6)
abbrev k33_8 : MC :=
 .cond (.t 80) ((.seq (.reg [
 ⟨some 81, none, .val (.faddr 2 (.t 15))⟩,
 ⟨none, none, .store 1 (.t 81) (.c (.int .u64 0))⟩] [0, 5, 6, 7, 11, 14, 15]) k33_7)) (.skip)
abbrev k33_9 : MC :=
 .cond (.t 97) ((.seq (.reg [
 ⟨some 98, none, .val (.mv (.t 7))⟩,
 ⟨some 2, none, .val (.mv (.c .nilSl))⟩,
 ⟨some 3, none, .val (.mv (.t 98))⟩,
 ⟨some 4, none, .val (.mv (.c (.int .i64 1)))⟩] [2, 3, 4]) (.ret))) (.skip)
abbrev k33_10 : MC :=
 .cond (.t 101) ((.seq (.reg [
 ⟨some 102, none, .val (.mv (.t 7))⟩,
 ⟨some 2, none, .val (.mv (.c .nilSl))⟩,
 ⟨some 3, none, .val (.mv (.t 102))⟩,
 ⟨some 4, none, .val (.mv (.c (.int .i64 3)))⟩] [2, 3, 4]) (.ret))) (.skip)
abbrev k33_11 : MC :=
 .reg [
 ⟨some 108, none, .val (.mv (.t 14))⟩,
 ⟨some 7, none, .val (.mv (.t 108))⟩] [0, 5, 6, 7]
abbrev k33_12 : MC :=
 (.seq (.reg [
 ⟨some 107, none, .val (.load true 4 (.t 15))⟩,
 ⟨none, none, .store 4 (.t 6) (.t 107)⟩] [0, 5, 6, 14]) k33_11)
abbrev k33_13 : MC :=
 (.seq (.reg [
 ⟨some 103, none, .val (.mv (.t 5))⟩,
 ⟨some 104, none, .val (.load true 4 (.t 15))⟩,
 ⟨some 105, none, .bslice 4 1 [(.int .i64 0), (.bool false), (.int .u64 0), .nilSl] [(0, 4, (.t 104))]⟩,
 ⟨some 106, none, .app 4 48 (.t 103) (.t 105)⟩,
 ⟨some 5, none, .val (.mv (.t 106))⟩] [0, 5, 6, 14, 15]) k33_12)
abbrev k33_14 : MC :=
 (.seq ((.seq (.reg [
 ⟨some 99, none, .val (.mv (.t 5))⟩,
 ⟨some 100, none, .val (.len .sl (.t 99))⟩,
 ⟨some 101, none, .val (.bin .eql .num (.t 100) (.c (.int .i64 64)))⟩] [0, 5, 6, 7, 14, 15, 101]) k33_10)) k33_13)
abbrev k33_15 : MC :=
 (.seq ((.seq (.reg [
 ⟨some 94, none, .val (.load true 4 (.t 15))⟩,
 ⟨some 95, none, .val (.load true 4 (.t 6))⟩,
 ⟨some 96, none, .call 90 [(.t 94), (.t 95)]⟩,
 ⟨some 97, none, .val (.not (.t 96))⟩] [0, 5, 6, 7, 14, 15, 97]) k33_9)) k33_14)
abbrev k33_16 : MC :=
 (.seq ((.seq (.reg [
 ⟨some 79, none, .val (.faddr 1 (.t 15))⟩,
 ⟨some 80, none, .val (.load false 1 (.t 79))⟩] [0, 5, 6, 7, 11, 14, 15, 80]) k33_8)) k33_15)
abbrev k33_17 : MC :=
 (.seq ((.seq (.reg [
 ⟨some 73, none, .val (.mv (.t 8))⟩,
 ⟨some 74, none, .val (.bin .lss .num (.t 73) (.c (.int .u64 2002)))⟩] [0, 5, 6, 7, 8, 11, 14, 15, 74]) k33_5)) k33_16)
abbrev k33_18 : MC :=
 (.seq (.reg [
 ⟨some 68, none, .val (.mv (.t 8))⟩,
 ⟨some 69, none, .val (.bin .rem .num (.t 68) (.c (.int .u64 2)))⟩,
 ⟨some 70, none, .val (.bin .eql .num (.t 69) (.c (.int .u64 1)))⟩,
 ⟨some 71, none, .val (.mv (.t 11))⟩,
 ⟨some 72, none, .build [(.int .i64 0), (.bool false), (.int .u64 0), .nilSl] [(0, 1, (.c (.int .i64 1001))), (1, 1, (.t 70)), (2, 1, (.t 71))]⟩,
 ⟨some 15, none, .zalloc [(.int .i64 0), (.bool false), (.int .u64 0), .nilSl]⟩,
 ⟨none, none, .store 4 (.t 15) (.t 72)⟩] [0, 5, 6, 7, 8, 11, 14, 15]) k33_17)
abbrev k33_19 : MC :=
 (.seq ((.seq (.reg [
 ⟨some 55, none, .val (.mv (.t 8))⟩,
 ⟨some 56, none, .val (.bin .rem .num (.t 55) (.c (.int .u64 2)))⟩,
 ⟨some 57, none, .val (.bin .eql .num (.t 56) (.c (.int .u64 1)))⟩,
 ⟨some 58, none, .val (.mv (.t 57))⟩,
 ⟨some 59, (some (58, true)), .val (.mv (.t 11))⟩,
 ⟨some 60, (some (58, true)), .val (.mv (.t 0))⟩,
 ⟨some 61, (some (58, true)), .val (.len .sl (.t 60))⟩,
 ⟨some 62, (some (58, true)), .val (.mv (.t 14))⟩,
 ⟨some 63, (some (58, true)), .val (.bin .sub .num (.t 61) (.t 62))⟩,
 ⟨some 64, (some (58, true)), .val (.i2i .u64 (.t 63))⟩,
 ⟨some 65, (some (58, true)), .val (.bin .gtr .num (.t 59) (.t 64))⟩,
 ⟨some 66, none, .val (.pick (.t 58) (.t 65) (.c (.bool false)))⟩] [0, 5, 6, 7, 8, 11, 14, 66]) k33_4)) k33_18)
abbrev k33_20 : MC :=
 (.seq (.reg [
 ⟨some 50, none, .val (.mv (.t 7))⟩,
 ⟨some 51, none, .val (.mv (.t 9))⟩,
 ⟨some 52, none, .val (.bin .add .num (.t 50) (.t 51))⟩,
 ⟨some 53, none, .val (.mv (.t 12))⟩,
 ⟨some 54, none, .val (.bin .add .num (.t 52) (.t 53))⟩,
 ⟨some 14, none, .val (.mv (.t 54))⟩] [0, 5, 6, 7, 8, 11, 14]) k33_19)
abbrev k33_21 : MC :=
 (.seq ((.seq (.reg [
 ⟨some 46, none, .val (.mv (.t 13))⟩,
 ⟨some 47, none, .val (.bin .neq .num (.t 46) (.c (.int .i64 0)))⟩] [0, 5, 6, 7, 8, 9, 11, 12, 13, 47]) k33_3)) k33_20)
abbrev k33_22 : MC :=
 (.seq (.reg [
 ⟨some 37, none, .val (.mv (.t 0))⟩,
 ⟨some 38, none, .val (.mv (.t 7))⟩,
 ⟨some 39, none, .val (.mv (.t 9))⟩,
 ⟨some 40, none, .val (.bin .add .num (.t 38) (.t 39))⟩,
 ⟨some 41, none, .val (.slc (some 1) (.t 37) (some (.t 40)) none none)⟩,
 ⟨some 42, none, .call 93 [(.t 41)]⟩,
 ⟨some 36, none, .val (.mv (.t 42))⟩,
 ⟨some 43, none, .val (.ext (.t 36) 0)⟩,
 ⟨some 44, none, .val (.ext (.t 36) 1)⟩,
 ⟨some 45, none, .val (.ext (.t 36) 2)⟩,
 ⟨some 11, none, .val (.mv (.t 43))⟩,
 ⟨some 12, none, .val (.mv (.t 44))⟩,
 ⟨some 13, none, .val (.mv (.t 45))⟩] [0, 5, 6, 7, 8, 9, 11, 12, 13]) k33_21)
abbrev k33_23 : MC :=
 (.seq ((.seq (.reg [
 ⟨some 32, none, .val (.mv (.t 10))⟩,
 ⟨some 33, none, .val (.bin .neq .num (.t 32) (.c (.int .i64 0)))⟩] [0, 5, 6, 7, 8, 9, 10, 33]) k33_2)) k33_22)
abbrev k33_24 : MC :=
 .block 1 ((.seq (.reg [
 ⟨some 25, none, .val (.mv (.t 0))⟩,
 ⟨some 26, none, .val (.mv (.t 7))⟩,
 ⟨some 27, none, .val (.slc (some 1) (.t 25) (some (.t 26)) none none)⟩,
 ⟨some 28, none, .call 93 [(.t 27)]⟩,
 ⟨some 24, none, .val (.mv (.t 28))⟩,
 ⟨some 29, none, .val (.ext (.t 24) 0)⟩,
 ⟨some 30, none, .val (.ext (.t 24) 1)⟩,
 ⟨some 31, none, .val (.ext (.t 24) 2)⟩,
 ⟨some 8, none, .val (.mv (.t 29))⟩,
 ⟨some 9, none, .val (.mv (.t 30))⟩,
 ⟨some 10, none, .val (.mv (.t 31))⟩] [0, 5, 6, 7, 8, 9, 10]) k33_23))
abbrev k33_25 : MC :=
 (.seq ((.seq (.reg [
 ⟨some 20, none, .val (.mv (.t 7))⟩,
 ⟨some 21, none, .val (.mv (.t 0))⟩,
 ⟨some 22, none, .val (.len .sl (.t 21))⟩,
 ⟨some 23, none, .val (.bin .lss .num (.t 20) (.t 22))⟩] [0, 5, 6, 7, 23]) k33_1)) k33_24)
abbrev k33_26 : MC :=
 .block 0 (.loop k33_25)
abbrev k33_27 : MC :=
 (.seq (.reg [
 ⟨some 109, none, .val (.mv (.t 5))⟩,
 ⟨some 110, none, .val (.mv (.t 5))⟩,
 ⟨some 111, none, .val (.len .sl (.t 110))⟩,
 ⟨some 2, none, .val (.mv (.t 109))⟩,
 ⟨some 3, none, .val (.mv (.t 111))⟩,
 ⟨some 4, none, .val (.mv (.c (.int .i64 0)))⟩] [2, 3, 4]) (.ret))
abbrev k33_28 : MC :=
 (.seq ((.seq (.reg [
 ⟨some 7, none, .val (.mv (.c (.int .i64 0)))⟩] [0, 5, 6, 7]) k33_26)) k33_27)
abbrev k33_29 : MC :=
 (.seq (.reg [
 ⟨some 19, none, .build [(.int .i64 0), (.bool false), (.int .u64 0), .nilSl] []⟩,
 ⟨some 6, none, .zalloc [(.int .i64 0), (.bool false), (.int .u64 0), .nilSl]⟩,
 ⟨none, none, .store 4 (.t 6) (.t 19)⟩] [0, 5, 6]) k33_28)
abbrev k33_30 : MC :=
 (.seq (.reg [
 ⟨some 5, none, .val (.mv (.c .nilSl))⟩] [0, 5]) k33_29)
abbrev k33_31 : MC :=
 (.seq ((.seq (.reg [
 ⟨some 16, none, .val (.mv (.t 0))⟩,
 ⟨some 17, none, .val (.len .sl (.t 16))⟩,
 ⟨some 18, none, .val (.bin .gtr .num (.t 17) (.c (.int .i64 4096)))⟩] [0, 18]) k33_0)) k33_30)
abbrev k33 : MC :=
 (.seq (.reg [
 ⟨some 2, none, .val (.mv (.c .nilSl))⟩,
 ⟨some 3, none, .val (.mv (.c (.int .i64 0)))⟩,
 ⟨some 4, none, .val (.mv (.c (.int .i64 0)))⟩] [0]) k33_31)
theorem c33 : Try.f33.body.bind (mcOf Try.prog (List.contains [] ·) (List.getD [([], [0]), ([], [0, 18]), ([], [2, 3, 4]), ([], [0, 5]), ([], [0, 5, 6]), ([], [0, 5, 6, 7]), ([], [0, 5, 6, 7, 23]), ([], [0, 5, 6, 7, 8, 9, 10]), ([], [0, 5, 6, 7, 8, 9, 10, 33]), ([], [2, 3, 4]), ([], [0, 5, 6, 7, 8, 9, 11, 12, 13]), ([], [0, 5, 6, 7, 8, 9, 11, 12, 13, 47]), ([], [2, 3, 4]), ([], [0, 5, 6, 7, 8, 11, 14]), ([], [0, 5, 6, 7, 8, 11, 14, 66]), ([], [2, 3, 4]), ([], [0, 5, 6, 7, 8, 11, 14, 15]), ([], [0, 5, 6, 7, 8, 11, 14, 15, 74]), ([], [0, 5, 6, 7, 11, 14, 15]), ([], [0, 5, 6, 7, 11, 14, 15, 80]), ([], [0, 5, 6, 7, 11, 14, 15]), ([], [0, 5, 6, 7, 11, 14, 15]), ([], [0, 5, 6, 7, 14, 15]), ([], [0, 5, 6, 7, 14, 15, 97]), ([], [2, 3, 4]), ([], [0, 5, 6, 7, 14, 15, 101]), ([], [2, 3, 4]), ([], [0, 5, 6, 14, 15]), ([], [0, 5, 6, 14]), ([], [0, 5, 6, 7]), ([], [2, 3, 4])] · ([], [])) 112) = some k33 := by kernel_rfl
theorem r33 : rvsOf Try.prog Try.f33.results.toList = some [.tmp 2, .tmp 3, .tmp 4] := by kernel_rfl
abbrev rdI (b : List UInt8) (H : AH) (kl : Nat) (n : Nat) (a : A) (H2 : AH) : Prop := ∃ (p : Nat) (v : V) (acc : List Fld) (last : Fld), p ≤ b.length ∧ b.length - p ≤ n ∧ a = [(0, V.sl 1 (byteCells b) .no), (5, v), (6, V.ptr kl 0), (7, .int .i64 p)] ∧ AccP H 4 (fldsE acc) v H2 ∧
      H2 kl = some (.cells (fldC last)) ∧ acc.length ≤ 64 ∧ decS b = decL n acc last p (b.drop p)
abbrev rdQ (b : List UInt8) (H : AH) : AExit → A → AH → Prop := BQ 0 (SQ Try.prog Try.f33.ntmps k33_27 (Body [RV.tmp 2, RV.tmp 3, RV.tmp 4] fun o H' => (∃ u, o = Out.ret u ∧ ∀ (s : St) (x : Value), s.val u x → s.val (V.tuple [V.sl 4 (fldsE (decS b).1) Tok.no, V.int IntKind.i64 (decS b).2.1, V.int IntKind.i64 (decS b).2.2]) x) ∧ H.le H'))
set_option maxHeartbeats 1000000 in
theorem rd_K {b : List UInt8} {H H2 : AH} {kl p n key k1 m k2 : Nat} {e1 e2 : Int} {v : V} {acc : List Fld} {last : Fld} (hb : b.length < 10000000) (h4 : ¬ 4096 < b.length) (hkl : H kl = none) (hp : p ≤ b.length) (hpn : b.length - p ≤ n + 1) (hacc : AccP H 4 (fldsE acc) v H2) (hls : H2 kl = some (.cells (fldC last))) (hal : acc.length ≤ 64) (he : decS b = decL (n + 1) acc last p (b.drop p)) (hlt : p < b.length) (hx : readS (b.drop p) = (key, k1, e1)) (hy : readS (b.drop (p + k1)) = (m, k2, e2)) (z1 : ¬ e1 = 0) : AM Try.prog Try.f33.ntmps k33_25 (LQ (rdI b H kl) (n + 1) (rdQ b H)) [(0, V.sl 1 (byteCells b) .no), (5, v), (6, V.ptr kl 0), (7, .int .i64 p)] H2 := by
  obtain ⟨g1, g2, g3, g4⟩ := fieldS_len (b.drop p)
  rw [List.length_drop] at g1 g4
  have hne : b.drop p ≠ [] := by intro e; have := congrArg List.length e; simp at this; omega
  simp only [decL, if_neg hne] at he
  have htk : (b.drop p).take (b.length - p) = b.drop p := List.take_of_length_le (by simp)
  have hrc := read_cases (b.drop p)
  rw [hx, List.length_drop] at hrc
  simp only at hrc
  have hk1 : p + k1 ≤ b.length := by omega
  have htk2 : (b.drop (p + k1)).take (b.length - (p + k1)) = b.drop (p + k1) := List.take_of_length_le (by simp)
  have hrc2 := read_cases (b.drop (p + k1))
  rw [hy, List.length_drop] at hrc2
  simp only at hrc2
  have hfs : fieldS (b.drop p) = if e1 ≠ 0 then (f0, e1, k1) else if e2 ≠ 0 then (f0, e2, k1 + k2) else if key % 2 ≠ 1 then (⟨((min (key / 2) 1001 : Nat) : Int), false, m, []⟩, 0, k1 + k2) else
      if (b.drop p).length - (k1 + k2) < m then (f0, 5, k1 + k2) else (⟨((min (key / 2) 1001 : Nat) : Int), true, 0, ((b.drop p).drop (k1 + k2)).take m⟩, 0, k1 + k2 + m) := by
    simp only [fieldS, hx, List.drop_drop, hy]
  have r1 := fun H => rread_calls (b := b.drop p) (t := .no) (by simp; omega) H
  rw [hx] at r1
  have r2 := fun H => rread_calls (b := b.drop (p + k1)) (t := .no) (by simp; omega) H
  rw [hy] at r2
  simp only at r1 r2
  have tn : ∀ a c : Nat, ((a : Int) + (c : Int)).toNat = a + c := by intro a c; omega
  have hle := hacc.le
  have tn3 : ∀ a c d : Nat, ((a : Int) + (c : Int) + (d : Int)).toNat = a + c + d := by intro a c d; omega
  have tn4 : ∀ a c d e : Nat, ((a : Int) + (c : Int) + (d : Int) + (e : Int)).toNat = a + c + d + e := by intro a c d e; omega
  have hlen : (b.drop p).length = b.length - p := List.length_drop
  have hdd : (b.drop p).drop (k1 + k2) = b.drop (p + k1 + k2) := by rw [List.drop_drop, Nat.add_assoc]
  have turn : ∀ (v' : V) (H3 : AH) (l' : List Fld) (q : AObj), AccP H 4 (fldsE l') v' H3 → H3 kl = some (.cells (fldC last)) → AccP H 4 (fldsE l') v' (H3.put kl q) := fun v' H3 l' q h1 h2 => AccP.turn h1 hkl h2 q
  have hf : fieldS (b.drop p) = (f0, e1, k1) := by rw [hfs, if_pos (by omega)]
  rw [hf] at he
  simp only [ne_eq, Int.reduceEq, not_false_eq_true, not_true_eq_false, if_true, if_false, z1] at he
  repeat' (first | with_reducible (first | refine am_seq ?_ | refine am_block ?_) | ((with_reducible apply am_cond); (case hb => rfl); all_goals (intro hc; (try simp only [reduceCtorEq, bD, beq_iff_eq] at hc); (try (exfalso; omega)))) | ((first | with_reducible (first | refine am_reg ?_ | refine am_skip ?_ | refine am_exit ?_ | refine am_ret ?_ | refine vc_intro ?_ | refine need_elems (by assumption) ?_ | refine vlen_acc (by assumption) ?_ | refine need_bytes (by assumption) ?_ | refine call_of (r1) ?_ | refine qcall_of (r1) ?_ | refine call_of (r2) ?_ | refine qcall_of (r2) ?_ | refine need_lk ?_) | ((with_reducible (first | apply gd_not | apply gd_of | apply gq_not | apply gq_of | apply pickB_of)) <;> intro hc <;> (try simp -implicitDefEqProofs (disch := omega) only [go_sem, hc, wrap_id, u64_id, tmod2, tdiv2, tn, tn3, tn4, htk, htk2, ite_self, Nat.add_sub_cancel_left]) <;> (try simp only [reduceCtorEq, bD, beq_iff_eq] at hc) <;> (try (exfalso; omega))) | ((with_reducible refine alloc_intro (fun ko hko => ?_)) <;> (try have hne := fresh_ne (by assumption) hko) <;> (try have hnk := fresh_ne hk hko) <;> (try have hnk2 := fresh_ne hk2 hko) <;> (try simp only [AH.put_none] at hko)) | ((with_reducible (first | refine vapp_accL (by assumption) ?_ (fun v2 H2 hacc hlec => ?_) | refine vapp_accL (AccP.mono (by assumption) (AccP.le (by assumption))) ?_ (fun v2 H2 hacc hlec => ?_) | refine vapp_accL (AccP.new (by assumption) (by assumption) _) ?_ (fun v2 H2 hacc hlec => ?_))); · simp only [byteCells_length, List.length_cons, List.length_nil, List.length_map, List.length_append, fldsE_length]; omega) | done) <;> (try simp -implicitDefEqProofs (disch := omega) only [go_sem, wrap_id, u64_id, tmod2, tdiv2, tn, tn3, tn4, htk, htk2, ite_self, Nat.add_sub_cancel_left])))
  rw [he]
  (refine drop_end (by (first | exact fun _ _ h => h | (intro s x h; first | exact no_sub _ h | exact nil_no _ h | exact AccP.sub (by assumption) _ _ h | (refine agg_sub rfl ?_ x h; repeat (first | exact .nil | refine .cons (fun _ h => h) ?_ | refine .cons (fun _ h => nil_no _ h) ?_ | refine .cons (fun _ h => no_sub _ h) ?_ | refine .cons (fun _ h => AccP.sub (by assumption) _ _ h) ?_)) | (refine tuple_sub ?_ x h; repeat (first | exact .nil | refine .cons (fun _ h => h) ?_ | refine .cons (fun _ h => nil_no _ h) ?_ | refine .cons (fun _ h => no_sub _ h) ?_ | refine .cons (fun _ h => AccP.sub (by assumption) _ _ h) ?_ | refine .cons (fun _ h => agg_sub rfl (by repeat (first | exact .nil | refine .cons (fun _ h => h) ?_ | refine .cons (fun _ h => nil_no _ h) ?_ | refine .cons (fun _ h => no_sub _ h) ?_ | refine .cons (fun _ h => AccP.sub (by assumption) _ _ h) ?_)) _ h) ?_))))) (by (repeat (first | exact AH.le_refl _ | assumption | exact AccP.le (by assumption) | refine AH.le_put ?_ (by first | assumption | exact none_of_le (by assumption) (by assumption) | exact And.right (by assumption) | exact And.right (And.right (by assumption))) _ | refine AH.le_trans ?_ (AccP.le (by assumption))))))
set_option maxHeartbeats 1000000 in
theorem rd_G {b : List UInt8} {H H2 : AH} {kl p n key k1 m k2 : Nat} {e1 e2 : Int} {v : V} {acc : List Fld} {last : Fld} (hb : b.length < 10000000) (h4 : ¬ 4096 < b.length) (hkl : H kl = none) (hp : p ≤ b.length) (hpn : b.length - p ≤ n + 1) (hacc : AccP H 4 (fldsE acc) v H2) (hls : H2 kl = some (.cells (fldC last))) (hal : acc.length ≤ 64) (he : decS b = decL (n + 1) acc last p (b.drop p)) (hlt : p < b.length) (hx : readS (b.drop p) = (key, k1, e1)) (hy : readS (b.drop (p + k1)) = (m, k2, e2)) (z1 : e1 = 0) (z2 : ¬ e2 = 0) : AM Try.prog Try.f33.ntmps k33_25 (LQ (rdI b H kl) (n + 1) (rdQ b H)) [(0, V.sl 1 (byteCells b) .no), (5, v), (6, V.ptr kl 0), (7, .int .i64 p)] H2 := by
  obtain ⟨g1, g2, g3, g4⟩ := fieldS_len (b.drop p)
  rw [List.length_drop] at g1 g4
  have hne : b.drop p ≠ [] := by intro e; have := congrArg List.length e; simp at this; omega
  simp only [decL, if_neg hne] at he
  have htk : (b.drop p).take (b.length - p) = b.drop p := List.take_of_length_le (by simp)
  have hrc := read_cases (b.drop p)
  rw [hx, List.length_drop] at hrc
  simp only at hrc
  have hk1 : p + k1 ≤ b.length := by omega
  have htk2 : (b.drop (p + k1)).take (b.length - (p + k1)) = b.drop (p + k1) := List.take_of_length_le (by simp)
  have hrc2 := read_cases (b.drop (p + k1))
  rw [hy, List.length_drop] at hrc2
  simp only at hrc2
  have hfs : fieldS (b.drop p) = if e1 ≠ 0 then (f0, e1, k1) else if e2 ≠ 0 then (f0, e2, k1 + k2) else if key % 2 ≠ 1 then (⟨((min (key / 2) 1001 : Nat) : Int), false, m, []⟩, 0, k1 + k2) else
      if (b.drop p).length - (k1 + k2) < m then (f0, 5, k1 + k2) else (⟨((min (key / 2) 1001 : Nat) : Int), true, 0, ((b.drop p).drop (k1 + k2)).take m⟩, 0, k1 + k2 + m) := by
    simp only [fieldS, hx, List.drop_drop, hy]
  have r1 := fun H => rread_calls (b := b.drop p) (t := .no) (by simp; omega) H
  rw [hx] at r1
  have r2 := fun H => rread_calls (b := b.drop (p + k1)) (t := .no) (by simp; omega) H
  rw [hy] at r2
  simp only at r1 r2
  have tn : ∀ a c : Nat, ((a : Int) + (c : Int)).toNat = a + c := by intro a c; omega
  have hle := hacc.le
  have tn3 : ∀ a c d : Nat, ((a : Int) + (c : Int) + (d : Int)).toNat = a + c + d := by intro a c d; omega
  have tn4 : ∀ a c d e : Nat, ((a : Int) + (c : Int) + (d : Int) + (e : Int)).toNat = a + c + d + e := by intro a c d e; omega
  have hlen : (b.drop p).length = b.length - p := List.length_drop
  have hdd : (b.drop p).drop (k1 + k2) = b.drop (p + k1 + k2) := by rw [List.drop_drop, Nat.add_assoc]
  have turn : ∀ (v' : V) (H3 : AH) (l' : List Fld) (q : AObj), AccP H 4 (fldsE l') v' H3 → H3 kl = some (.cells (fldC last)) → AccP H 4 (fldsE l') v' (H3.put kl q) := fun v' H3 l' q h1 h2 => AccP.turn h1 hkl h2 q
  have hf : fieldS (b.drop p) = (f0, e2, k1 + k2) := by rw [hfs, if_neg (by omega), if_pos (by omega)]
  rw [hf] at he
  simp only [ne_eq, Int.reduceEq, not_false_eq_true, not_true_eq_false, if_true, if_false, z1, z2] at he
  repeat' (first | with_reducible (first | refine am_seq ?_ | refine am_block ?_) | ((with_reducible apply am_cond); (case hb => rfl); all_goals (intro hc; (try simp only [reduceCtorEq, bD, beq_iff_eq] at hc); (try (exfalso; omega)))) | ((first | with_reducible (first | refine am_reg ?_ | refine am_skip ?_ | refine am_exit ?_ | refine am_ret ?_ | refine vc_intro ?_ | refine need_elems (by assumption) ?_ | refine vlen_acc (by assumption) ?_ | refine need_bytes (by assumption) ?_ | refine call_of (r1) ?_ | refine qcall_of (r1) ?_ | refine call_of (r2) ?_ | refine qcall_of (r2) ?_ | refine need_lk ?_) | ((with_reducible (first | apply gd_not | apply gd_of | apply gq_not | apply gq_of | apply pickB_of)) <;> intro hc <;> (try simp -implicitDefEqProofs (disch := omega) only [go_sem, hc, wrap_id, u64_id, tmod2, tdiv2, tn, tn3, tn4, htk, htk2, ite_self, Nat.add_sub_cancel_left]) <;> (try simp only [reduceCtorEq, bD, beq_iff_eq] at hc) <;> (try (exfalso; omega))) | ((with_reducible refine alloc_intro (fun ko hko => ?_)) <;> (try have hne := fresh_ne (by assumption) hko) <;> (try have hnk := fresh_ne hk hko) <;> (try have hnk2 := fresh_ne hk2 hko) <;> (try simp only [AH.put_none] at hko)) | ((with_reducible (first | refine vapp_accL (by assumption) ?_ (fun v2 H2 hacc hlec => ?_) | refine vapp_accL (AccP.mono (by assumption) (AccP.le (by assumption))) ?_ (fun v2 H2 hacc hlec => ?_) | refine vapp_accL (AccP.new (by assumption) (by assumption) _) ?_ (fun v2 H2 hacc hlec => ?_))); · simp only [byteCells_length, List.length_cons, List.length_nil, List.length_map, List.length_append, fldsE_length]; omega) | done) <;> (try simp -implicitDefEqProofs (disch := omega) only [go_sem, wrap_id, u64_id, tmod2, tdiv2, tn, tn3, tn4, htk, htk2, ite_self, Nat.add_sub_cancel_left])))
  rw [he]
  (refine drop_end (by (first | exact fun _ _ h => h | (intro s x h; first | exact no_sub _ h | exact nil_no _ h | exact AccP.sub (by assumption) _ _ h | (refine agg_sub rfl ?_ x h; repeat (first | exact .nil | refine .cons (fun _ h => h) ?_ | refine .cons (fun _ h => nil_no _ h) ?_ | refine .cons (fun _ h => no_sub _ h) ?_ | refine .cons (fun _ h => AccP.sub (by assumption) _ _ h) ?_)) | (refine tuple_sub ?_ x h; repeat (first | exact .nil | refine .cons (fun _ h => h) ?_ | refine .cons (fun _ h => nil_no _ h) ?_ | refine .cons (fun _ h => no_sub _ h) ?_ | refine .cons (fun _ h => AccP.sub (by assumption) _ _ h) ?_ | refine .cons (fun _ h => agg_sub rfl (by repeat (first | exact .nil | refine .cons (fun _ h => h) ?_ | refine .cons (fun _ h => nil_no _ h) ?_ | refine .cons (fun _ h => no_sub _ h) ?_ | refine .cons (fun _ h => AccP.sub (by assumption) _ _ h) ?_)) _ h) ?_))))) (by (repeat (first | exact AH.le_refl _ | assumption | exact AccP.le (by assumption) | refine AH.le_put ?_ (by first | assumption | exact none_of_le (by assumption) (by assumption) | exact And.right (by assumption) | exact And.right (And.right (by assumption))) _ | refine AH.le_trans ?_ (AccP.le (by assumption))))))
set_option maxHeartbeats 1000000 in
theorem rd_E {b : List UInt8} {H H2 : AH} {kl p n key k1 m k2 : Nat} {e1 e2 : Int} {v : V} {acc : List Fld} {last : Fld} (hb : b.length < 10000000) (h4 : ¬ 4096 < b.length) (hkl : H kl = none) (hp : p ≤ b.length) (hpn : b.length - p ≤ n + 1) (hacc : AccP H 4 (fldsE acc) v H2) (hls : H2 kl = some (.cells (fldC last))) (hal : acc.length ≤ 64) (he : decS b = decL (n + 1) acc last p (b.drop p)) (hlt : p < b.length) (hx : readS (b.drop p) = (key, k1, e1)) (hy : readS (b.drop (p + k1)) = (m, k2, e2)) (z1 : e1 = 0) (z2 : e2 = 0) (zp : key % 2 = 1) (zl : b.length - p - (k1 + k2) < m) : AM Try.prog Try.f33.ntmps k33_25 (LQ (rdI b H kl) (n + 1) (rdQ b H)) [(0, V.sl 1 (byteCells b) .no), (5, v), (6, V.ptr kl 0), (7, .int .i64 p)] H2 := by
  obtain ⟨g1, g2, g3, g4⟩ := fieldS_len (b.drop p)
  rw [List.length_drop] at g1 g4
  have hne : b.drop p ≠ [] := by intro e; have := congrArg List.length e; simp at this; omega
  simp only [decL, if_neg hne] at he
  have htk : (b.drop p).take (b.length - p) = b.drop p := List.take_of_length_le (by simp)
  have hrc := read_cases (b.drop p)
  rw [hx, List.length_drop] at hrc
  simp only at hrc
  have hk1 : p + k1 ≤ b.length := by omega
  have htk2 : (b.drop (p + k1)).take (b.length - (p + k1)) = b.drop (p + k1) := List.take_of_length_le (by simp)
  have hrc2 := read_cases (b.drop (p + k1))
  rw [hy, List.length_drop] at hrc2
  simp only at hrc2
  have hfs : fieldS (b.drop p) = if e1 ≠ 0 then (f0, e1, k1) else if e2 ≠ 0 then (f0, e2, k1 + k2) else if key % 2 ≠ 1 then (⟨((min (key / 2) 1001 : Nat) : Int), false, m, []⟩, 0, k1 + k2) else
      if (b.drop p).length - (k1 + k2) < m then (f0, 5, k1 + k2) else (⟨((min (key / 2) 1001 : Nat) : Int), true, 0, ((b.drop p).drop (k1 + k2)).take m⟩, 0, k1 + k2 + m) := by
    simp only [fieldS, hx, List.drop_drop, hy]
  have r1 := fun H => rread_calls (b := b.drop p) (t := .no) (by simp; omega) H
  rw [hx] at r1
  have r2 := fun H => rread_calls (b := b.drop (p + k1)) (t := .no) (by simp; omega) H
  rw [hy] at r2
  simp only at r1 r2
  have tn : ∀ a c : Nat, ((a : Int) + (c : Int)).toNat = a + c := by intro a c; omega
  have hle := hacc.le
  have tn3 : ∀ a c d : Nat, ((a : Int) + (c : Int) + (d : Int)).toNat = a + c + d := by intro a c d; omega
  have tn4 : ∀ a c d e : Nat, ((a : Int) + (c : Int) + (d : Int) + (e : Int)).toNat = a + c + d + e := by intro a c d e; omega
  have hlen : (b.drop p).length = b.length - p := List.length_drop
  have hdd : (b.drop p).drop (k1 + k2) = b.drop (p + k1 + k2) := by rw [List.drop_drop, Nat.add_assoc]
  have turn : ∀ (v' : V) (H3 : AH) (l' : List Fld) (q : AObj), AccP H 4 (fldsE l') v' H3 → H3 kl = some (.cells (fldC last)) → AccP H 4 (fldsE l') v' (H3.put kl q) := fun v' H3 l' q h1 h2 => AccP.turn h1 hkl h2 q
  have hf : fieldS (b.drop p) = (f0, 5, k1 + k2) := by rw [hfs, if_neg (by omega), if_neg (by omega), if_neg (by omega), if_pos (by omega)]
  rw [hf] at he
  simp only [ne_eq, Int.reduceEq, not_false_eq_true, not_true_eq_false, if_true, if_false, z1, z2] at he
  repeat' (first | with_reducible (first | refine am_seq ?_ | refine am_block ?_) | ((with_reducible apply am_cond); (case hb => rfl); all_goals (intro hc; (try simp only [reduceCtorEq, bD, beq_iff_eq] at hc); (try (exfalso; omega)))) | ((first | with_reducible (first | refine am_reg ?_ | refine am_skip ?_ | refine am_exit ?_ | refine am_ret ?_ | refine vc_intro ?_ | refine need_elems (by assumption) ?_ | refine vlen_acc (by assumption) ?_ | refine need_bytes (by assumption) ?_ | refine call_of (r1) ?_ | refine qcall_of (r1) ?_ | refine call_of (r2) ?_ | refine qcall_of (r2) ?_ | refine need_lk ?_) | ((with_reducible (first | apply gd_not | apply gd_of | apply gq_not | apply gq_of | apply pickB_of)) <;> intro hc <;> (try simp -implicitDefEqProofs (disch := omega) only [go_sem, hc, wrap_id, u64_id, tmod2, tdiv2, tn, tn3, tn4, htk, htk2, ite_self, Nat.add_sub_cancel_left]) <;> (try simp only [reduceCtorEq, bD, beq_iff_eq] at hc) <;> (try (exfalso; omega))) | ((with_reducible refine alloc_intro (fun ko hko => ?_)) <;> (try have hne := fresh_ne (by assumption) hko) <;> (try have hnk := fresh_ne hk hko) <;> (try have hnk2 := fresh_ne hk2 hko) <;> (try simp only [AH.put_none] at hko)) | ((with_reducible (first | refine vapp_accL (by assumption) ?_ (fun v2 H2 hacc hlec => ?_) | refine vapp_accL (AccP.mono (by assumption) (AccP.le (by assumption))) ?_ (fun v2 H2 hacc hlec => ?_) | refine vapp_accL (AccP.new (by assumption) (by assumption) _) ?_ (fun v2 H2 hacc hlec => ?_))); · simp only [byteCells_length, List.length_cons, List.length_nil, List.length_map, List.length_append, fldsE_length]; omega) | done) <;> (try simp -implicitDefEqProofs (disch := omega) only [go_sem, wrap_id, u64_id, tmod2, tdiv2, tn, tn3, tn4, htk, htk2, ite_self, Nat.add_sub_cancel_left])))
  rw [he]
  (refine drop_end (by (first | exact fun _ _ h => h | (intro s x h; first | exact no_sub _ h | exact nil_no _ h | exact AccP.sub (by assumption) _ _ h | (refine agg_sub rfl ?_ x h; repeat (first | exact .nil | refine .cons (fun _ h => h) ?_ | refine .cons (fun _ h => nil_no _ h) ?_ | refine .cons (fun _ h => no_sub _ h) ?_ | refine .cons (fun _ h => AccP.sub (by assumption) _ _ h) ?_)) | (refine tuple_sub ?_ x h; repeat (first | exact .nil | refine .cons (fun _ h => h) ?_ | refine .cons (fun _ h => nil_no _ h) ?_ | refine .cons (fun _ h => no_sub _ h) ?_ | refine .cons (fun _ h => AccP.sub (by assumption) _ _ h) ?_ | refine .cons (fun _ h => agg_sub rfl (by repeat (first | exact .nil | refine .cons (fun _ h => h) ?_ | refine .cons (fun _ h => nil_no _ h) ?_ | refine .cons (fun _ h => no_sub _ h) ?_ | refine .cons (fun _ h => AccP.sub (by assumption) _ _ h) ?_)) _ h) ?_))))) (by (repeat (first | exact AH.le_refl _ | assumption | exact AccP.le (by assumption) | refine AH.le_put ?_ (by first | assumption | exact none_of_le (by assumption) (by assumption) | exact And.right (by assumption) | exact And.right (And.right (by assumption))) _ | refine AH.le_trans ?_ (AccP.le (by assumption))))))
set_option maxHeartbeats 1000000 in
theorem rd_C {b : List UInt8} {H H2 : AH} {kl p n key k1 m k2 : Nat} {e1 e2 : Int} {v : V} {acc : List Fld} {last : Fld} (hb : b.length < 10000000) (h4 : ¬ 4096 < b.length) (hkl : H kl = none) (hp : p ≤ b.length) (hpn : b.length - p ≤ n + 1) (hacc : AccP H 4 (fldsE acc) v H2) (hls : H2 kl = some (.cells (fldC last))) (hal : acc.length ≤ 64) (he : decS b = decL (n + 1) acc last p (b.drop p)) (hlt : p < b.length) (hx : readS (b.drop p) = (key, k1, e1)) (hy : readS (b.drop (p + k1)) = (m, k2, e2)) (z1 : e1 = 0) (z2 : e2 = 0) (zp : ¬ key % 2 = 1) (zs : key < 2002) : AM Try.prog Try.f33.ntmps k33_25 (LQ (rdI b H kl) (n + 1) (rdQ b H)) [(0, V.sl 1 (byteCells b) .no), (5, v), (6, V.ptr kl 0), (7, .int .i64 p)] H2 := by
  obtain ⟨g1, g2, g3, g4⟩ := fieldS_len (b.drop p)
  rw [List.length_drop] at g1 g4
  have hne : b.drop p ≠ [] := by intro e; have := congrArg List.length e; simp at this; omega
  simp only [decL, if_neg hne] at he
  have htk : (b.drop p).take (b.length - p) = b.drop p := List.take_of_length_le (by simp)
  have hrc := read_cases (b.drop p)
  rw [hx, List.length_drop] at hrc
  simp only at hrc
  have hk1 : p + k1 ≤ b.length := by omega
  have htk2 : (b.drop (p + k1)).take (b.length - (p + k1)) = b.drop (p + k1) := List.take_of_length_le (by simp)
  have hrc2 := read_cases (b.drop (p + k1))
  rw [hy, List.length_drop] at hrc2
  simp only at hrc2
  have hfs : fieldS (b.drop p) = if e1 ≠ 0 then (f0, e1, k1) else if e2 ≠ 0 then (f0, e2, k1 + k2) else if key % 2 ≠ 1 then (⟨((min (key / 2) 1001 : Nat) : Int), false, m, []⟩, 0, k1 + k2) else
      if (b.drop p).length - (k1 + k2) < m then (f0, 5, k1 + k2) else (⟨((min (key / 2) 1001 : Nat) : Int), true, 0, ((b.drop p).drop (k1 + k2)).take m⟩, 0, k1 + k2 + m) := by
    simp only [fieldS, hx, List.drop_drop, hy]
  have r1 := fun H => rread_calls (b := b.drop p) (t := .no) (by simp; omega) H
  rw [hx] at r1
  have r2 := fun H => rread_calls (b := b.drop (p + k1)) (t := .no) (by simp; omega) H
  rw [hy] at r2
  simp only at r1 r2
  have tn : ∀ a c : Nat, ((a : Int) + (c : Int)).toNat = a + c := by intro a c; omega
  have hle := hacc.le
  have tn3 : ∀ a c d : Nat, ((a : Int) + (c : Int) + (d : Int)).toNat = a + c + d := by intro a c d; omega
  have tn4 : ∀ a c d e : Nat, ((a : Int) + (c : Int) + (d : Int) + (e : Int)).toNat = a + c + d + e := by intro a c d e; omega
  have hlen : (b.drop p).length = b.length - p := List.length_drop
  have hdd : (b.drop p).drop (k1 + k2) = b.drop (p + k1 + k2) := by rw [List.drop_drop, Nat.add_assoc]
  have turn : ∀ (v' : V) (H3 : AH) (l' : List Fld) (q : AObj), AccP H 4 (fldsE l') v' H3 → H3 kl = some (.cells (fldC last)) → AccP H 4 (fldsE l') v' (H3.put kl q) := fun v' H3 l' q h1 h2 => AccP.turn h1 hkl h2 q
  have hf : fieldS (b.drop p) = (⟨((key / 2 : Nat) : Int), false, m, []⟩, 0, k1 + k2) := by
    rw [hfs, if_neg (by omega), if_neg (by omega), if_pos (by omega), show min (key / 2) 1001 = key / 2 by omega]
  have fc := fun H => fits_calls (f := ⟨((key / 2 : Nat) : Int), false, m, []⟩) (l := last) H
  simp only [fldC] at fc
  rw [hf] at he
  simp only [ne_eq, not_true_eq_false, if_false] at he
  generalize hF : fitsF ⟨((key / 2 : Nat) : Int), false, m, []⟩ last = F at he fc
  cases F
  · rw [if_pos rfl] at he
    repeat' (first | (with_reducible refine AM.subN4 ?_ rfl) | with_reducible (first | refine am_seq ?_ | refine am_block ?_) | ((with_reducible apply am_cond); (case hb => rfl); all_goals (intro hc; (try simp only [reduceCtorEq, bD, beq_iff_eq] at hc); (try (exfalso; omega)))) | ((first | with_reducible (first | refine am_reg ?_ | refine am_skip ?_ | refine am_exit ?_ | refine am_ret ?_ | refine vc_intro ?_ | refine need_elems (by assumption) ?_ | refine vlen_acc (by assumption) ?_ | refine need_bytes (by assumption) ?_ | refine call_of (r1) ?_ | refine qcall_of (r1) ?_ | refine call_of (r2) ?_ | refine qcall_of (r2) ?_ | refine call_of (fc) ?_ | refine qcall_of (fc) ?_ | refine need_lk ?_) | ((with_reducible (first | apply gd_not | apply gd_of | apply gq_not | apply gq_of | apply pickB_of)) <;> intro hc <;> (try simp -implicitDefEqProofs (disch := omega) only [go_sem, hc, wrap_id, u64_id, tmod2, tdiv2, tn, tn3, tn4, htk, htk2, ite_self, Nat.add_sub_cancel_left, show decide (((key % 2 : Nat) : Int) = 1) = false from decide_eq_false (by omega)]) <;> (try simp only [reduceCtorEq, bD, beq_iff_eq] at hc) <;> (try (exfalso; omega))) | ((with_reducible refine alloc_intro (fun ko hko => ?_)) <;> (try have hne := fresh_ne (by assumption) hko) <;> (try have hnk := fresh_ne hk hko) <;> (try have hnk2 := fresh_ne hk2 hko) <;> (try simp only [AH.put_none] at hko)) | ((with_reducible (first | refine vapp_accL (by assumption) ?_ (fun v2 H2 hacc hlec => ?_) | refine vapp_accL (AccP.mono (by assumption) (AccP.le (by assumption))) ?_ (fun v2 H2 hacc hlec => ?_) | refine vapp_accL (AccP.new (by assumption) (by assumption) _) ?_ (fun v2 H2 hacc hlec => ?_))); · simp only [byteCells_length, List.length_cons, List.length_nil, List.length_map, List.length_append, fldsE_length]; omega) | done) <;> (try simp -implicitDefEqProofs (disch := omega) only [go_sem, wrap_id, u64_id, tmod2, tdiv2, tn, tn3, tn4, htk, htk2, ite_self, Nat.add_sub_cancel_left, show decide (((key % 2 : Nat) : Int) = 1) = false from decide_eq_false (by omega)])))
    rw [he]
    (refine drop_end (by (first | exact fun _ _ h => h | (intro s x h; first | exact no_sub _ h | exact nil_no _ h | exact AccP.sub (by assumption) _ _ h | (refine agg_sub rfl ?_ x h; repeat (first | exact .nil | refine .cons (fun _ h => h) ?_ | refine .cons (fun _ h => nil_no _ h) ?_ | refine .cons (fun _ h => no_sub _ h) ?_ | refine .cons (fun _ h => AccP.sub (by assumption) _ _ h) ?_)) | (refine tuple_sub ?_ x h; repeat (first | exact .nil | refine .cons (fun _ h => h) ?_ | refine .cons (fun _ h => nil_no _ h) ?_ | refine .cons (fun _ h => no_sub _ h) ?_ | refine .cons (fun _ h => AccP.sub (by assumption) _ _ h) ?_ | refine .cons (fun _ h => agg_sub rfl (by repeat (first | exact .nil | refine .cons (fun _ h => h) ?_ | refine .cons (fun _ h => nil_no _ h) ?_ | refine .cons (fun _ h => no_sub _ h) ?_ | refine .cons (fun _ h => AccP.sub (by assumption) _ _ h) ?_)) _ h) ?_))))) (by (repeat (first | exact AH.le_refl _ | assumption | exact AccP.le (by assumption) | refine AH.le_put ?_ (by first | assumption | exact none_of_le (by assumption) (by assumption) | exact And.right (by assumption) | exact And.right (And.right (by assumption))) _ | refine AH.le_trans ?_ (AccP.le (by assumption))))))
  · rw [if_neg (by simp)] at he
    repeat' (first | (with_reducible refine AM.subN4 ?_ rfl) | with_reducible (first | refine am_seq ?_ | refine am_block ?_) | ((with_reducible apply am_cond); (case hb => rfl); all_goals (intro hc; (try simp only [reduceCtorEq, bD, beq_iff_eq] at hc); (try (exfalso; omega)))) | ((first | with_reducible (first | refine am_reg ?_ | refine am_skip ?_ | refine am_exit ?_ | refine am_ret ?_ | refine vc_intro ?_ | refine need_elems (by assumption) ?_ | refine vlen_acc (by assumption) ?_ | refine need_bytes (by assumption) ?_ | refine call_of (r1) ?_ | refine qcall_of (r1) ?_ | refine call_of (r2) ?_ | refine qcall_of (r2) ?_ | refine call_of (fc) ?_ | refine qcall_of (fc) ?_ | refine need_lk ?_) | ((with_reducible (first | apply gd_not | apply gd_of | apply gq_not | apply gq_of | apply pickB_of)) <;> intro hc <;> (try simp -implicitDefEqProofs (disch := omega) only [go_sem, hc, wrap_id, u64_id, tmod2, tdiv2, tn, tn3, tn4, htk, htk2, ite_self, Nat.add_sub_cancel_left, show decide (((key % 2 : Nat) : Int) = 1) = false from decide_eq_false (by omega)]) <;> (try simp only [reduceCtorEq, bD, beq_iff_eq] at hc) <;> (try (exfalso; omega))) | ((with_reducible refine alloc_intro (fun ko hko => ?_)) <;> (try have hne := fresh_ne (by assumption) hko) <;> (try have hnk := fresh_ne hk hko) <;> (try have hnk2 := fresh_ne hk2 hko) <;> (try simp only [AH.put_none] at hko)) | ((with_reducible (first | refine vapp_accL (by assumption) ?_ (fun v2 H2 hacc hlec => ?_) | refine vapp_accL (AccP.mono (by assumption) (AccP.le (by assumption))) ?_ (fun v2 H2 hacc hlec => ?_) | refine vapp_accL (AccP.new (by assumption) (by assumption) _) ?_ (fun v2 H2 hacc hlec => ?_))); · simp only [byteCells_length, List.length_cons, List.length_nil, List.length_map, List.length_append, fldsE_length]; omega) | done) <;> (try simp -implicitDefEqProofs (disch := omega) only [go_sem, wrap_id, u64_id, tmod2, tdiv2, tn, tn3, tn4, htk, htk2, ite_self, Nat.add_sub_cancel_left, show decide (((key % 2 : Nat) : Int) = 1) = false from decide_eq_false (by omega)])))
    · rw [if_pos (by omega)] at he
      rw [he]
      (refine drop_end (by (first | exact fun _ _ h => h | (intro s x h; first | exact no_sub _ h | exact nil_no _ h | exact AccP.sub (by assumption) _ _ h | (refine agg_sub rfl ?_ x h; repeat (first | exact .nil | refine .cons (fun _ h => h) ?_ | refine .cons (fun _ h => nil_no _ h) ?_ | refine .cons (fun _ h => no_sub _ h) ?_ | refine .cons (fun _ h => AccP.sub (by assumption) _ _ h) ?_)) | (refine tuple_sub ?_ x h; repeat (first | exact .nil | refine .cons (fun _ h => h) ?_ | refine .cons (fun _ h => nil_no _ h) ?_ | refine .cons (fun _ h => no_sub _ h) ?_ | refine .cons (fun _ h => AccP.sub (by assumption) _ _ h) ?_ | refine .cons (fun _ h => agg_sub rfl (by repeat (first | exact .nil | refine .cons (fun _ h => h) ?_ | refine .cons (fun _ h => nil_no _ h) ?_ | refine .cons (fun _ h => no_sub _ h) ?_ | refine .cons (fun _ h => AccP.sub (by assumption) _ _ h) ?_)) _ h) ?_))))) (by (repeat (first | exact AH.le_refl _ | assumption | exact AccP.le (by assumption) | refine AH.le_put ?_ (by first | assumption | exact none_of_le (by assumption) (by assumption) | exact And.right (by assumption) | exact And.right (And.right (by assumption))) _ | refine AH.le_trans ?_ (AccP.le (by assumption))))))
    · rw [if_neg (by omega), List.drop_drop] at he
      have q1 : H2 kl = some (.cells (fldC last)) := look_lec (look_put hls (by assumption)) hlec
      refine need_look (look_lec (AH.put_same _ _ _) hlec) ?_
      simp -implicitDefEqProofs (disch := omega) only [go_sem]
      refine need_look q1 ?_
      simp -implicitDefEqProofs (disch := omega) only [go_sem]
      repeat' (first | with_reducible (first | refine am_seq ?_ | refine am_block ?_) | ((with_reducible apply am_cond); (case hb => rfl); all_goals (intro hc; (try simp only [reduceCtorEq, bD, beq_iff_eq] at hc); (try (exfalso; omega)))) | ((first | with_reducible (first | refine am_reg ?_ | refine am_skip ?_ | refine am_exit ?_ | refine am_ret ?_ | refine vc_intro ?_ | refine need_elems (by assumption) ?_ | refine vlen_acc (by assumption) ?_ | refine need_bytes (by assumption) ?_ | refine need_lk ?_) | ((with_reducible (first | apply gd_not | apply gd_of | apply gq_not | apply gq_of | apply pickB_of)) <;> intro hc <;> (try simp -implicitDefEqProofs (disch := omega) only [go_sem, hc]) <;> (try simp only [reduceCtorEq, bD, beq_iff_eq] at hc) <;> (try (exfalso; omega))) | ((with_reducible refine alloc_intro (fun ko hko => ?_)) <;> (try have hne := fresh_ne (by assumption) hko) <;> (try have hnk := fresh_ne hk hko) <;> (try have hnk2 := fresh_ne hk2 hko) <;> (try simp only [AH.put_none] at hko)) | ((with_reducible (first | refine vapp_accL (by assumption) ?_ (fun v2 H2 hacc hlec => ?_) | refine vapp_accL (AccP.mono (by assumption) (AccP.le (by assumption))) ?_ (fun v2 H2 hacc hlec => ?_) | refine vapp_accL (AccP.new (by assumption) (by assumption) _) ?_ (fun v2 H2 hacc hlec => ?_))); · simp only [byteCells_length, List.length_cons, List.length_nil, List.length_map, List.length_append, fldsE_length]; omega) | done) <;> (try simp -implicitDefEqProofs (disch := omega) only [go_sem])))
      refine ⟨n, by omega, p + (k1 + k2), v2, acc ++ [⟨((key / 2 : Nat) : Int), false, m, []⟩], ⟨((key / 2 : Nat) : Int), false, m, []⟩, by omega, by omega, by simp [Int.add_assoc], ?_, by first | exact AH.put_same _ _ _ | rfl, by simp; omega, he⟩
      rw [fldsE_append]
      exact AccP.turn hacc hkl q1 _
set_option maxHeartbeats 1000000 in
theorem rd_D {b : List UInt8} {H H2 : AH} {kl p n key k1 m k2 : Nat} {e1 e2 : Int} {v : V} {acc : List Fld} {last : Fld} (hb : b.length < 10000000) (h4 : ¬ 4096 < b.length) (hkl : H kl = none) (hp : p ≤ b.length) (hpn : b.length - p ≤ n + 1) (hacc : AccP H 4 (fldsE acc) v H2) (hls : H2 kl = some (.cells (fldC last))) (hal : acc.length ≤ 64) (he : decS b = decL (n + 1) acc last p (b.drop p)) (hlt : p < b.length) (hx : readS (b.drop p) = (key, k1, e1)) (hy : readS (b.drop (p + k1)) = (m, k2, e2)) (z1 : e1 = 0) (z2 : e2 = 0) (zp : ¬ key % 2 = 1) (zs : ¬ key < 2002) : AM Try.prog Try.f33.ntmps k33_25 (LQ (rdI b H kl) (n + 1) (rdQ b H)) [(0, V.sl 1 (byteCells b) .no), (5, v), (6, V.ptr kl 0), (7, .int .i64 p)] H2 := by
  obtain ⟨g1, g2, g3, g4⟩ := fieldS_len (b.drop p)
  rw [List.length_drop] at g1 g4
  have hne : b.drop p ≠ [] := by intro e; have := congrArg List.length e; simp at this; omega
  simp only [decL, if_neg hne] at he
  have htk : (b.drop p).take (b.length - p) = b.drop p := List.take_of_length_le (by simp)
  have hrc := read_cases (b.drop p)
  rw [hx, List.length_drop] at hrc
  simp only at hrc
  have hk1 : p + k1 ≤ b.length := by omega
  have htk2 : (b.drop (p + k1)).take (b.length - (p + k1)) = b.drop (p + k1) := List.take_of_length_le (by simp)
  have hrc2 := read_cases (b.drop (p + k1))
  rw [hy, List.length_drop] at hrc2
  simp only at hrc2
  have hfs : fieldS (b.drop p) = if e1 ≠ 0 then (f0, e1, k1) else if e2 ≠ 0 then (f0, e2, k1 + k2) else if key % 2 ≠ 1 then (⟨((min (key / 2) 1001 : Nat) : Int), false, m, []⟩, 0, k1 + k2) else
      if (b.drop p).length - (k1 + k2) < m then (f0, 5, k1 + k2) else (⟨((min (key / 2) 1001 : Nat) : Int), true, 0, ((b.drop p).drop (k1 + k2)).take m⟩, 0, k1 + k2 + m) := by
    simp only [fieldS, hx, List.drop_drop, hy]
  have r1 := fun H => rread_calls (b := b.drop p) (t := .no) (by simp; omega) H
  rw [hx] at r1
  have r2 := fun H => rread_calls (b := b.drop (p + k1)) (t := .no) (by simp; omega) H
  rw [hy] at r2
  simp only at r1 r2
  have tn : ∀ a c : Nat, ((a : Int) + (c : Int)).toNat = a + c := by intro a c; omega
  have hle := hacc.le
  have tn3 : ∀ a c d : Nat, ((a : Int) + (c : Int) + (d : Int)).toNat = a + c + d := by intro a c d; omega
  have tn4 : ∀ a c d e : Nat, ((a : Int) + (c : Int) + (d : Int) + (e : Int)).toNat = a + c + d + e := by intro a c d e; omega
  have hlen : (b.drop p).length = b.length - p := List.length_drop
  have hdd : (b.drop p).drop (k1 + k2) = b.drop (p + k1 + k2) := by rw [List.drop_drop, Nat.add_assoc]
  have turn : ∀ (v' : V) (H3 : AH) (l' : List Fld) (q : AObj), AccP H 4 (fldsE l') v' H3 → H3 kl = some (.cells (fldC last)) → AccP H 4 (fldsE l') v' (H3.put kl q) := fun v' H3 l' q h1 h2 => AccP.turn h1 hkl h2 q
  have hf : fieldS (b.drop p) = (⟨1001, false, m, []⟩, 0, k1 + k2) := by
    rw [hfs, if_neg (by omega), if_neg (by omega), if_pos (by omega), show min (key / 2) 1001 = 1001 by omega]; rfl
  have fc := fun H => fits_calls (f := ⟨1001, false, m, []⟩) (l := last) H
  simp only [fldC] at fc
  rw [hf] at he
  simp only [ne_eq, not_true_eq_false, if_false] at he
  generalize hF : fitsF ⟨1001, false, m, []⟩ last = F at he fc
  cases F
  · rw [if_pos rfl] at he
    repeat' (first | (with_reducible refine AM.subN4 ?_ rfl) | with_reducible (first | refine am_seq ?_ | refine am_block ?_) | ((with_reducible apply am_cond); (case hb => rfl); all_goals (intro hc; (try simp only [reduceCtorEq, bD, beq_iff_eq] at hc); (try (exfalso; omega)))) | ((first | with_reducible (first | refine am_reg ?_ | refine am_skip ?_ | refine am_exit ?_ | refine am_ret ?_ | refine vc_intro ?_ | refine need_elems (by assumption) ?_ | refine vlen_acc (by assumption) ?_ | refine need_bytes (by assumption) ?_ | refine call_of (r1) ?_ | refine qcall_of (r1) ?_ | refine call_of (r2) ?_ | refine qcall_of (r2) ?_ | refine call_of (fc) ?_ | refine qcall_of (fc) ?_ | refine need_lk ?_) | ((with_reducible (first | apply gd_not | apply gd_of | apply gq_not | apply gq_of | apply pickB_of)) <;> intro hc <;> (try simp -implicitDefEqProofs (disch := omega) only [go_sem, hc, wrap_id, u64_id, tmod2, tdiv2, tn, tn3, tn4, htk, htk2, ite_self, Nat.add_sub_cancel_left, show decide (((key % 2 : Nat) : Int) = 1) = false from decide_eq_false (by omega)]) <;> (try simp only [reduceCtorEq, bD, beq_iff_eq] at hc) <;> (try (exfalso; omega))) | ((with_reducible refine alloc_intro (fun ko hko => ?_)) <;> (try have hne := fresh_ne (by assumption) hko) <;> (try have hnk := fresh_ne hk hko) <;> (try have hnk2 := fresh_ne hk2 hko) <;> (try simp only [AH.put_none] at hko)) | ((with_reducible (first | refine vapp_accL (by assumption) ?_ (fun v2 H2 hacc hlec => ?_) | refine vapp_accL (AccP.mono (by assumption) (AccP.le (by assumption))) ?_ (fun v2 H2 hacc hlec => ?_) | refine vapp_accL (AccP.new (by assumption) (by assumption) _) ?_ (fun v2 H2 hacc hlec => ?_))); · simp only [byteCells_length, List.length_cons, List.length_nil, List.length_map, List.length_append, fldsE_length]; omega) | done) <;> (try simp -implicitDefEqProofs (disch := omega) only [go_sem, wrap_id, u64_id, tmod2, tdiv2, tn, tn3, tn4, htk, htk2, ite_self, Nat.add_sub_cancel_left, show decide (((key % 2 : Nat) : Int) = 1) = false from decide_eq_false (by omega)])))
    rw [he]
    (refine drop_end (by (first | exact fun _ _ h => h | (intro s x h; first | exact no_sub _ h | exact nil_no _ h | exact AccP.sub (by assumption) _ _ h | (refine agg_sub rfl ?_ x h; repeat (first | exact .nil | refine .cons (fun _ h => h) ?_ | refine .cons (fun _ h => nil_no _ h) ?_ | refine .cons (fun _ h => no_sub _ h) ?_ | refine .cons (fun _ h => AccP.sub (by assumption) _ _ h) ?_)) | (refine tuple_sub ?_ x h; repeat (first | exact .nil | refine .cons (fun _ h => h) ?_ | refine .cons (fun _ h => nil_no _ h) ?_ | refine .cons (fun _ h => no_sub _ h) ?_ | refine .cons (fun _ h => AccP.sub (by assumption) _ _ h) ?_ | refine .cons (fun _ h => agg_sub rfl (by repeat (first | exact .nil | refine .cons (fun _ h => h) ?_ | refine .cons (fun _ h => nil_no _ h) ?_ | refine .cons (fun _ h => no_sub _ h) ?_ | refine .cons (fun _ h => AccP.sub (by assumption) _ _ h) ?_)) _ h) ?_))))) (by (repeat (first | exact AH.le_refl _ | assumption | exact AccP.le (by assumption) | refine AH.le_put ?_ (by first | assumption | exact none_of_le (by assumption) (by assumption) | exact And.right (by assumption) | exact And.right (And.right (by assumption))) _ | refine AH.le_trans ?_ (AccP.le (by assumption))))))
  · rw [if_neg (by simp)] at he
    repeat' (first | (with_reducible refine AM.subN4 ?_ rfl) | with_reducible (first | refine am_seq ?_ | refine am_block ?_) | ((with_reducible apply am_cond); (case hb => rfl); all_goals (intro hc; (try simp only [reduceCtorEq, bD, beq_iff_eq] at hc); (try (exfalso; omega)))) | ((first | with_reducible (first | refine am_reg ?_ | refine am_skip ?_ | refine am_exit ?_ | refine am_ret ?_ | refine vc_intro ?_ | refine need_elems (by assumption) ?_ | refine vlen_acc (by assumption) ?_ | refine need_bytes (by assumption) ?_ | refine call_of (r1) ?_ | refine qcall_of (r1) ?_ | refine call_of (r2) ?_ | refine qcall_of (r2) ?_ | refine call_of (fc) ?_ | refine qcall_of (fc) ?_ | refine need_lk ?_) | ((with_reducible (first | apply gd_not | apply gd_of | apply gq_not | apply gq_of | apply pickB_of)) <;> intro hc <;> (try simp -implicitDefEqProofs (disch := omega) only [go_sem, hc, wrap_id, u64_id, tmod2, tdiv2, tn, tn3, tn4, htk, htk2, ite_self, Nat.add_sub_cancel_left, show decide (((key % 2 : Nat) : Int) = 1) = false from decide_eq_false (by omega)]) <;> (try simp only [reduceCtorEq, bD, beq_iff_eq] at hc) <;> (try (exfalso; omega))) | ((with_reducible refine alloc_intro (fun ko hko => ?_)) <;> (try have hne := fresh_ne (by assumption) hko) <;> (try have hnk := fresh_ne hk hko) <;> (try have hnk2 := fresh_ne hk2 hko) <;> (try simp only [AH.put_none] at hko)) | ((with_reducible (first | refine vapp_accL (by assumption) ?_ (fun v2 H2 hacc hlec => ?_) | refine vapp_accL (AccP.mono (by assumption) (AccP.le (by assumption))) ?_ (fun v2 H2 hacc hlec => ?_) | refine vapp_accL (AccP.new (by assumption) (by assumption) _) ?_ (fun v2 H2 hacc hlec => ?_))); · simp only [byteCells_length, List.length_cons, List.length_nil, List.length_map, List.length_append, fldsE_length]; omega) | done) <;> (try simp -implicitDefEqProofs (disch := omega) only [go_sem, wrap_id, u64_id, tmod2, tdiv2, tn, tn3, tn4, htk, htk2, ite_self, Nat.add_sub_cancel_left, show decide (((key % 2 : Nat) : Int) = 1) = false from decide_eq_false (by omega)])))
    · rw [if_pos (by omega)] at he
      rw [he]
      (refine drop_end (by (first | exact fun _ _ h => h | (intro s x h; first | exact no_sub _ h | exact nil_no _ h | exact AccP.sub (by assumption) _ _ h | (refine agg_sub rfl ?_ x h; repeat (first | exact .nil | refine .cons (fun _ h => h) ?_ | refine .cons (fun _ h => nil_no _ h) ?_ | refine .cons (fun _ h => no_sub _ h) ?_ | refine .cons (fun _ h => AccP.sub (by assumption) _ _ h) ?_)) | (refine tuple_sub ?_ x h; repeat (first | exact .nil | refine .cons (fun _ h => h) ?_ | refine .cons (fun _ h => nil_no _ h) ?_ | refine .cons (fun _ h => no_sub _ h) ?_ | refine .cons (fun _ h => AccP.sub (by assumption) _ _ h) ?_ | refine .cons (fun _ h => agg_sub rfl (by repeat (first | exact .nil | refine .cons (fun _ h => h) ?_ | refine .cons (fun _ h => nil_no _ h) ?_ | refine .cons (fun _ h => no_sub _ h) ?_ | refine .cons (fun _ h => AccP.sub (by assumption) _ _ h) ?_)) _ h) ?_))))) (by (repeat (first | exact AH.le_refl _ | assumption | exact AccP.le (by assumption) | refine AH.le_put ?_ (by first | assumption | exact none_of_le (by assumption) (by assumption) | exact And.right (by assumption) | exact And.right (And.right (by assumption))) _ | refine AH.le_trans ?_ (AccP.le (by assumption))))))
    · rw [if_neg (by omega), List.drop_drop] at he
      have q1 : H2 kl = some (.cells (fldC last)) := look_lec (look_put hls (by assumption)) hlec
      refine need_look (look_lec (AH.put_same _ _ _) hlec) ?_
      simp -implicitDefEqProofs (disch := omega) only [go_sem]
      refine need_look q1 ?_
      simp -implicitDefEqProofs (disch := omega) only [go_sem]
      repeat' (first | with_reducible (first | refine am_seq ?_ | refine am_block ?_) | ((with_reducible apply am_cond); (case hb => rfl); all_goals (intro hc; (try simp only [reduceCtorEq, bD, beq_iff_eq] at hc); (try (exfalso; omega)))) | ((first | with_reducible (first | refine am_reg ?_ | refine am_skip ?_ | refine am_exit ?_ | refine am_ret ?_ | refine vc_intro ?_ | refine need_elems (by assumption) ?_ | refine vlen_acc (by assumption) ?_ | refine need_bytes (by assumption) ?_ | refine need_lk ?_) | ((with_reducible (first | apply gd_not | apply gd_of | apply gq_not | apply gq_of | apply pickB_of)) <;> intro hc <;> (try simp -implicitDefEqProofs (disch := omega) only [go_sem, hc]) <;> (try simp only [reduceCtorEq, bD, beq_iff_eq] at hc) <;> (try (exfalso; omega))) | ((with_reducible refine alloc_intro (fun ko hko => ?_)) <;> (try have hne := fresh_ne (by assumption) hko) <;> (try have hnk := fresh_ne hk hko) <;> (try have hnk2 := fresh_ne hk2 hko) <;> (try simp only [AH.put_none] at hko)) | ((with_reducible (first | refine vapp_accL (by assumption) ?_ (fun v2 H2 hacc hlec => ?_) | refine vapp_accL (AccP.mono (by assumption) (AccP.le (by assumption))) ?_ (fun v2 H2 hacc hlec => ?_) | refine vapp_accL (AccP.new (by assumption) (by assumption) _) ?_ (fun v2 H2 hacc hlec => ?_))); · simp only [byteCells_length, List.length_cons, List.length_nil, List.length_map, List.length_append, fldsE_length]; omega) | done) <;> (try simp -implicitDefEqProofs (disch := omega) only [go_sem])))
      refine ⟨n, by omega, p + (k1 + k2), v2, acc ++ [⟨1001, false, m, []⟩], ⟨1001, false, m, []⟩, by omega, by omega, by simp [Int.add_assoc], ?_, by first | exact AH.put_same _ _ _ | rfl, by simp; omega, he⟩
      rw [fldsE_append]
      exact AccP.turn hacc hkl q1 _
set_option maxHeartbeats 1000000 in
theorem rd_A {b : List UInt8} {H H2 : AH} {kl p n key k1 m k2 : Nat} {e1 e2 : Int} {v : V} {acc : List Fld} {last : Fld} (hb : b.length < 10000000) (h4 : ¬ 4096 < b.length) (hkl : H kl = none) (hp : p ≤ b.length) (hpn : b.length - p ≤ n + 1) (hacc : AccP H 4 (fldsE acc) v H2) (hls : H2 kl = some (.cells (fldC last))) (hal : acc.length ≤ 64) (he : decS b = decL (n + 1) acc last p (b.drop p)) (hlt : p < b.length) (hx : readS (b.drop p) = (key, k1, e1)) (hy : readS (b.drop (p + k1)) = (m, k2, e2)) (z1 : e1 = 0) (z2 : e2 = 0) (zp : key % 2 = 1) (zl : ¬ b.length - p - (k1 + k2) < m) (zs : key < 2002) : AM Try.prog Try.f33.ntmps k33_25 (LQ (rdI b H kl) (n + 1) (rdQ b H)) [(0, V.sl 1 (byteCells b) .no), (5, v), (6, V.ptr kl 0), (7, .int .i64 p)] H2 := by
  obtain ⟨g1, g2, g3, g4⟩ := fieldS_len (b.drop p)
  rw [List.length_drop] at g1 g4
  have hne : b.drop p ≠ [] := by intro e; have := congrArg List.length e; simp at this; omega
  simp only [decL, if_neg hne] at he
  have htk : (b.drop p).take (b.length - p) = b.drop p := List.take_of_length_le (by simp)
  have hrc := read_cases (b.drop p)
  rw [hx, List.length_drop] at hrc
  simp only at hrc
  have hk1 : p + k1 ≤ b.length := by omega
  have htk2 : (b.drop (p + k1)).take (b.length - (p + k1)) = b.drop (p + k1) := List.take_of_length_le (by simp)
  have hrc2 := read_cases (b.drop (p + k1))
  rw [hy, List.length_drop] at hrc2
  simp only at hrc2
  have hfs : fieldS (b.drop p) = if e1 ≠ 0 then (f0, e1, k1) else if e2 ≠ 0 then (f0, e2, k1 + k2) else if key % 2 ≠ 1 then (⟨((min (key / 2) 1001 : Nat) : Int), false, m, []⟩, 0, k1 + k2) else
      if (b.drop p).length - (k1 + k2) < m then (f0, 5, k1 + k2) else (⟨((min (key / 2) 1001 : Nat) : Int), true, 0, ((b.drop p).drop (k1 + k2)).take m⟩, 0, k1 + k2 + m) := by
    simp only [fieldS, hx, List.drop_drop, hy]
  have r1 := fun H => rread_calls (b := b.drop p) (t := .no) (by simp; omega) H
  rw [hx] at r1
  have r2 := fun H => rread_calls (b := b.drop (p + k1)) (t := .no) (by simp; omega) H
  rw [hy] at r2
  simp only at r1 r2
  have tn : ∀ a c : Nat, ((a : Int) + (c : Int)).toNat = a + c := by intro a c; omega
  have hle := hacc.le
  have tn3 : ∀ a c d : Nat, ((a : Int) + (c : Int) + (d : Int)).toNat = a + c + d := by intro a c d; omega
  have tn4 : ∀ a c d e : Nat, ((a : Int) + (c : Int) + (d : Int) + (e : Int)).toNat = a + c + d + e := by intro a c d e; omega
  have hlen : (b.drop p).length = b.length - p := List.length_drop
  have hdd : (b.drop p).drop (k1 + k2) = b.drop (p + k1 + k2) := by rw [List.drop_drop, Nat.add_assoc]
  have turn : ∀ (v' : V) (H3 : AH) (l' : List Fld) (q : AObj), AccP H 4 (fldsE l') v' H3 → H3 kl = some (.cells (fldC last)) → AccP H 4 (fldsE l') v' (H3.put kl q) := fun v' H3 l' q h1 h2 => AccP.turn h1 hkl h2 q
  have hf : fieldS (b.drop p) = (⟨((key / 2 : Nat) : Int), true, 0, (b.drop (p + k1 + k2)).take m⟩, 0, k1 + k2 + m) := by
    rw [hfs, if_neg (by omega), if_neg (by omega), if_neg (by omega), if_neg (by omega), hdd, show min (key / 2) 1001 = key / 2 by omega]
  have fc := fun H => fits_calls (f := ⟨((key / 2 : Nat) : Int), true, 0, (b.drop (p + k1 + k2)).take m⟩) (l := last) H
  simp only [fldC] at fc
  rw [hf] at he
  simp only [ne_eq, not_true_eq_false, if_false] at he
  generalize hF : fitsF ⟨((key / 2 : Nat) : Int), true, 0, (b.drop (p + k1 + k2)).take m⟩ last = F at he fc
  cases F
  · rw [if_pos rfl] at he
    repeat' (first | (with_reducible refine AM.subN4 ?_ rfl) | with_reducible (first | refine am_seq ?_ | refine am_block ?_) | ((with_reducible apply am_cond); (case hb => rfl); all_goals (intro hc; (try simp only [reduceCtorEq, bD, beq_iff_eq] at hc); (try (exfalso; omega)))) | ((first | with_reducible (first | refine am_reg ?_ | refine am_skip ?_ | refine am_exit ?_ | refine am_ret ?_ | refine vc_intro ?_ | refine need_elems (by assumption) ?_ | refine vlen_acc (by assumption) ?_ | refine need_bytes (by assumption) ?_ | refine call_of (r1) ?_ | refine qcall_of (r1) ?_ | refine call_of (r2) ?_ | refine qcall_of (r2) ?_ | refine call_of (fc) ?_ | refine qcall_of (fc) ?_ | refine need_lk ?_) | ((with_reducible (first | apply gd_not | apply gd_of | apply gq_not | apply gq_of | apply pickB_of)) <;> intro hc <;> (try simp -implicitDefEqProofs (disch := omega) only [go_sem, hc, wrap_id, u64_id, tmod2, tdiv2, tn, tn3, tn4, htk, htk2, ite_self, Nat.add_sub_cancel_left, show decide (((key % 2 : Nat) : Int) = 1) = true from decide_eq_true (by omega)]) <;> (try simp only [reduceCtorEq, bD, beq_iff_eq] at hc) <;> (try (exfalso; omega))) | ((with_reducible refine alloc_intro (fun ko hko => ?_)) <;> (try have hne := fresh_ne (by assumption) hko) <;> (try have hnk := fresh_ne hk hko) <;> (try have hnk2 := fresh_ne hk2 hko) <;> (try simp only [AH.put_none] at hko)) | ((with_reducible (first | refine vapp_accL (by assumption) ?_ (fun v2 H2 hacc hlec => ?_) | refine vapp_accL (AccP.mono (by assumption) (AccP.le (by assumption))) ?_ (fun v2 H2 hacc hlec => ?_) | refine vapp_accL (AccP.new (by assumption) (by assumption) _) ?_ (fun v2 H2 hacc hlec => ?_))); · simp only [byteCells_length, List.length_cons, List.length_nil, List.length_map, List.length_append, fldsE_length]; omega) | done) <;> (try simp -implicitDefEqProofs (disch := omega) only [go_sem, wrap_id, u64_id, tmod2, tdiv2, tn, tn3, tn4, htk, htk2, ite_self, Nat.add_sub_cancel_left, show decide (((key % 2 : Nat) : Int) = 1) = true from decide_eq_true (by omega)])))
    rw [he]
    (refine drop_end (by (first | exact fun _ _ h => h | (intro s x h; first | exact no_sub _ h | exact nil_no _ h | exact AccP.sub (by assumption) _ _ h | (refine agg_sub rfl ?_ x h; repeat (first | exact .nil | refine .cons (fun _ h => h) ?_ | refine .cons (fun _ h => nil_no _ h) ?_ | refine .cons (fun _ h => no_sub _ h) ?_ | refine .cons (fun _ h => AccP.sub (by assumption) _ _ h) ?_)) | (refine tuple_sub ?_ x h; repeat (first | exact .nil | refine .cons (fun _ h => h) ?_ | refine .cons (fun _ h => nil_no _ h) ?_ | refine .cons (fun _ h => no_sub _ h) ?_ | refine .cons (fun _ h => AccP.sub (by assumption) _ _ h) ?_ | refine .cons (fun _ h => agg_sub rfl (by repeat (first | exact .nil | refine .cons (fun _ h => h) ?_ | refine .cons (fun _ h => nil_no _ h) ?_ | refine .cons (fun _ h => no_sub _ h) ?_ | refine .cons (fun _ h => AccP.sub (by assumption) _ _ h) ?_)) _ h) ?_))))) (by (repeat (first | exact AH.le_refl _ | assumption | exact AccP.le (by assumption) | refine AH.le_put ?_ (by first | assumption | exact none_of_le (by assumption) (by assumption) | exact And.right (by assumption) | exact And.right (And.right (by assumption))) _ | refine AH.le_trans ?_ (AccP.le (by assumption))))))
  · rw [if_neg (by simp)] at he
    repeat' (first | (with_reducible refine AM.subN4 ?_ rfl) | with_reducible (first | refine am_seq ?_ | refine am_block ?_) | ((with_reducible apply am_cond); (case hb => rfl); all_goals (intro hc; (try simp only [reduceCtorEq, bD, beq_iff_eq] at hc); (try (exfalso; omega)))) | ((first | with_reducible (first | refine am_reg ?_ | refine am_skip ?_ | refine am_exit ?_ | refine am_ret ?_ | refine vc_intro ?_ | refine need_elems (by assumption) ?_ | refine vlen_acc (by assumption) ?_ | refine need_bytes (by assumption) ?_ | refine call_of (r1) ?_ | refine qcall_of (r1) ?_ | refine call_of (r2) ?_ | refine qcall_of (r2) ?_ | refine call_of (fc) ?_ | refine qcall_of (fc) ?_ | refine need_lk ?_) | ((with_reducible (first | apply gd_not | apply gd_of | apply gq_not | apply gq_of | apply pickB_of)) <;> intro hc <;> (try simp -implicitDefEqProofs (disch := omega) only [go_sem, hc, wrap_id, u64_id, tmod2, tdiv2, tn, tn3, tn4, htk, htk2, ite_self, Nat.add_sub_cancel_left, show decide (((key % 2 : Nat) : Int) = 1) = true from decide_eq_true (by omega)]) <;> (try simp only [reduceCtorEq, bD, beq_iff_eq] at hc) <;> (try (exfalso; omega))) | ((with_reducible refine alloc_intro (fun ko hko => ?_)) <;> (try have hne := fresh_ne (by assumption) hko) <;> (try have hnk := fresh_ne hk hko) <;> (try have hnk2 := fresh_ne hk2 hko) <;> (try simp only [AH.put_none] at hko)) | ((with_reducible (first | refine vapp_accL (by assumption) ?_ (fun v2 H2 hacc hlec => ?_) | refine vapp_accL (AccP.mono (by assumption) (AccP.le (by assumption))) ?_ (fun v2 H2 hacc hlec => ?_) | refine vapp_accL (AccP.new (by assumption) (by assumption) _) ?_ (fun v2 H2 hacc hlec => ?_))); · simp only [byteCells_length, List.length_cons, List.length_nil, List.length_map, List.length_append, fldsE_length]; omega) | done) <;> (try simp -implicitDefEqProofs (disch := omega) only [go_sem, wrap_id, u64_id, tmod2, tdiv2, tn, tn3, tn4, htk, htk2, ite_self, Nat.add_sub_cancel_left, show decide (((key % 2 : Nat) : Int) = 1) = true from decide_eq_true (by omega)])))
    · rw [if_pos (by omega)] at he
      rw [he]
      (refine drop_end (by (first | exact fun _ _ h => h | (intro s x h; first | exact no_sub _ h | exact nil_no _ h | exact AccP.sub (by assumption) _ _ h | (refine agg_sub rfl ?_ x h; repeat (first | exact .nil | refine .cons (fun _ h => h) ?_ | refine .cons (fun _ h => nil_no _ h) ?_ | refine .cons (fun _ h => no_sub _ h) ?_ | refine .cons (fun _ h => AccP.sub (by assumption) _ _ h) ?_)) | (refine tuple_sub ?_ x h; repeat (first | exact .nil | refine .cons (fun _ h => h) ?_ | refine .cons (fun _ h => nil_no _ h) ?_ | refine .cons (fun _ h => no_sub _ h) ?_ | refine .cons (fun _ h => AccP.sub (by assumption) _ _ h) ?_ | refine .cons (fun _ h => agg_sub rfl (by repeat (first | exact .nil | refine .cons (fun _ h => h) ?_ | refine .cons (fun _ h => nil_no _ h) ?_ | refine .cons (fun _ h => no_sub _ h) ?_ | refine .cons (fun _ h => AccP.sub (by assumption) _ _ h) ?_)) _ h) ?_))))) (by (repeat (first | exact AH.le_refl _ | assumption | exact AccP.le (by assumption) | refine AH.le_put ?_ (by first | assumption | exact none_of_le (by assumption) (by assumption) | exact And.right (by assumption) | exact And.right (And.right (by assumption))) _ | refine AH.le_trans ?_ (AccP.le (by assumption))))))
    · rw [if_neg (by omega), List.drop_drop] at he
      have q1 : H2 kl = some (.cells (fldC last)) := look_lec (look_put hls (by assumption)) hlec
      refine need_look (look_lec (AH.put_same _ _ _) hlec) ?_
      simp -implicitDefEqProofs (disch := omega) only [go_sem]
      refine need_look q1 ?_
      simp -implicitDefEqProofs (disch := omega) only [go_sem]
      repeat' (first | with_reducible (first | refine am_seq ?_ | refine am_block ?_) | ((with_reducible apply am_cond); (case hb => rfl); all_goals (intro hc; (try simp only [reduceCtorEq, bD, beq_iff_eq] at hc); (try (exfalso; omega)))) | ((first | with_reducible (first | refine am_reg ?_ | refine am_skip ?_ | refine am_exit ?_ | refine am_ret ?_ | refine vc_intro ?_ | refine need_elems (by assumption) ?_ | refine vlen_acc (by assumption) ?_ | refine need_bytes (by assumption) ?_ | refine need_lk ?_) | ((with_reducible (first | apply gd_not | apply gd_of | apply gq_not | apply gq_of | apply pickB_of)) <;> intro hc <;> (try simp -implicitDefEqProofs (disch := omega) only [go_sem, hc]) <;> (try simp only [reduceCtorEq, bD, beq_iff_eq] at hc) <;> (try (exfalso; omega))) | ((with_reducible refine alloc_intro (fun ko hko => ?_)) <;> (try have hne := fresh_ne (by assumption) hko) <;> (try have hnk := fresh_ne hk hko) <;> (try have hnk2 := fresh_ne hk2 hko) <;> (try simp only [AH.put_none] at hko)) | ((with_reducible (first | refine vapp_accL (by assumption) ?_ (fun v2 H2 hacc hlec => ?_) | refine vapp_accL (AccP.mono (by assumption) (AccP.le (by assumption))) ?_ (fun v2 H2 hacc hlec => ?_) | refine vapp_accL (AccP.new (by assumption) (by assumption) _) ?_ (fun v2 H2 hacc hlec => ?_))); · simp only [byteCells_length, List.length_cons, List.length_nil, List.length_map, List.length_append, fldsE_length]; omega) | done) <;> (try simp -implicitDefEqProofs (disch := omega) only [go_sem])))
      refine ⟨n, by omega, p + (k1 + k2 + m), v2, acc ++ [⟨((key / 2 : Nat) : Int), true, 0, (b.drop (p + k1 + k2)).take m⟩], ⟨((key / 2 : Nat) : Int), true, 0, (b.drop (p + k1 + k2)).take m⟩, by omega, by omega, by simp [Int.add_assoc], ?_, by first | exact AH.put_same _ _ _ | rfl, by simp; omega, he⟩
      rw [fldsE_append]
      exact AccP.turn hacc hkl q1 _
set_option maxHeartbeats 1000000 in
theorem rd_B {b : List UInt8} {H H2 : AH} {kl p n key k1 m k2 : Nat} {e1 e2 : Int} {v : V} {acc : List Fld} {last : Fld} (hb : b.length < 10000000) (h4 : ¬ 4096 < b.length) (hkl : H kl = none) (hp : p ≤ b.length) (hpn : b.length - p ≤ n + 1) (hacc : AccP H 4 (fldsE acc) v H2) (hls : H2 kl = some (.cells (fldC last))) (hal : acc.length ≤ 64) (he : decS b = decL (n + 1) acc last p (b.drop p)) (hlt : p < b.length) (hx : readS (b.drop p) = (key, k1, e1)) (hy : readS (b.drop (p + k1)) = (m, k2, e2)) (z1 : e1 = 0) (z2 : e2 = 0) (zp : key % 2 = 1) (zl : ¬ b.length - p - (k1 + k2) < m) (zs : ¬ key < 2002) : AM Try.prog Try.f33.ntmps k33_25 (LQ (rdI b H kl) (n + 1) (rdQ b H)) [(0, V.sl 1 (byteCells b) .no), (5, v), (6, V.ptr kl 0), (7, .int .i64 p)] H2 := by
  obtain ⟨g1, g2, g3, g4⟩ := fieldS_len (b.drop p)
  rw [List.length_drop] at g1 g4
  have hne : b.drop p ≠ [] := by intro e; have := congrArg List.length e; simp at this; omega
  simp only [decL, if_neg hne] at he
  have htk : (b.drop p).take (b.length - p) = b.drop p := List.take_of_length_le (by simp)
  have hrc := read_cases (b.drop p)
  rw [hx, List.length_drop] at hrc
  simp only at hrc
  have hk1 : p + k1 ≤ b.length := by omega
  have htk2 : (b.drop (p + k1)).take (b.length - (p + k1)) = b.drop (p + k1) := List.take_of_length_le (by simp)
  have hrc2 := read_cases (b.drop (p + k1))
  rw [hy, List.length_drop] at hrc2
  simp only at hrc2
  have hfs : fieldS (b.drop p) = if e1 ≠ 0 then (f0, e1, k1) else if e2 ≠ 0 then (f0, e2, k1 + k2) else if key % 2 ≠ 1 then (⟨((min (key / 2) 1001 : Nat) : Int), false, m, []⟩, 0, k1 + k2) else
      if (b.drop p).length - (k1 + k2) < m then (f0, 5, k1 + k2) else (⟨((min (key / 2) 1001 : Nat) : Int), true, 0, ((b.drop p).drop (k1 + k2)).take m⟩, 0, k1 + k2 + m) := by
    simp only [fieldS, hx, List.drop_drop, hy]
  have r1 := fun H => rread_calls (b := b.drop p) (t := .no) (by simp; omega) H
  rw [hx] at r1
  have r2 := fun H => rread_calls (b := b.drop (p + k1)) (t := .no) (by simp; omega) H
  rw [hy] at r2
  simp only at r1 r2
  have tn : ∀ a c : Nat, ((a : Int) + (c : Int)).toNat = a + c := by intro a c; omega
  have hle := hacc.le
  have tn3 : ∀ a c d : Nat, ((a : Int) + (c : Int) + (d : Int)).toNat = a + c + d := by intro a c d; omega
  have tn4 : ∀ a c d e : Nat, ((a : Int) + (c : Int) + (d : Int) + (e : Int)).toNat = a + c + d + e := by intro a c d e; omega
  have hlen : (b.drop p).length = b.length - p := List.length_drop
  have hdd : (b.drop p).drop (k1 + k2) = b.drop (p + k1 + k2) := by rw [List.drop_drop, Nat.add_assoc]
  have turn : ∀ (v' : V) (H3 : AH) (l' : List Fld) (q : AObj), AccP H 4 (fldsE l') v' H3 → H3 kl = some (.cells (fldC last)) → AccP H 4 (fldsE l') v' (H3.put kl q) := fun v' H3 l' q h1 h2 => AccP.turn h1 hkl h2 q
  have hf : fieldS (b.drop p) = (⟨1001, true, 0, (b.drop (p + k1 + k2)).take m⟩, 0, k1 + k2 + m) := by
    rw [hfs, if_neg (by omega), if_neg (by omega), if_neg (by omega), if_neg (by omega), hdd, show min (key / 2) 1001 = 1001 by omega]; rfl
  have fc := fun H => fits_calls (f := ⟨1001, true, 0, (b.drop (p + k1 + k2)).take m⟩) (l := last) H
  simp only [fldC] at fc
  rw [hf] at he
  simp only [ne_eq, not_true_eq_false, if_false] at he
  generalize hF : fitsF ⟨1001, true, 0, (b.drop (p + k1 + k2)).take m⟩ last = F at he fc
  cases F
  · rw [if_pos rfl] at he
    repeat' (first | (with_reducible refine AM.subN4 ?_ rfl) | with_reducible (first | refine am_seq ?_ | refine am_block ?_) | ((with_reducible apply am_cond); (case hb => rfl); all_goals (intro hc; (try simp only [reduceCtorEq, bD, beq_iff_eq] at hc); (try (exfalso; omega)))) | ((first | with_reducible (first | refine am_reg ?_ | refine am_skip ?_ | refine am_exit ?_ | refine am_ret ?_ | refine vc_intro ?_ | refine need_elems (by assumption) ?_ | refine vlen_acc (by assumption) ?_ | refine need_bytes (by assumption) ?_ | refine call_of (r1) ?_ | refine qcall_of (r1) ?_ | refine call_of (r2) ?_ | refine qcall_of (r2) ?_ | refine call_of (fc) ?_ | refine qcall_of (fc) ?_ | refine need_lk ?_) | ((with_reducible (first | apply gd_not | apply gd_of | apply gq_not | apply gq_of | apply pickB_of)) <;> intro hc <;> (try simp -implicitDefEqProofs (disch := omega) only [go_sem, hc, wrap_id, u64_id, tmod2, tdiv2, tn, tn3, tn4, htk, htk2, ite_self, Nat.add_sub_cancel_left, show decide (((key % 2 : Nat) : Int) = 1) = true from decide_eq_true (by omega)]) <;> (try simp only [reduceCtorEq, bD, beq_iff_eq] at hc) <;> (try (exfalso; omega))) | ((with_reducible refine alloc_intro (fun ko hko => ?_)) <;> (try have hne := fresh_ne (by assumption) hko) <;> (try have hnk := fresh_ne hk hko) <;> (try have hnk2 := fresh_ne hk2 hko) <;> (try simp only [AH.put_none] at hko)) | ((with_reducible (first | refine vapp_accL (by assumption) ?_ (fun v2 H2 hacc hlec => ?_) | refine vapp_accL (AccP.mono (by assumption) (AccP.le (by assumption))) ?_ (fun v2 H2 hacc hlec => ?_) | refine vapp_accL (AccP.new (by assumption) (by assumption) _) ?_ (fun v2 H2 hacc hlec => ?_))); · simp only [byteCells_length, List.length_cons, List.length_nil, List.length_map, List.length_append, fldsE_length]; omega) | done) <;> (try simp -implicitDefEqProofs (disch := omega) only [go_sem, wrap_id, u64_id, tmod2, tdiv2, tn, tn3, tn4, htk, htk2, ite_self, Nat.add_sub_cancel_left, show decide (((key % 2 : Nat) : Int) = 1) = true from decide_eq_true (by omega)])))
    rw [he]
    (refine drop_end (by (first | exact fun _ _ h => h | (intro s x h; first | exact no_sub _ h | exact nil_no _ h | exact AccP.sub (by assumption) _ _ h | (refine agg_sub rfl ?_ x h; repeat (first | exact .nil | refine .cons (fun _ h => h) ?_ | refine .cons (fun _ h => nil_no _ h) ?_ | refine .cons (fun _ h => no_sub _ h) ?_ | refine .cons (fun _ h => AccP.sub (by assumption) _ _ h) ?_)) | (refine tuple_sub ?_ x h; repeat (first | exact .nil | refine .cons (fun _ h => h) ?_ | refine .cons (fun _ h => nil_no _ h) ?_ | refine .cons (fun _ h => no_sub _ h) ?_ | refine .cons (fun _ h => AccP.sub (by assumption) _ _ h) ?_ | refine .cons (fun _ h => agg_sub rfl (by repeat (first | exact .nil | refine .cons (fun _ h => h) ?_ | refine .cons (fun _ h => nil_no _ h) ?_ | refine .cons (fun _ h => no_sub _ h) ?_ | refine .cons (fun _ h => AccP.sub (by assumption) _ _ h) ?_)) _ h) ?_))))) (by (repeat (first | exact AH.le_refl _ | assumption | exact AccP.le (by assumption) | refine AH.le_put ?_ (by first | assumption | exact none_of_le (by assumption) (by assumption) | exact And.right (by assumption) | exact And.right (And.right (by assumption))) _ | refine AH.le_trans ?_ (AccP.le (by assumption))))))
  · rw [if_neg (by simp)] at he
    repeat' (first | (with_reducible refine AM.subN4 ?_ rfl) | with_reducible (first | refine am_seq ?_ | refine am_block ?_) | ((with_reducible apply am_cond); (case hb => rfl); all_goals (intro hc; (try simp only [reduceCtorEq, bD, beq_iff_eq] at hc); (try (exfalso; omega)))) | ((first | with_reducible (first | refine am_reg ?_ | refine am_skip ?_ | refine am_exit ?_ | refine am_ret ?_ | refine vc_intro ?_ | refine need_elems (by assumption) ?_ | refine vlen_acc (by assumption) ?_ | refine need_bytes (by assumption) ?_ | refine call_of (r1) ?_ | refine qcall_of (r1) ?_ | refine call_of (r2) ?_ | refine qcall_of (r2) ?_ | refine call_of (fc) ?_ | refine qcall_of (fc) ?_ | refine need_lk ?_) | ((with_reducible (first | apply gd_not | apply gd_of | apply gq_not | apply gq_of | apply pickB_of)) <;> intro hc <;> (try simp -implicitDefEqProofs (disch := omega) only [go_sem, hc, wrap_id, u64_id, tmod2, tdiv2, tn, tn3, tn4, htk, htk2, ite_self, Nat.add_sub_cancel_left, show decide (((key % 2 : Nat) : Int) = 1) = true from decide_eq_true (by omega)]) <;> (try simp only [reduceCtorEq, bD, beq_iff_eq] at hc) <;> (try (exfalso; omega))) | ((with_reducible refine alloc_intro (fun ko hko => ?_)) <;> (try have hne := fresh_ne (by assumption) hko) <;> (try have hnk := fresh_ne hk hko) <;> (try have hnk2 := fresh_ne hk2 hko) <;> (try simp only [AH.put_none] at hko)) | ((with_reducible (first | refine vapp_accL (by assumption) ?_ (fun v2 H2 hacc hlec => ?_) | refine vapp_accL (AccP.mono (by assumption) (AccP.le (by assumption))) ?_ (fun v2 H2 hacc hlec => ?_) | refine vapp_accL (AccP.new (by assumption) (by assumption) _) ?_ (fun v2 H2 hacc hlec => ?_))); · simp only [byteCells_length, List.length_cons, List.length_nil, List.length_map, List.length_append, fldsE_length]; omega) | done) <;> (try simp -implicitDefEqProofs (disch := omega) only [go_sem, wrap_id, u64_id, tmod2, tdiv2, tn, tn3, tn4, htk, htk2, ite_self, Nat.add_sub_cancel_left, show decide (((key % 2 : Nat) : Int) = 1) = true from decide_eq_true (by omega)])))
    · rw [if_pos (by omega)] at he
      rw [he]
      (refine drop_end (by (first | exact fun _ _ h => h | (intro s x h; first | exact no_sub _ h | exact nil_no _ h | exact AccP.sub (by assumption) _ _ h | (refine agg_sub rfl ?_ x h; repeat (first | exact .nil | refine .cons (fun _ h => h) ?_ | refine .cons (fun _ h => nil_no _ h) ?_ | refine .cons (fun _ h => no_sub _ h) ?_ | refine .cons (fun _ h => AccP.sub (by assumption) _ _ h) ?_)) | (refine tuple_sub ?_ x h; repeat (first | exact .nil | refine .cons (fun _ h => h) ?_ | refine .cons (fun _ h => nil_no _ h) ?_ | refine .cons (fun _ h => no_sub _ h) ?_ | refine .cons (fun _ h => AccP.sub (by assumption) _ _ h) ?_ | refine .cons (fun _ h => agg_sub rfl (by repeat (first | exact .nil | refine .cons (fun _ h => h) ?_ | refine .cons (fun _ h => nil_no _ h) ?_ | refine .cons (fun _ h => no_sub _ h) ?_ | refine .cons (fun _ h => AccP.sub (by assumption) _ _ h) ?_)) _ h) ?_))))) (by (repeat (first | exact AH.le_refl _ | assumption | exact AccP.le (by assumption) | refine AH.le_put ?_ (by first | assumption | exact none_of_le (by assumption) (by assumption) | exact And.right (by assumption) | exact And.right (And.right (by assumption))) _ | refine AH.le_trans ?_ (AccP.le (by assumption))))))
    · rw [if_neg (by omega), List.drop_drop] at he
      have q1 : H2 kl = some (.cells (fldC last)) := look_lec (look_put hls (by assumption)) hlec
      refine need_look (look_lec (AH.put_same _ _ _) hlec) ?_
      simp -implicitDefEqProofs (disch := omega) only [go_sem]
      refine need_look q1 ?_
      simp -implicitDefEqProofs (disch := omega) only [go_sem]
      repeat' (first | with_reducible (first | refine am_seq ?_ | refine am_block ?_) | ((with_reducible apply am_cond); (case hb => rfl); all_goals (intro hc; (try simp only [reduceCtorEq, bD, beq_iff_eq] at hc); (try (exfalso; omega)))) | ((first | with_reducible (first | refine am_reg ?_ | refine am_skip ?_ | refine am_exit ?_ | refine am_ret ?_ | refine vc_intro ?_ | refine need_elems (by assumption) ?_ | refine vlen_acc (by assumption) ?_ | refine need_bytes (by assumption) ?_ | refine need_lk ?_) | ((with_reducible (first | apply gd_not | apply gd_of | apply gq_not | apply gq_of | apply pickB_of)) <;> intro hc <;> (try simp -implicitDefEqProofs (disch := omega) only [go_sem, hc]) <;> (try simp only [reduceCtorEq, bD, beq_iff_eq] at hc) <;> (try (exfalso; omega))) | ((with_reducible refine alloc_intro (fun ko hko => ?_)) <;> (try have hne := fresh_ne (by assumption) hko) <;> (try have hnk := fresh_ne hk hko) <;> (try have hnk2 := fresh_ne hk2 hko) <;> (try simp only [AH.put_none] at hko)) | ((with_reducible (first | refine vapp_accL (by assumption) ?_ (fun v2 H2 hacc hlec => ?_) | refine vapp_accL (AccP.mono (by assumption) (AccP.le (by assumption))) ?_ (fun v2 H2 hacc hlec => ?_) | refine vapp_accL (AccP.new (by assumption) (by assumption) _) ?_ (fun v2 H2 hacc hlec => ?_))); · simp only [byteCells_length, List.length_cons, List.length_nil, List.length_map, List.length_append, fldsE_length]; omega) | done) <;> (try simp -implicitDefEqProofs (disch := omega) only [go_sem])))
      refine ⟨n, by omega, p + (k1 + k2 + m), v2, acc ++ [⟨1001, true, 0, (b.drop (p + k1 + k2)).take m⟩], ⟨1001, true, 0, (b.drop (p + k1 + k2)).take m⟩, by omega, by omega, by simp [Int.add_assoc], ?_, by first | exact AH.put_same _ _ _ | rfl, by simp; omega, he⟩
      rw [fldsE_append]
      exact AccP.turn hacc hkl q1 _
theorem rdecode_no {b : List UInt8} (hb : b.length < 10000000) (H : AH) :
    ACalls Try.prog 33 [.sl 1 (byteCells b) .no] H (fun o H' => o = .ret (.tuple [.sl 4 (fldsE (decS b).1) .no, .int .i64 (decS b).2.1, .int .i64 (decS b).2.2]) ∧ H' = H) := by
  refine ACalls.drop ?_
  refine acalls Try.func33 c33 r33 (by simp [Try.ntmps33]) ?_
  by_cases h4 : 4096 < b.length
  · repeat' (first | with_reducible (first | refine am_seq ?_ | refine am_block ?_) | ((with_reducible apply am_cond); (case hb => rfl); all_goals (intro hc; (try simp only [reduceCtorEq, bD, beq_iff_eq] at hc); (try (exfalso; omega)))) | ((first | with_reducible (first | refine am_reg ?_ | refine am_skip ?_ | refine am_exit ?_ | refine am_ret ?_ | refine vc_intro ?_ | refine need_elems (by assumption) ?_ | refine vlen_acc (by assumption) ?_ | refine need_bytes (by assumption) ?_ | refine need_lk ?_) | ((with_reducible (first | apply gd_not | apply gd_of | apply gq_not | apply gq_of | apply pickB_of)) <;> intro hc <;> (try simp -implicitDefEqProofs (disch := omega) only [go_sem, hc, wrap_id]) <;> (try simp only [reduceCtorEq, bD, beq_iff_eq] at hc) <;> (try (exfalso; omega))) | ((with_reducible refine alloc_intro (fun ko hko => ?_)) <;> (try have hne := fresh_ne (by assumption) hko) <;> (try have hnk := fresh_ne hk hko) <;> (try have hnk2 := fresh_ne hk2 hko) <;> (try simp only [AH.put_none] at hko)) | ((with_reducible (first | refine vapp_accL (by assumption) ?_ (fun v2 H2 hacc hlec => ?_) | refine vapp_accL (AccP.mono (by assumption) (AccP.le (by assumption))) ?_ (fun v2 H2 hacc hlec => ?_) | refine vapp_accL (AccP.new (by assumption) (by assumption) _) ?_ (fun v2 H2 hacc hlec => ?_))); · simp only [byteCells_length, List.length_cons, List.length_nil, List.length_map, List.length_append, fldsE_length]; omega) | done) <;> (try simp -implicitDefEqProofs (disch := omega) only [go_sem, wrap_id])))
    rw [show decS b = ([], 0, 3) by rw [decS, if_pos h4]]
    (refine drop_end (by (first | exact fun _ _ h => h | (intro s x h; first | exact no_sub _ h | exact nil_no _ h | exact AccP.sub (by assumption) _ _ h | (refine agg_sub rfl ?_ x h; repeat (first | exact .nil | refine .cons (fun _ h => h) ?_ | refine .cons (fun _ h => nil_no _ h) ?_ | refine .cons (fun _ h => no_sub _ h) ?_ | refine .cons (fun _ h => AccP.sub (by assumption) _ _ h) ?_)) | (refine tuple_sub ?_ x h; repeat (first | exact .nil | refine .cons (fun _ h => h) ?_ | refine .cons (fun _ h => nil_no _ h) ?_ | refine .cons (fun _ h => no_sub _ h) ?_ | refine .cons (fun _ h => AccP.sub (by assumption) _ _ h) ?_ | refine .cons (fun _ h => agg_sub rfl (by repeat (first | exact .nil | refine .cons (fun _ h => h) ?_ | refine .cons (fun _ h => nil_no _ h) ?_ | refine .cons (fun _ h => no_sub _ h) ?_ | refine .cons (fun _ h => AccP.sub (by assumption) _ _ h) ?_)) _ h) ?_))))) (by (repeat (first | exact AH.le_refl _ | assumption | exact AccP.le (by assumption) | refine AH.le_put ?_ (by first | assumption | exact none_of_le (by assumption) (by assumption) | exact And.right (by assumption) | exact And.right (And.right (by assumption))) _ | refine AH.le_trans ?_ (AccP.le (by assumption))))))
  · repeat' (first | with_reducible (first | refine am_seq ?_ | refine am_block ?_) | ((with_reducible apply am_cond); (case hb => rfl); all_goals (intro hc; (try simp only [reduceCtorEq, bD, beq_iff_eq] at hc); (try (exfalso; omega)))) | ((first | with_reducible (first | refine am_reg ?_ | refine am_skip ?_ | refine am_exit ?_ | refine am_ret ?_ | refine vc_intro ?_ | refine need_elems (by assumption) ?_ | refine vlen_acc (by assumption) ?_ | refine need_bytes (by assumption) ?_ | refine need_lk ?_) | ((with_reducible (first | apply gd_not | apply gd_of | apply gq_not | apply gq_of | apply pickB_of)) <;> intro hc <;> (try simp -implicitDefEqProofs (disch := omega) only [go_sem, hc, wrap_id]) <;> (try simp only [reduceCtorEq, bD, beq_iff_eq] at hc) <;> (try (exfalso; omega))) | ((with_reducible refine alloc_intro (fun ko hko => ?_)) <;> (try have hne := fresh_ne (by assumption) hko) <;> (try have hnk := fresh_ne hk hko) <;> (try have hnk2 := fresh_ne hk2 hko) <;> (try simp only [AH.put_none] at hko)) | ((with_reducible (first | refine vapp_accL (by assumption) ?_ (fun v2 H2 hacc hlec => ?_) | refine vapp_accL (AccP.mono (by assumption) (AccP.le (by assumption))) ?_ (fun v2 H2 hacc hlec => ?_) | refine vapp_accL (AccP.new (by assumption) (by assumption) _) ?_ (fun v2 H2 hacc hlec => ?_))); · simp only [byteCells_length, List.length_cons, List.length_nil, List.length_map, List.length_append, fldsE_length]; omega) | done) <;> (try simp -implicitDefEqProofs (disch := omega) only [go_sem, wrap_id])))
    revert ko
    intro kl hkl
    have hdec : decS b = decL b.length [] f0 0 b := by rw [decS, if_neg h4]
    refine AM.subC (ds := fldC f0) ?_ (AH.put_same _ _ _) rfl (fun s => by repeat (first | exact .nil | refine .cons (fun _ h => h) ?_ | refine .cons (fun _ h => nil_no _ h) ?_ | refine .cons (fun _ h => no_sub _ h) ?_ | refine .cons (fun _ h => AccP.sub (by assumption) _ _ h) ?_))
    rw [AH.put_put]
    refine am_loop (rdI b H kl) ?_ b.length ⟨0, .nilSl, [], f0, by omega, by omega, rfl, ⟨AH.le_put (AH.le_refl _) hkl _, .inl ⟨rfl, rfl⟩⟩, AH.put_same _ _ _, by simp, by rw [hdec]; simp⟩
    rintro n a H2 ⟨p, v, acc, last, hp, hpn, rfl, hacc, hls, hal, he⟩
    by_cases hlt : p < b.length
    · obtain ⟨n, rfl⟩ : ∃ m, n = m + 1 := ⟨n - 1, by omega⟩
      rcases hx : readS (b.drop p) with ⟨key, k1, e1⟩
      rcases hy : readS (b.drop (p + k1)) with ⟨m, k2, e2⟩
      by_cases z1 : e1 = 0
      · by_cases z2 : e2 = 0
        · by_cases zp : key % 2 = 1
          · by_cases zl : b.length - p - (k1 + k2) < m
            · exact rd_E hb h4 hkl hp hpn hacc hls hal he hlt hx hy z1 z2 zp zl
            · by_cases zs : key < 2002
              · exact rd_A hb h4 hkl hp hpn hacc hls hal he hlt hx hy z1 z2 zp zl zs
              · exact rd_B hb h4 hkl hp hpn hacc hls hal he hlt hx hy z1 z2 zp zl zs
          · by_cases zs : key < 2002
            · exact rd_C hb h4 hkl hp hpn hacc hls hal he hlt hx hy z1 z2 zp zs
            · exact rd_D hb h4 hkl hp hpn hacc hls hal he hlt hx hy z1 z2 zp zs
        · exact rd_G hb h4 hkl hp hpn hacc hls hal he hlt hx hy z1 z2
      · exact rd_K hb h4 hkl hp hpn hacc hls hal he hlt hx hy z1
    · repeat' (first | with_reducible (first | refine am_seq ?_ | refine am_block ?_) | ((with_reducible apply am_cond); (case hb => rfl); all_goals (intro hc; (try simp only [reduceCtorEq, bD, beq_iff_eq] at hc); (try (exfalso; omega)))) | ((first | with_reducible (first | refine am_reg ?_ | refine am_skip ?_ | refine am_exit ?_ | refine am_ret ?_ | refine vc_intro ?_ | refine need_elems (by assumption) ?_ | refine vlen_acc (by assumption) ?_ | refine need_bytes (by assumption) ?_ | refine need_lk ?_) | ((with_reducible (first | apply gd_not | apply gd_of | apply gq_not | apply gq_of | apply pickB_of)) <;> intro hc <;> (try simp -implicitDefEqProofs (disch := omega) only [go_sem, hc, wrap_id]) <;> (try simp only [reduceCtorEq, bD, beq_iff_eq] at hc) <;> (try (exfalso; omega))) | ((with_reducible refine alloc_intro (fun ko hko => ?_)) <;> (try have hne := fresh_ne (by assumption) hko) <;> (try have hnk := fresh_ne hk hko) <;> (try have hnk2 := fresh_ne hk2 hko) <;> (try simp only [AH.put_none] at hko)) | ((with_reducible (first | refine vapp_accL (by assumption) ?_ (fun v2 H2 hacc hlec => ?_) | refine vapp_accL (AccP.mono (by assumption) (AccP.le (by assumption))) ?_ (fun v2 H2 hacc hlec => ?_) | refine vapp_accL (AccP.new (by assumption) (by assumption) _) ?_ (fun v2 H2 hacc hlec => ?_))); · simp only [byteCells_length, List.length_cons, List.length_nil, List.length_map, List.length_append, fldsE_length]; omega) | done) <;> (try simp -implicitDefEqProofs (disch := omega) only [go_sem, wrap_id])))
      have : b.drop p = [] := List.drop_eq_nil_of_le (by omega)
      have he2 : decS b = (acc, (acc.length : Int), 0) := by rw [he, this]; cases n <;> simp [decL]
      rw [he2]
      (refine drop_end (by (first | exact fun _ _ h => h | (intro s x h; first | exact no_sub _ h | exact nil_no _ h | exact AccP.sub (by assumption) _ _ h | (refine agg_sub rfl ?_ x h; repeat (first | exact .nil | refine .cons (fun _ h => h) ?_ | refine .cons (fun _ h => nil_no _ h) ?_ | refine .cons (fun _ h => no_sub _ h) ?_ | refine .cons (fun _ h => AccP.sub (by assumption) _ _ h) ?_)) | (refine tuple_sub ?_ x h; repeat (first | exact .nil | refine .cons (fun _ h => h) ?_ | refine .cons (fun _ h => nil_no _ h) ?_ | refine .cons (fun _ h => no_sub _ h) ?_ | refine .cons (fun _ h => AccP.sub (by assumption) _ _ h) ?_ | refine .cons (fun _ h => agg_sub rfl (by repeat (first | exact .nil | refine .cons (fun _ h => h) ?_ | refine .cons (fun _ h => nil_no _ h) ?_ | refine .cons (fun _ h => no_sub _ h) ?_ | refine .cons (fun _ h => AccP.sub (by assumption) _ _ h) ?_)) _ h) ?_))))) (by (repeat (first | exact AH.le_refl _ | assumption | exact AccP.le (by assumption) | refine AH.le_put ?_ (by first | assumption | exact none_of_le (by assumption) (by assumption) | exact And.right (by assumption) | exact And.right (And.right (by assumption))) _ | refine AH.le_trans ?_ (AccP.le (by assumption))))))
end Go.Proofs.Ytjlphncecdlmcaa
