/- Of the walks of this seat: contracts of functions of the given program, proved over the abstract values of the texts Vm. Conditions: as each theorem says. -/
import Derived.Test.YtmomncmddejcoaaB9
import Derived.Test.YtmomncmddejcoaaM3
set_option linter.unusedVariables false
set_option linter.unusedSimpArgs false
namespace Go.Proofs.Ytmomncmddejcoaa
open Go.Vm
attribute [local go_sem] byteCells_get byteCells_length byteCells_take byteCells_drop bytes_cells fldC fldsE_get fldsE_length List.drop_zero bytesOf_cells toNat_succ Nat.sub_zero Int.toNat_natCast Option.map_some Int.natCast_nonneg decide_eq_true_eq decide_eq_false_iff_not
/- flange/flangelaw02.awake -/
abbrev k20_0 : MC :=
  (.seq (.reg [
    ⟨(some 18), none, .val (.mv (.t 1))⟩,
    ⟨(some 19), none, .val (.len .sl (.t 18))⟩,
    ⟨(some 20), none, .val (.bin .eql .num (.t 19) (.c (.int .i64 2)))⟩,
    ⟨(some 21), none, .val (.mv (.t 20))⟩,
    ⟨(some 22), (some (21, true)), .val (.mv (.t 1))⟩,
    ⟨(some 23), (some (21, true)), .val (.iaddr 1 (.t 22) (.c (.int .i64 0)))⟩,
    ⟨(some 24), (some (21, true)), .val (.load false 1 (.t 23))⟩,
    ⟨(some 25), (some (21, true)), .val (.bin .eql .num (.t 24) (.c (.int .u8 2)))⟩,
    ⟨(some 26), none, .val (.pick (.t 21) (.t 25) (.c (.bool false)))⟩,
    ⟨(some 27), none, .val (.mv (.t 26))⟩,
    ⟨(some 28), (some (27, true)), .val (.mv (.t 1))⟩,
    ⟨(some 29), (some (27, true)), .val (.iaddr 1 (.t 28) (.c (.int .i64 1)))⟩,
    ⟨(some 30), (some (27, true)), .val (.load false 1 (.t 29))⟩,
    ⟨(some 31), (some (27, true)), .val (.bin .eql .num (.t 30) (.c (.int .u8 5)))⟩,
    ⟨(some 32), none, .val (.pick (.t 27) (.t 31) (.c (.bool false)))⟩,
    ⟨(some 33), none, .val (.mv (.t 32))⟩,
    ⟨(some 34), (some (33, true)), .val (.mv (.t 2))⟩,
    ⟨(some 35), (some (33, true)), .val (.bin .eql .num (.t 34) (.c (.int .i64 0)))⟩,
    ⟨(some 36), none, .val (.pick (.t 33) (.t 35) (.c (.bool false)))⟩,
    ⟨(some 37), none, .val (.mv (.t 36))⟩,
    ⟨(some 38), (some (37, true)), .val (.mv (.t 4))⟩,
    ⟨(some 39), (some (37, true)), .val (.bin .eql .num (.t 38) (.c (.int .i64 1)))⟩,
    ⟨(some 40), none, .val (.pick (.t 37) (.t 39) (.c (.bool false)))⟩,
    ⟨(some 41), none, .val (.mv (.t 40))⟩,
    ⟨(some 42), (some (41, true)), .val (.mv (.t 5))⟩,
    ⟨(some 43), (some (41, true)), .val (.bin .eql .num (.t 42) (.c (.int .i64 0)))⟩,
    ⟨(some 44), none, .val (.pick (.t 41) (.t 43) (.c (.bool false)))⟩,
    ⟨(some 45), none, .val (.mv (.t 44))⟩,
    ⟨(some 46), (some (45, true)), .val (.mv (.t 3))⟩,
    ⟨(some 47), (some (45, true)), .val (.len .sl (.t 46))⟩,
    ⟨(some 48), (some (45, true)), .val (.bin .eql .num (.t 47) (.c (.int .i64 1)))⟩,
    ⟨(some 49), none, .val (.pick (.t 45) (.t 48) (.c (.bool false)))⟩,
    ⟨(some 50), none, .val (.mv (.t 49))⟩,
    ⟨(some 51), (some (50, true)), .val (.mv (.t 3))⟩,
    ⟨(some 52), (some (50, true)), .val (.iaddr 4 (.t 51) (.c (.int .i64 0)))⟩,
    ⟨(some 53), (some (50, true)), .val (.faddr 2 (.t 52))⟩,
    ⟨(some 54), (some (50, true)), .val (.load false 1 (.t 53))⟩,
    ⟨(some 55), (some (50, true)), .val (.bin .eql .num (.t 54) (.c (.int .u64 5)))⟩,
    ⟨(some 56), none, .val (.pick (.t 50) (.t 55) (.c (.bool false)))⟩,
    ⟨(some 0), none, .val (.mv (.t 56))⟩] [0]) .ret)

abbrev k20_1 : MC :=
  (.seq (.reg [
    ⟨(some 13), none, .val (.mv (.t 1))⟩,
    ⟨(some 14), none, .call 24 [(.t 13)]⟩,
    ⟨(some 12), none, .val (.mv (.t 14))⟩,
    ⟨(some 15), none, .val (.ext (.t 12) 0)⟩,
    ⟨(some 16), none, .val (.ext (.t 12) 1)⟩,
    ⟨(some 17), none, .val (.ext (.t 12) 2)⟩,
    ⟨(some 3), none, .val (.mv (.t 15))⟩,
    ⟨(some 4), none, .val (.mv (.t 16))⟩,
    ⟨(some 5), none, .val (.mv (.t 17))⟩] [1, 2, 3, 4, 5]) k20_0)

abbrev k20_2 : MC :=
  (.seq (.reg [
    ⟨(some 7), none, .call 27 [(.c (.int .i64 1)), (.c (.int .u64 5))]⟩,
    ⟨(some 8), none, .bslice 4 1 [(.int .i64 0), (.bool false), (.int .u64 0), .nilSl] [(0, 4, (.t 7))]⟩,
    ⟨(some 9), none, .call 21 [(.t 8)]⟩,
    ⟨(some 6), none, .val (.mv (.t 9))⟩,
    ⟨(some 10), none, .val (.ext (.t 6) 0)⟩,
    ⟨(some 11), none, .val (.ext (.t 6) 1)⟩,
    ⟨(some 1), none, .val (.mv (.t 10))⟩,
    ⟨(some 2), none, .val (.mv (.t 11))⟩] [1, 2]) k20_1)
abbrev k20 : MC :=
  (.seq (.reg [
    ⟨(some 0), none, .val (.mv (.c (.bool false)))⟩] []) k20_2)
theorem c20 : Try.f20.body.bind (mcOf Try.prog (List.contains [] ·) (List.getD [([], []), ([], [1, 2]), ([], [1, 2, 3, 4, 5]), ([], [0])] · ([], [])) 57) = some k20 := by kernel_rfl
theorem r20 : rvsOf Try.prog Try.f20.results.toList = some [.tmp 0] := by kernel_rfl

/- flange/flangelaw02.MessageEncodes -/
abbrev k5_0 : MC :=
  .cond (.t 15) ((.seq (.reg [
     ⟨(some 16), none, .call 20 []⟩,
     ⟨(some 2), none, .val (.mv (.t 16))⟩] [2]) .ret)) (.skip)

abbrev k5_1 : MC :=
  .cond (.t 37) ((.seq (.reg [
     ⟨(some 2), none, .val (.mv (.c (.bool false)))⟩] [2]) .ret)) (.skip)

abbrev k5_2 : MC :=
  .cond (.t 39) ((.seq (.reg [
     ⟨(some 2), none, .val (.mv (.c (.bool true)))⟩] [2]) .ret)) (.skip)

abbrev k5_3 : MC :=
  (.seq (.reg [
    ⟨(some 46), none, .val (.mv (.t 9))⟩,
    ⟨(some 47), none, .val (.bin .eql .num (.t 46) (.c (.int .i64 0)))⟩,
    ⟨(some 48), none, .val (.mv (.t 47))⟩,
    ⟨(some 49), (some (48, true)), .val (.mv (.t 8))⟩,
    ⟨(some 50), (some (48, true)), .val (.mv (.t 0))⟩,
    ⟨(some 51), (some (48, true)), .val (.len .sl (.t 50))⟩,
    ⟨(some 52), (some (48, true)), .val (.bin .eql .num (.t 49) (.t 51))⟩,
    ⟨(some 53), none, .val (.pick (.t 48) (.t 52) (.c (.bool false)))⟩,
    ⟨(some 54), none, .val (.mv (.t 53))⟩,
    ⟨(some 55), (some (54, true)), .val (.mv (.t 7))⟩,
    ⟨(some 56), (some (54, true)), .val (.mv (.t 0))⟩,
    ⟨(some 57), (some (54, true)), .call 23 [(.t 56)]⟩,
    ⟨(some 58), (some (54, true)), .call 25 [(.t 55), (.t 57)]⟩,
    ⟨(some 59), none, .val (.pick (.t 54) (.t 58) (.c (.bool false)))⟩,
    ⟨(some 2), none, .val (.mv (.t 59))⟩] [2]) .ret)

abbrev k5_4 : MC :=
  (.seq (.reg [
    ⟨(some 41), none, .val (.mv (.t 3))⟩,
    ⟨(some 42), none, .call 24 [(.t 41)]⟩,
    ⟨(some 40), none, .val (.mv (.t 42))⟩,
    ⟨(some 43), none, .val (.ext (.t 40) 0)⟩,
    ⟨(some 44), none, .val (.ext (.t 40) 1)⟩,
    ⟨(some 45), none, .val (.ext (.t 40) 2)⟩,
    ⟨(some 7), none, .val (.mv (.t 43))⟩,
    ⟨(some 8), none, .val (.mv (.t 44))⟩,
    ⟨(some 9), none, .val (.mv (.t 45))⟩] [0, 7, 8, 9]) k5_3)

abbrev k5_5 : MC :=
  (.seq ((.seq (.reg [
    ⟨(some 38), none, .val (.mv (.t 6))⟩,
    ⟨(some 39), none, .val (.bin .neq .num (.t 38) (.c (.int .i64 0)))⟩] [0, 3, 39]) k5_2)) k5_4)

abbrev k5_6 : MC :=
  (.seq ((.seq (.reg [
    ⟨(some 28), none, .val (.mv (.t 3))⟩,
    ⟨(some 29), none, .val (.b2s (.t 28))⟩,
    ⟨(some 30), none, .val (.mv (.t 5))⟩,
    ⟨(some 31), none, .val (.b2s (.t 30))⟩,
    ⟨(some 32), none, .val (.bin .neq .num (.t 29) (.t 31))⟩,
    ⟨(some 33), none, .val (.mv (.t 32))⟩,
    ⟨(some 34), (some (33, false)), .val (.mv (.t 4))⟩,
    ⟨(some 35), (some (33, false)), .val (.mv (.t 6))⟩,
    ⟨(some 36), (some (33, false)), .val (.bin .neq .num (.t 34) (.t 35))⟩,
    ⟨(some 37), none, .val (.pick (.t 33) (.c (.bool true)) (.t 36))⟩] [0, 3, 6, 37]) k5_1)) k5_5)

abbrev k5_7 : MC :=
  (.seq (.reg [
    ⟨(some 23), none, .val (.mv (.t 0))⟩,
    ⟨(some 24), none, .call 23 [(.t 23)]⟩,
    ⟨(some 25), none, .call 22 [(.t 24)]⟩,
    ⟨(some 22), none, .val (.mv (.t 25))⟩,
    ⟨(some 26), none, .val (.ext (.t 22) 0)⟩,
    ⟨(some 27), none, .val (.ext (.t 22) 1)⟩,
    ⟨(some 5), none, .val (.mv (.t 26))⟩,
    ⟨(some 6), none, .val (.mv (.t 27))⟩] [0, 3, 4, 5, 6]) k5_6)

abbrev k5_8 : MC :=
  (.seq (.reg [
    ⟨(some 18), none, .val (.mv (.t 0))⟩,
    ⟨(some 19), none, .call 21 [(.t 18)]⟩,
    ⟨(some 17), none, .val (.mv (.t 19))⟩,
    ⟨(some 20), none, .val (.ext (.t 17) 0)⟩,
    ⟨(some 21), none, .val (.ext (.t 17) 1)⟩,
    ⟨(some 3), none, .val (.mv (.t 20))⟩,
    ⟨(some 4), none, .val (.mv (.t 21))⟩] [0, 3, 4]) k5_7)

abbrev k5_9 : MC :=
  (.seq ((.seq (.reg [
    ⟨(some 10), none, .val (.mv (.t 0))⟩,
    ⟨(some 11), none, .call 19 [(.t 10)]⟩,
    ⟨(some 12), none, .val (.mv (.t 11))⟩,
    ⟨(some 13), (some (12, false)), .call 20 []⟩,
    ⟨(some 14), (some (12, false)), .val (.not (.t 13))⟩,
    ⟨(some 15), none, .val (.pick (.t 12) (.c (.bool true)) (.t 14))⟩] [0, 15]) k5_0)) k5_8)
abbrev k5 : MC :=
  (.seq (.reg [
    ⟨(some 2), none, .val (.mv (.c (.bool false)))⟩] [0]) k5_9)
theorem c5 : Try.f5.body.bind (mcOf Try.prog (List.contains [] ·) (List.getD [([], [0]), ([], [0, 15]), ([], [2]), ([], [0, 3, 4]), ([], [0, 3, 4, 5, 6]), ([], [0, 3, 6, 37]), ([], [2]), ([], [0, 3, 39]), ([], [2]), ([], [0, 7, 8, 9]), ([], [2])] · ([], [])) 60) = some k5 := by kernel_rfl
theorem r5 : rvsOf Try.prog Try.f5.results.toList = some [.tmp 2] := by kernel_rfl

/- flange/flangelaw02.MessageDecodes -/
abbrev k6_0 : MC :=
  .cond (.t 17) ((.seq (.reg [
     ⟨(some 18), none, .call 20 []⟩,
     ⟨(some 2), none, .val (.mv (.t 18))⟩] [2]) .ret)) (.skip)

abbrev k6_1 : MC :=
  .cond (.t 44) ((.seq (.reg [
     ⟨(some 2), none, .val (.mv (.c (.bool false)))⟩] [2]) .ret)) (.skip)

abbrev k6_2 : MC :=
  .cond (.t 46) ((.seq (.reg [
     ⟨(some 2), none, .val (.mv (.c (.bool true)))⟩] [2]) .ret)) (.skip)

abbrev k6_3 : MC :=
  (.seq (.reg [
    ⟨(some 52), none, .val (.mv (.t 10))⟩,
    ⟨(some 53), none, .val (.bin .eql .num (.t 52) (.c (.int .i64 0)))⟩,
    ⟨(some 54), none, .val (.mv (.t 53))⟩,
    ⟨(some 55), (some (54, true)), .val (.mv (.t 9))⟩,
    ⟨(some 56), (some (54, true)), .val (.b2s (.t 55))⟩,
    ⟨(some 57), (some (54, true)), .val (.mv (.t 0))⟩,
    ⟨(some 58), (some (54, true)), .val (.b2s (.t 57))⟩,
    ⟨(some 59), (some (54, true)), .val (.bin .eql .num (.t 56) (.t 58))⟩,
    ⟨(some 60), none, .val (.pick (.t 54) (.t 59) (.c (.bool false)))⟩,
    ⟨(some 2), none, .val (.mv (.t 60))⟩] [2]) .ret)

abbrev k6_4 : MC :=
  (.seq (.reg [
    ⟨(some 48), none, .val (.mv (.t 3))⟩,
    ⟨(some 49), none, .call 21 [(.t 48)]⟩,
    ⟨(some 47), none, .val (.mv (.t 49))⟩,
    ⟨(some 50), none, .val (.ext (.t 47) 0)⟩,
    ⟨(some 51), none, .val (.ext (.t 47) 1)⟩,
    ⟨(some 9), none, .val (.mv (.t 50))⟩,
    ⟨(some 10), none, .val (.mv (.t 51))⟩] [0, 9, 10]) k6_3)

abbrev k6_5 : MC :=
  (.seq ((.seq (.reg [
    ⟨(some 45), none, .val (.mv (.t 8))⟩,
    ⟨(some 46), none, .val (.bin .neq .num (.t 45) (.c (.int .i64 0)))⟩] [0, 3, 46]) k6_2)) k6_4)

abbrev k6_6 : MC :=
  (.seq ((.seq (.reg [
    ⟨(some 31), none, .val (.mv (.t 4))⟩,
    ⟨(some 32), none, .val (.mv (.t 7))⟩,
    ⟨(some 33), none, .val (.bin .neq .num (.t 31) (.t 32))⟩,
    ⟨(some 34), none, .val (.mv (.t 33))⟩,
    ⟨(some 35), (some (34, false)), .val (.mv (.t 5))⟩,
    ⟨(some 36), (some (34, false)), .val (.mv (.t 8))⟩,
    ⟨(some 37), (some (34, false)), .val (.bin .neq .num (.t 35) (.t 36))⟩,
    ⟨(some 38), none, .val (.pick (.t 34) (.c (.bool true)) (.t 37))⟩,
    ⟨(some 39), none, .val (.mv (.t 38))⟩,
    ⟨(some 40), (some (39, false)), .val (.mv (.t 3))⟩,
    ⟨(some 41), (some (39, false)), .val (.mv (.t 6))⟩,
    ⟨(some 42), (some (39, false)), .call 25 [(.t 40), (.t 41)]⟩,
    ⟨(some 43), (some (39, false)), .val (.not (.t 42))⟩,
    ⟨(some 44), none, .val (.pick (.t 39) (.c (.bool true)) (.t 43))⟩] [0, 3, 8, 44]) k6_1)) k6_5)

abbrev k6_7 : MC :=
  (.seq (.reg [
    ⟨(some 26), none, .val (.mv (.t 0))⟩,
    ⟨(some 27), none, .call 26 [(.t 26)]⟩,
    ⟨(some 25), none, .val (.mv (.t 27))⟩,
    ⟨(some 28), none, .val (.ext (.t 25) 0)⟩,
    ⟨(some 29), none, .val (.ext (.t 25) 1)⟩,
    ⟨(some 30), none, .val (.ext (.t 25) 2)⟩,
    ⟨(some 6), none, .val (.mv (.t 28))⟩,
    ⟨(some 7), none, .val (.mv (.t 29))⟩,
    ⟨(some 8), none, .val (.mv (.t 30))⟩] [0, 3, 4, 5, 6, 7, 8]) k6_6)

abbrev k6_8 : MC :=
  (.seq (.reg [
    ⟨(some 20), none, .val (.mv (.t 0))⟩,
    ⟨(some 21), none, .call 24 [(.t 20)]⟩,
    ⟨(some 19), none, .val (.mv (.t 21))⟩,
    ⟨(some 22), none, .val (.ext (.t 19) 0)⟩,
    ⟨(some 23), none, .val (.ext (.t 19) 1)⟩,
    ⟨(some 24), none, .val (.ext (.t 19) 2)⟩,
    ⟨(some 3), none, .val (.mv (.t 22))⟩,
    ⟨(some 4), none, .val (.mv (.t 23))⟩,
    ⟨(some 5), none, .val (.mv (.t 24))⟩] [0, 3, 4, 5]) k6_7)

abbrev k6_9 : MC :=
  (.seq ((.seq (.reg [
    ⟨(some 11), none, .val (.mv (.t 0))⟩,
    ⟨(some 12), none, .val (.len .sl (.t 11))⟩,
    ⟨(some 13), none, .val (.bin .gtr .num (.t 12) (.c (.int .i64 5000)))⟩,
    ⟨(some 14), none, .val (.mv (.t 13))⟩,
    ⟨(some 15), (some (14, false)), .call 20 []⟩,
    ⟨(some 16), (some (14, false)), .val (.not (.t 15))⟩,
    ⟨(some 17), none, .val (.pick (.t 14) (.c (.bool true)) (.t 16))⟩] [0, 17]) k6_0)) k6_8)
abbrev k6 : MC :=
  (.seq (.reg [
    ⟨(some 2), none, .val (.mv (.c (.bool false)))⟩] [0]) k6_9)
theorem c6 : Try.f6.body.bind (mcOf Try.prog (List.contains [] ·) (List.getD [([], [0]), ([], [0, 17]), ([], [2]), ([], [0, 3, 4, 5]), ([], [0, 3, 4, 5, 6, 7, 8]), ([], [0, 3, 8, 44]), ([], [2]), ([], [0, 3, 46]), ([], [2]), ([], [0, 9, 10]), ([], [2])] · ([], [])) 61) = some k6 := by kernel_rfl
theorem r6 : rvsOf Try.prog Try.f6.results.toList = some [.tmp 2] := by kernel_rfl

theorem rdecode_calls {b : List UInt8} {t : Tok} (hb : b.length < 10000000) (H : AH) :
    ACalls Try.prog 26 [.sl 1 (byteCells b) t] H (fun o H' => o = .ret (.tuple [.sl 4 (fldsE (decS b).1) .no, .int .i64 (decS b).2.1, .int .i64 (decS b).2.2]) ∧ H' = H) :=
  ACalls.sub (fun _ => .cons (fun x h => no_sub x h) .nil) (rdecode_no hb H)
theorem enc15 : encS [⟨1, false, 5, []⟩] = ([2, 5], 0) := by
  simp [encS, layL, layF, keyN, vb_lt, fitsL, fitsF, rightF, behindF, sizeL, f0]
theorem dec15 : decS [2, 5] = ([⟨1, false, 5, []⟩], 1, 0) := by
  have := dec_enc (l := [⟨1, false, 5, []⟩]) (by simp) (by rw [enc15])
  rw [enc15] at this; exact this
theorem awake2_calls (H : AH) : ACalls Try.prog 20 [] H (fun o H' => o = .ret (.bool true) ∧ H' = H) := by
  refine ACalls.drop ?_
  refine acalls Try.func20 c20 r20 (by simp [Try.ntmps20]) ?_
  have n1 := fun H => num_calls (t := 1) (n := 5) H
  have c1 := fun H => encode_calls (l := [⟨1, false, 5, []⟩]) (t := .tight) (by simp) (by simp) H
  rw [enc15] at c1
  have c2 := fun H => decode_calls (b := [2, 5]) (t := .no) (by simp) H
  rw [dec15] at c2
  simp only [fldC, fldsE, List.map_cons, List.map_nil, cast1] at c1 c2 n1
  repeat' (first | with_reducible refine am_seq ?_ | with_reducible refine am_block ?_ | ((with_reducible apply am_cond); (case hb => rfl); all_goals (intro hc; (try simp only [reduceCtorEq, decide_eq_true_eq, decide_eq_false_iff_not, Bool.or_eq_true, Bool.and_eq_true, Bool.or_eq_false_iff, Bool.not_eq_true', Bool.not_eq_false', beq_iff_eq] at hc); (try (exfalso; omega)))) | ((first | with_reducible refine am_reg ?_ | with_reducible refine am_drw ?_ | with_reducible refine am_skip ?_ | with_reducible refine am_exit ?_ | with_reducible refine am_ret ?_ | with_reducible refine And.intro (by first | exact AH.lec_refl _ | assumption | exact AccP.lec (by assumption) | omega) ?_ | with_reducible refine isnE_of (fun hc => ?_) (fun hc => ?_) (fun hc => ?_) | ((first | with_reducible refine gd_not (fun hc => ?_) (fun hc => ?_) | with_reducible refine gd_of (fun hc => ?_) (fun hc => ?_) | with_reducible refine gq_not (fun hc => ?_) (fun hc => ?_) | with_reducible refine gq_of (fun hc => ?_) (fun hc => ?_) | with_reducible refine pickB_of (fun hc => ?_) (fun hc => ?_)) <;> (try simp -implicitDefEqProofs (disch := omega) only [go_sem, eq_self, decide_true, decide_false, Nat.reduceBEq, Nat.reduceAdd, Nat.reduceSub, Nat.reduceMul, Nat.reduceEqDiff, Nat.reduceLeDiff, Nat.reduceLT, Int.reduceLE, Int.reduceLT, Int.reduceToNat, Int.reduceAdd, Int.reduceEq, Int.reduceNeg, AH.put_ne, hc, wrap_id]) <;> (try simp only [reduceCtorEq, decide_eq_true_eq, decide_eq_false_iff_not, Bool.or_eq_true, Bool.and_eq_true, Bool.or_eq_false_iff, Bool.not_eq_true', Bool.not_eq_false', beq_iff_eq] at hc) <;> (try (exfalso; omega))) | ((with_reducible refine alloc_intro (fun ko hko => ?_)) <;> (try have hne := fresh_ne (by assumption) hko) <;> (try simp only [AH.put_none] at hko)) | ((first | (with_reducible refine vapp_accL (by assumption) ?_ (fun v2 H2 hacc hlec => ?_)) | (with_reducible refine vapp_accL (AccP.mono (by assumption) (AccP.le (by assumption))) ?_ (fun v2 H2 hacc hlec => ?_)) | (with_reducible refine vapp_accL (AccP.new (by assumption) (by assumption) _) ?_ (fun v2 H2 hacc hlec => ?_))); · simp only [byteCells_length, List.length_cons, List.length_nil, List.length_map, List.length_append, fldsE_length]; omega) | with_reducible refine need_elems (by assumption) ?_ | with_reducible refine vlen_acc (by assumption) ?_ | with_reducible refine need_bytes (by assumption) ?_ | (first | with_reducible refine call_of (n1) ?_ | with_reducible refine qcall_of (n1) ?_) | (first | with_reducible refine call_of (c1) ?_ | with_reducible refine qcall_of (c1) ?_) | (first | with_reducible refine call_of (c2) ?_ | with_reducible refine qcall_of (c2) ?_) | with_reducible refine need_look (by assumption) ?_ | with_reducible refine need_look (look_put (by assumption) (by assumption)) ?_ | with_reducible refine need_look (look_lec (by assumption) (by assumption)) ?_ | with_reducible refine need_look (look_put (AH.put_same _ _ _) (by assumption)) ?_ | with_reducible refine need_look (look_lec (AH.put_same _ _ _) (by assumption)) ?_ | with_reducible refine need_look (look_put (look_put (by assumption) (by assumption)) (by assumption)) ?_ | with_reducible refine need_look (look_lec (look_put (by assumption) (by assumption)) (by assumption)) ?_ | with_reducible refine need_look (look_put (look_lec (by assumption) (by assumption)) (by assumption)) ?_ | with_reducible refine need_look (look_lec (look_lec (by assumption) (by assumption)) (by assumption)) ?_ | with_reducible refine need_look (look_put (look_put (AH.put_same _ _ _) (by assumption)) (by assumption)) ?_ | with_reducible refine need_look (look_lec (look_put (AH.put_same _ _ _) (by assumption)) (by assumption)) ?_ | with_reducible refine need_look (look_put (look_lec (AH.put_same _ _ _) (by assumption)) (by assumption)) ?_ | with_reducible refine need_look (look_lec (look_lec (AH.put_same _ _ _) (by assumption)) (by assumption)) ?_) <;> (try simp -implicitDefEqProofs (disch := omega) only [go_sem, eq_self, decide_true, decide_false, Nat.reduceBEq, Nat.reduceAdd, Nat.reduceSub, Nat.reduceMul, Nat.reduceEqDiff, Nat.reduceLeDiff, Nat.reduceLT, Int.reduceLE, Int.reduceLT, Int.reduceToNat, Int.reduceAdd, Int.reduceEq, Int.reduceNeg, AH.put_ne, wrap_id])))
  · exact drop_end (fun _ _ h => h) (AH.le_refl _)
  · rename_i h; exact absurd rfl hc
  · exact absurd rfl hc
theorem encodes_calls {l : List Fld} {t : Tok} (hl : l.length < 9223372036854775808) (hn : ∀ f ∈ l, f.n < 18446744073709551616) (H : AH) :
    ACalls Try.prog 5 [.sl 4 (fldsE l) t] H (fun o H' => o = .ret (.bool true) ∧ H' = H) := by
  refine ACalls.drop ?_
  refine acalls Try.func5 c5 r5 (by simp [Try.ntmps5]) ?_
  cases hg : greatF l
  · have hlen : l.length ≤ 80 := by
      simp only [greatF, Bool.or_eq_false_iff, decide_eq_false_iff_not] at hg; omega
    have hbl : ∀ f ∈ l, f.b.length ≤ 5000 := by
      simp only [greatF, Bool.or_eq_false_iff, List.any_eq_false, decide_eq_true_eq] at hg
      intro f hf; have := hg.1 f hf; omega
    have ho : ∀ f ∈ l, f.n < 18446744073709551616 ∧ f.b.length < 10000000 := fun f hf => ⟨hn f hf, by have := hbl f hf; omega⟩
    have hel := enc_len l
    by_cases hz : (encS l).2 = 0
    · have c2 := fun H => decode_calls (b := (encS l).1) (t := .no) (by omega) H
      rw [dec_enc (fun f hf => ⟨hn f hf, by have := hbl f hf; omega⟩) hz] at c2
      repeat' (first | with_reducible refine am_seq ?_ | with_reducible refine am_block ?_ | ((with_reducible apply am_cond); (case hb => rfl); all_goals (intro hc; (try simp only [reduceCtorEq, decide_eq_true_eq, decide_eq_false_iff_not, Bool.or_eq_true, Bool.and_eq_true, Bool.or_eq_false_iff, Bool.not_eq_true', Bool.not_eq_false', beq_iff_eq] at hc); (try (exfalso; omega)))) | ((first | with_reducible refine am_reg ?_ | with_reducible refine am_drw ?_ | with_reducible refine am_skip ?_ | with_reducible refine am_exit ?_ | with_reducible refine am_ret ?_ | with_reducible refine And.intro (by first | exact AH.lec_refl _ | assumption | exact AccP.lec (by assumption) | omega) ?_ | with_reducible refine isnE_of (fun hc => ?_) (fun hc => ?_) (fun hc => ?_) | ((first | with_reducible refine gd_not (fun hc => ?_) (fun hc => ?_) | with_reducible refine gd_of (fun hc => ?_) (fun hc => ?_) | with_reducible refine gq_not (fun hc => ?_) (fun hc => ?_) | with_reducible refine gq_of (fun hc => ?_) (fun hc => ?_) | with_reducible refine pickB_of (fun hc => ?_) (fun hc => ?_)) <;> (try simp -implicitDefEqProofs (disch := omega) only [go_sem, eq_self, decide_true, decide_false, Nat.reduceBEq, Nat.reduceAdd, Nat.reduceSub, Nat.reduceMul, Nat.reduceEqDiff, Nat.reduceLeDiff, Nat.reduceLT, Int.reduceLE, Int.reduceLT, Int.reduceToNat, Int.reduceAdd, Int.reduceEq, Int.reduceNeg, AH.put_ne, hc, wrap_id, hg, hz]) <;> (try simp only [reduceCtorEq, decide_eq_true_eq, decide_eq_false_iff_not, Bool.or_eq_true, Bool.and_eq_true, Bool.or_eq_false_iff, Bool.not_eq_true', Bool.not_eq_false', beq_iff_eq] at hc) <;> (try (exfalso; omega))) | ((with_reducible refine alloc_intro (fun ko hko => ?_)) <;> (try have hne := fresh_ne (by assumption) hko) <;> (try simp only [AH.put_none] at hko)) | ((first | (with_reducible refine vapp_accL (by assumption) ?_ (fun v2 H2 hacc hlec => ?_)) | (with_reducible refine vapp_accL (AccP.mono (by assumption) (AccP.le (by assumption))) ?_ (fun v2 H2 hacc hlec => ?_)) | (with_reducible refine vapp_accL (AccP.new (by assumption) (by assumption) _) ?_ (fun v2 H2 hacc hlec => ?_))); · simp only [byteCells_length, List.length_cons, List.length_nil, List.length_map, List.length_append, fldsE_length]; omega) | with_reducible refine need_elems (by assumption) ?_ | with_reducible refine vlen_acc (by assumption) ?_ | with_reducible refine need_bytes (by assumption) ?_ | (first | with_reducible refine call_of (fgreat_calls hl) ?_ | with_reducible refine qcall_of (fgreat_calls hl) ?_) | (first | with_reducible refine call_of (awake2_calls) ?_ | with_reducible refine qcall_of (awake2_calls) ?_) | (first | with_reducible refine call_of (encode_calls (by omega) ho) ?_ | with_reducible refine qcall_of (encode_calls (by omega) ho) ?_) | (first | with_reducible refine call_of (to_calls (by omega)) ?_ | with_reducible refine qcall_of (to_calls (by omega)) ?_) | (first | with_reducible refine call_of (rencode_calls (by omega) ho) ?_ | with_reducible refine qcall_of (rencode_calls (by omega) ho) ?_) | (first | with_reducible refine call_of (c2) ?_ | with_reducible refine qcall_of (c2) ?_) | (first | with_reducible refine call_of (msame_calls (by omega) (by omega)) ?_ | with_reducible refine qcall_of (msame_calls (by omega) (by omega)) ?_) | with_reducible refine need_look (by assumption) ?_ | with_reducible refine need_look (look_put (by assumption) (by assumption)) ?_ | with_reducible refine need_look (look_lec (by assumption) (by assumption)) ?_ | with_reducible refine need_look (look_put (AH.put_same _ _ _) (by assumption)) ?_ | with_reducible refine need_look (look_lec (AH.put_same _ _ _) (by assumption)) ?_ | with_reducible refine need_look (look_put (look_put (by assumption) (by assumption)) (by assumption)) ?_ | with_reducible refine need_look (look_lec (look_put (by assumption) (by assumption)) (by assumption)) ?_ | with_reducible refine need_look (look_put (look_lec (by assumption) (by assumption)) (by assumption)) ?_ | with_reducible refine need_look (look_lec (look_lec (by assumption) (by assumption)) (by assumption)) ?_ | with_reducible refine need_look (look_put (look_put (AH.put_same _ _ _) (by assumption)) (by assumption)) ?_ | with_reducible refine need_look (look_lec (look_put (AH.put_same _ _ _) (by assumption)) (by assumption)) ?_ | with_reducible refine need_look (look_put (look_lec (AH.put_same _ _ _) (by assumption)) (by assumption)) ?_ | with_reducible refine need_look (look_lec (look_lec (AH.put_same _ _ _) (by assumption)) (by assumption)) ?_) <;> (try simp -implicitDefEqProofs (disch := omega) only [go_sem, eq_self, decide_true, decide_false, Nat.reduceBEq, Nat.reduceAdd, Nat.reduceSub, Nat.reduceMul, Nat.reduceEqDiff, Nat.reduceLeDiff, Nat.reduceLT, Int.reduceLE, Int.reduceLT, Int.reduceToNat, Int.reduceAdd, Int.reduceEq, Int.reduceNeg, AH.put_ne, wrap_id, hg, hz])))
      all_goals first | exact drop_end (fun _ _ h => h) (AH.le_refl _) | skip
    · repeat' (first | with_reducible refine am_seq ?_ | with_reducible refine am_block ?_ | ((with_reducible apply am_cond); (case hb => rfl); all_goals (intro hc; (try simp only [reduceCtorEq, decide_eq_true_eq, decide_eq_false_iff_not, Bool.or_eq_true, Bool.and_eq_true, Bool.or_eq_false_iff, Bool.not_eq_true', Bool.not_eq_false', beq_iff_eq] at hc); (try (exfalso; omega)))) | ((first | with_reducible refine am_reg ?_ | with_reducible refine am_drw ?_ | with_reducible refine am_skip ?_ | with_reducible refine am_exit ?_ | with_reducible refine am_ret ?_ | with_reducible refine And.intro (by first | exact AH.lec_refl _ | assumption | exact AccP.lec (by assumption) | omega) ?_ | with_reducible refine isnE_of (fun hc => ?_) (fun hc => ?_) (fun hc => ?_) | ((first | with_reducible refine gd_not (fun hc => ?_) (fun hc => ?_) | with_reducible refine gd_of (fun hc => ?_) (fun hc => ?_) | with_reducible refine gq_not (fun hc => ?_) (fun hc => ?_) | with_reducible refine gq_of (fun hc => ?_) (fun hc => ?_) | with_reducible refine pickB_of (fun hc => ?_) (fun hc => ?_)) <;> (try simp -implicitDefEqProofs (disch := omega) only [go_sem, eq_self, decide_true, decide_false, Nat.reduceBEq, Nat.reduceAdd, Nat.reduceSub, Nat.reduceMul, Nat.reduceEqDiff, Nat.reduceLeDiff, Nat.reduceLT, Int.reduceLE, Int.reduceLT, Int.reduceToNat, Int.reduceAdd, Int.reduceEq, Int.reduceNeg, AH.put_ne, hc, wrap_id, hg]) <;> (try simp only [reduceCtorEq, decide_eq_true_eq, decide_eq_false_iff_not, Bool.or_eq_true, Bool.and_eq_true, Bool.or_eq_false_iff, Bool.not_eq_true', Bool.not_eq_false', beq_iff_eq] at hc) <;> (try (exfalso; omega))) | ((with_reducible refine alloc_intro (fun ko hko => ?_)) <;> (try have hne := fresh_ne (by assumption) hko) <;> (try simp only [AH.put_none] at hko)) | ((first | (with_reducible refine vapp_accL (by assumption) ?_ (fun v2 H2 hacc hlec => ?_)) | (with_reducible refine vapp_accL (AccP.mono (by assumption) (AccP.le (by assumption))) ?_ (fun v2 H2 hacc hlec => ?_)) | (with_reducible refine vapp_accL (AccP.new (by assumption) (by assumption) _) ?_ (fun v2 H2 hacc hlec => ?_))); · simp only [byteCells_length, List.length_cons, List.length_nil, List.length_map, List.length_append, fldsE_length]; omega) | with_reducible refine need_elems (by assumption) ?_ | with_reducible refine vlen_acc (by assumption) ?_ | with_reducible refine need_bytes (by assumption) ?_ | (first | with_reducible refine call_of (fgreat_calls hl) ?_ | with_reducible refine qcall_of (fgreat_calls hl) ?_) | (first | with_reducible refine call_of (awake2_calls) ?_ | with_reducible refine qcall_of (awake2_calls) ?_) | (first | with_reducible refine call_of (encode_calls (by omega) ho) ?_ | with_reducible refine qcall_of (encode_calls (by omega) ho) ?_) | (first | with_reducible refine call_of (to_calls (by omega)) ?_ | with_reducible refine qcall_of (to_calls (by omega)) ?_) | (first | with_reducible refine call_of (rencode_calls (by omega) ho) ?_ | with_reducible refine qcall_of (rencode_calls (by omega) ho) ?_) | with_reducible refine need_look (by assumption) ?_ | with_reducible refine need_look (look_put (by assumption) (by assumption)) ?_ | with_reducible refine need_look (look_lec (by assumption) (by assumption)) ?_ | with_reducible refine need_look (look_put (AH.put_same _ _ _) (by assumption)) ?_ | with_reducible refine need_look (look_lec (AH.put_same _ _ _) (by assumption)) ?_ | with_reducible refine need_look (look_put (look_put (by assumption) (by assumption)) (by assumption)) ?_ | with_reducible refine need_look (look_lec (look_put (by assumption) (by assumption)) (by assumption)) ?_ | with_reducible refine need_look (look_put (look_lec (by assumption) (by assumption)) (by assumption)) ?_ | with_reducible refine need_look (look_lec (look_lec (by assumption) (by assumption)) (by assumption)) ?_ | with_reducible refine need_look (look_put (look_put (AH.put_same _ _ _) (by assumption)) (by assumption)) ?_ | with_reducible refine need_look (look_lec (look_put (AH.put_same _ _ _) (by assumption)) (by assumption)) ?_ | with_reducible refine need_look (look_put (look_lec (AH.put_same _ _ _) (by assumption)) (by assumption)) ?_ | with_reducible refine need_look (look_lec (look_lec (AH.put_same _ _ _) (by assumption)) (by assumption)) ?_) <;> (try simp -implicitDefEqProofs (disch := omega) only [go_sem, eq_self, decide_true, decide_false, Nat.reduceBEq, Nat.reduceAdd, Nat.reduceSub, Nat.reduceMul, Nat.reduceEqDiff, Nat.reduceLeDiff, Nat.reduceLT, Int.reduceLE, Int.reduceLT, Int.reduceToNat, Int.reduceAdd, Int.reduceEq, Int.reduceNeg, AH.put_ne, wrap_id, hg])))
      all_goals exact drop_end (fun _ _ h => h) (AH.le_refl _)
  · repeat' (first | with_reducible refine am_seq ?_ | with_reducible refine am_block ?_ | ((with_reducible apply am_cond); (case hb => rfl); all_goals (intro hc; (try simp only [reduceCtorEq, decide_eq_true_eq, decide_eq_false_iff_not, Bool.or_eq_true, Bool.and_eq_true, Bool.or_eq_false_iff, Bool.not_eq_true', Bool.not_eq_false', beq_iff_eq] at hc); (try (exfalso; omega)))) | ((first | with_reducible refine am_reg ?_ | with_reducible refine am_drw ?_ | with_reducible refine am_skip ?_ | with_reducible refine am_exit ?_ | with_reducible refine am_ret ?_ | with_reducible refine And.intro (by first | exact AH.lec_refl _ | assumption | exact AccP.lec (by assumption) | omega) ?_ | with_reducible refine isnE_of (fun hc => ?_) (fun hc => ?_) (fun hc => ?_) | ((first | with_reducible refine gd_not (fun hc => ?_) (fun hc => ?_) | with_reducible refine gd_of (fun hc => ?_) (fun hc => ?_) | with_reducible refine gq_not (fun hc => ?_) (fun hc => ?_) | with_reducible refine gq_of (fun hc => ?_) (fun hc => ?_) | with_reducible refine pickB_of (fun hc => ?_) (fun hc => ?_)) <;> (try simp -implicitDefEqProofs (disch := omega) only [go_sem, eq_self, decide_true, decide_false, Nat.reduceBEq, Nat.reduceAdd, Nat.reduceSub, Nat.reduceMul, Nat.reduceEqDiff, Nat.reduceLeDiff, Nat.reduceLT, Int.reduceLE, Int.reduceLT, Int.reduceToNat, Int.reduceAdd, Int.reduceEq, Int.reduceNeg, AH.put_ne, hc, wrap_id, hg]) <;> (try simp only [reduceCtorEq, decide_eq_true_eq, decide_eq_false_iff_not, Bool.or_eq_true, Bool.and_eq_true, Bool.or_eq_false_iff, Bool.not_eq_true', Bool.not_eq_false', beq_iff_eq] at hc) <;> (try (exfalso; omega))) | ((with_reducible refine alloc_intro (fun ko hko => ?_)) <;> (try have hne := fresh_ne (by assumption) hko) <;> (try simp only [AH.put_none] at hko)) | ((first | (with_reducible refine vapp_accL (by assumption) ?_ (fun v2 H2 hacc hlec => ?_)) | (with_reducible refine vapp_accL (AccP.mono (by assumption) (AccP.le (by assumption))) ?_ (fun v2 H2 hacc hlec => ?_)) | (with_reducible refine vapp_accL (AccP.new (by assumption) (by assumption) _) ?_ (fun v2 H2 hacc hlec => ?_))); · simp only [byteCells_length, List.length_cons, List.length_nil, List.length_map, List.length_append, fldsE_length]; omega) | with_reducible refine need_elems (by assumption) ?_ | with_reducible refine vlen_acc (by assumption) ?_ | with_reducible refine need_bytes (by assumption) ?_ | (first | with_reducible refine call_of (fgreat_calls hl) ?_ | with_reducible refine qcall_of (fgreat_calls hl) ?_) | (first | with_reducible refine call_of (awake2_calls) ?_ | with_reducible refine qcall_of (awake2_calls) ?_) | with_reducible refine need_look (by assumption) ?_ | with_reducible refine need_look (look_put (by assumption) (by assumption)) ?_ | with_reducible refine need_look (look_lec (by assumption) (by assumption)) ?_ | with_reducible refine need_look (look_put (AH.put_same _ _ _) (by assumption)) ?_ | with_reducible refine need_look (look_lec (AH.put_same _ _ _) (by assumption)) ?_ | with_reducible refine need_look (look_put (look_put (by assumption) (by assumption)) (by assumption)) ?_ | with_reducible refine need_look (look_lec (look_put (by assumption) (by assumption)) (by assumption)) ?_ | with_reducible refine need_look (look_put (look_lec (by assumption) (by assumption)) (by assumption)) ?_ | with_reducible refine need_look (look_lec (look_lec (by assumption) (by assumption)) (by assumption)) ?_ | with_reducible refine need_look (look_put (look_put (AH.put_same _ _ _) (by assumption)) (by assumption)) ?_ | with_reducible refine need_look (look_lec (look_put (AH.put_same _ _ _) (by assumption)) (by assumption)) ?_ | with_reducible refine need_look (look_put (look_lec (AH.put_same _ _ _) (by assumption)) (by assumption)) ?_ | with_reducible refine need_look (look_lec (look_lec (AH.put_same _ _ _) (by assumption)) (by assumption)) ?_) <;> (try simp -implicitDefEqProofs (disch := omega) only [go_sem, eq_self, decide_true, decide_false, Nat.reduceBEq, Nat.reduceAdd, Nat.reduceSub, Nat.reduceMul, Nat.reduceEqDiff, Nat.reduceLeDiff, Nat.reduceLT, Int.reduceLE, Int.reduceLT, Int.reduceToNat, Int.reduceAdd, Int.reduceEq, Int.reduceNeg, AH.put_ne, wrap_id, hg])))
    all_goals exact drop_end (fun _ _ h => h) (AH.le_refl _)
theorem decodes_calls {b : List UInt8} {t : Tok} (hb : b.length < 9223372036854775808) (H : AH) :
    ACalls Try.prog 6 [.sl 1 (byteCells b) t] H (fun o H' => o = .ret (.bool true) ∧ H' = H) := by
  refine ACalls.drop ?_
  refine acalls Try.func6 c6 r6 (by simp [Try.ntmps6]) ?_
  by_cases hg : b.length ≤ 5000
  · by_cases hz : (decS b).2.2 = 0
    · obtain ⟨g1, g2, g3, g4⟩ := enc_dec hz
      have c1 := fun H => encode_calls (l := (decS b).1) (t := .no) (by omega) (fun f hf => ⟨(g4 f hf).1, by have := (g4 f hf).2; omega⟩) H
      rw [g1] at c1
      have hlen : (decS b).1.length ≤ 64 := g2
      repeat' (first | with_reducible refine am_seq ?_ | with_reducible refine am_block ?_ | ((with_reducible apply am_cond); (case hb => rfl); all_goals (intro hc; (try simp only [reduceCtorEq, decide_eq_true_eq, decide_eq_false_iff_not, Bool.or_eq_true, Bool.and_eq_true, Bool.or_eq_false_iff, Bool.not_eq_true', Bool.not_eq_false', beq_iff_eq] at hc); (try (exfalso; omega)))) | ((first | with_reducible refine am_reg ?_ | with_reducible refine am_drw ?_ | with_reducible refine am_skip ?_ | with_reducible refine am_exit ?_ | with_reducible refine am_ret ?_ | with_reducible refine And.intro (by first | exact AH.lec_refl _ | assumption | exact AccP.lec (by assumption) | omega) ?_ | with_reducible refine isnE_of (fun hc => ?_) (fun hc => ?_) (fun hc => ?_) | ((first | with_reducible refine gd_not (fun hc => ?_) (fun hc => ?_) | with_reducible refine gd_of (fun hc => ?_) (fun hc => ?_) | with_reducible refine gq_not (fun hc => ?_) (fun hc => ?_) | with_reducible refine gq_of (fun hc => ?_) (fun hc => ?_) | with_reducible refine pickB_of (fun hc => ?_) (fun hc => ?_)) <;> (try simp -implicitDefEqProofs (disch := omega) only [go_sem, eq_self, decide_true, decide_false, Nat.reduceBEq, Nat.reduceAdd, Nat.reduceSub, Nat.reduceMul, Nat.reduceEqDiff, Nat.reduceLeDiff, Nat.reduceLT, Int.reduceLE, Int.reduceLT, Int.reduceToNat, Int.reduceAdd, Int.reduceEq, Int.reduceNeg, AH.put_ne, hc, wrap_id, hz]) <;> (try simp only [reduceCtorEq, decide_eq_true_eq, decide_eq_false_iff_not, Bool.or_eq_true, Bool.and_eq_true, Bool.or_eq_false_iff, Bool.not_eq_true', Bool.not_eq_false', beq_iff_eq] at hc) <;> (try (exfalso; omega))) | ((with_reducible refine alloc_intro (fun ko hko => ?_)) <;> (try have hne := fresh_ne (by assumption) hko) <;> (try simp only [AH.put_none] at hko)) | ((first | (with_reducible refine vapp_accL (by assumption) ?_ (fun v2 H2 hacc hlec => ?_)) | (with_reducible refine vapp_accL (AccP.mono (by assumption) (AccP.le (by assumption))) ?_ (fun v2 H2 hacc hlec => ?_)) | (with_reducible refine vapp_accL (AccP.new (by assumption) (by assumption) _) ?_ (fun v2 H2 hacc hlec => ?_))); · simp only [byteCells_length, List.length_cons, List.length_nil, List.length_map, List.length_append, fldsE_length]; omega) | with_reducible refine need_elems (by assumption) ?_ | with_reducible refine vlen_acc (by assumption) ?_ | with_reducible refine need_bytes (by assumption) ?_ | (first | with_reducible refine call_of (awake2_calls) ?_ | with_reducible refine qcall_of (awake2_calls) ?_) | (first | with_reducible refine call_of (decode_calls (by omega)) ?_ | with_reducible refine qcall_of (decode_calls (by omega)) ?_) | (first | with_reducible refine call_of (rdecode_calls (by omega)) ?_ | with_reducible refine qcall_of (rdecode_calls (by omega)) ?_) | (first | with_reducible refine call_of (msame_calls (by omega) (by omega)) ?_ | with_reducible refine qcall_of (msame_calls (by omega) (by omega)) ?_) | (first | with_reducible refine call_of (c1) ?_ | with_reducible refine qcall_of (c1) ?_) | with_reducible refine need_look (by assumption) ?_ | with_reducible refine need_look (look_put (by assumption) (by assumption)) ?_ | with_reducible refine need_look (look_lec (by assumption) (by assumption)) ?_ | with_reducible refine need_look (look_put (AH.put_same _ _ _) (by assumption)) ?_ | with_reducible refine need_look (look_lec (AH.put_same _ _ _) (by assumption)) ?_ | with_reducible refine need_look (look_put (look_put (by assumption) (by assumption)) (by assumption)) ?_ | with_reducible refine need_look (look_lec (look_put (by assumption) (by assumption)) (by assumption)) ?_ | with_reducible refine need_look (look_put (look_lec (by assumption) (by assumption)) (by assumption)) ?_ | with_reducible refine need_look (look_lec (look_lec (by assumption) (by assumption)) (by assumption)) ?_ | with_reducible refine need_look (look_put (look_put (AH.put_same _ _ _) (by assumption)) (by assumption)) ?_ | with_reducible refine need_look (look_lec (look_put (AH.put_same _ _ _) (by assumption)) (by assumption)) ?_ | with_reducible refine need_look (look_put (look_lec (AH.put_same _ _ _) (by assumption)) (by assumption)) ?_ | with_reducible refine need_look (look_lec (look_lec (AH.put_same _ _ _) (by assumption)) (by assumption)) ?_) <;> (try simp -implicitDefEqProofs (disch := omega) only [go_sem, eq_self, decide_true, decide_false, Nat.reduceBEq, Nat.reduceAdd, Nat.reduceSub, Nat.reduceMul, Nat.reduceEqDiff, Nat.reduceLeDiff, Nat.reduceLT, Int.reduceLE, Int.reduceLT, Int.reduceToNat, Int.reduceAdd, Int.reduceEq, Int.reduceNeg, AH.put_ne, wrap_id, hz])))
      all_goals first | exact drop_end (fun _ _ h => h) (AH.le_refl _) | skip
    · have hlen := dec_le b
      repeat' (first | with_reducible refine am_seq ?_ | with_reducible refine am_block ?_ | ((with_reducible apply am_cond); (case hb => rfl); all_goals (intro hc; (try simp only [reduceCtorEq, decide_eq_true_eq, decide_eq_false_iff_not, Bool.or_eq_true, Bool.and_eq_true, Bool.or_eq_false_iff, Bool.not_eq_true', Bool.not_eq_false', beq_iff_eq] at hc); (try (exfalso; omega)))) | ((first | with_reducible refine am_reg ?_ | with_reducible refine am_drw ?_ | with_reducible refine am_skip ?_ | with_reducible refine am_exit ?_ | with_reducible refine am_ret ?_ | with_reducible refine And.intro (by first | exact AH.lec_refl _ | assumption | exact AccP.lec (by assumption) | omega) ?_ | with_reducible refine isnE_of (fun hc => ?_) (fun hc => ?_) (fun hc => ?_) | ((first | with_reducible refine gd_not (fun hc => ?_) (fun hc => ?_) | with_reducible refine gd_of (fun hc => ?_) (fun hc => ?_) | with_reducible refine gq_not (fun hc => ?_) (fun hc => ?_) | with_reducible refine gq_of (fun hc => ?_) (fun hc => ?_) | with_reducible refine pickB_of (fun hc => ?_) (fun hc => ?_)) <;> (try simp -implicitDefEqProofs (disch := omega) only [go_sem, eq_self, decide_true, decide_false, Nat.reduceBEq, Nat.reduceAdd, Nat.reduceSub, Nat.reduceMul, Nat.reduceEqDiff, Nat.reduceLeDiff, Nat.reduceLT, Int.reduceLE, Int.reduceLT, Int.reduceToNat, Int.reduceAdd, Int.reduceEq, Int.reduceNeg, AH.put_ne, hc, wrap_id]) <;> (try simp only [reduceCtorEq, decide_eq_true_eq, decide_eq_false_iff_not, Bool.or_eq_true, Bool.and_eq_true, Bool.or_eq_false_iff, Bool.not_eq_true', Bool.not_eq_false', beq_iff_eq] at hc) <;> (try (exfalso; omega))) | ((with_reducible refine alloc_intro (fun ko hko => ?_)) <;> (try have hne := fresh_ne (by assumption) hko) <;> (try simp only [AH.put_none] at hko)) | ((first | (with_reducible refine vapp_accL (by assumption) ?_ (fun v2 H2 hacc hlec => ?_)) | (with_reducible refine vapp_accL (AccP.mono (by assumption) (AccP.le (by assumption))) ?_ (fun v2 H2 hacc hlec => ?_)) | (with_reducible refine vapp_accL (AccP.new (by assumption) (by assumption) _) ?_ (fun v2 H2 hacc hlec => ?_))); · simp only [byteCells_length, List.length_cons, List.length_nil, List.length_map, List.length_append, fldsE_length]; omega) | with_reducible refine need_elems (by assumption) ?_ | with_reducible refine vlen_acc (by assumption) ?_ | with_reducible refine need_bytes (by assumption) ?_ | (first | with_reducible refine call_of (awake2_calls) ?_ | with_reducible refine qcall_of (awake2_calls) ?_) | (first | with_reducible refine call_of (decode_calls (by omega)) ?_ | with_reducible refine qcall_of (decode_calls (by omega)) ?_) | (first | with_reducible refine call_of (rdecode_calls (by omega)) ?_ | with_reducible refine qcall_of (rdecode_calls (by omega)) ?_) | (first | with_reducible refine call_of (msame_calls (by omega) (by omega)) ?_ | with_reducible refine qcall_of (msame_calls (by omega) (by omega)) ?_) | with_reducible refine need_look (by assumption) ?_ | with_reducible refine need_look (look_put (by assumption) (by assumption)) ?_ | with_reducible refine need_look (look_lec (by assumption) (by assumption)) ?_ | with_reducible refine need_look (look_put (AH.put_same _ _ _) (by assumption)) ?_ | with_reducible refine need_look (look_lec (AH.put_same _ _ _) (by assumption)) ?_ | with_reducible refine need_look (look_put (look_put (by assumption) (by assumption)) (by assumption)) ?_ | with_reducible refine need_look (look_lec (look_put (by assumption) (by assumption)) (by assumption)) ?_ | with_reducible refine need_look (look_put (look_lec (by assumption) (by assumption)) (by assumption)) ?_ | with_reducible refine need_look (look_lec (look_lec (by assumption) (by assumption)) (by assumption)) ?_ | with_reducible refine need_look (look_put (look_put (AH.put_same _ _ _) (by assumption)) (by assumption)) ?_ | with_reducible refine need_look (look_lec (look_put (AH.put_same _ _ _) (by assumption)) (by assumption)) ?_ | with_reducible refine need_look (look_put (look_lec (AH.put_same _ _ _) (by assumption)) (by assumption)) ?_ | with_reducible refine need_look (look_lec (look_lec (AH.put_same _ _ _) (by assumption)) (by assumption)) ?_) <;> (try simp -implicitDefEqProofs (disch := omega) only [go_sem, eq_self, decide_true, decide_false, Nat.reduceBEq, Nat.reduceAdd, Nat.reduceSub, Nat.reduceMul, Nat.reduceEqDiff, Nat.reduceLeDiff, Nat.reduceLT, Int.reduceLE, Int.reduceLT, Int.reduceToNat, Int.reduceAdd, Int.reduceEq, Int.reduceNeg, AH.put_ne, wrap_id])))
      all_goals first | exact drop_end (fun _ _ h => h) (AH.le_refl _) | skip
  · repeat' (first | with_reducible refine am_seq ?_ | with_reducible refine am_block ?_ | ((with_reducible apply am_cond); (case hb => rfl); all_goals (intro hc; (try simp only [reduceCtorEq, decide_eq_true_eq, decide_eq_false_iff_not, Bool.or_eq_true, Bool.and_eq_true, Bool.or_eq_false_iff, Bool.not_eq_true', Bool.not_eq_false', beq_iff_eq] at hc); (try (exfalso; omega)))) | ((first | with_reducible refine am_reg ?_ | with_reducible refine am_drw ?_ | with_reducible refine am_skip ?_ | with_reducible refine am_exit ?_ | with_reducible refine am_ret ?_ | with_reducible refine And.intro (by first | exact AH.lec_refl _ | assumption | exact AccP.lec (by assumption) | omega) ?_ | with_reducible refine isnE_of (fun hc => ?_) (fun hc => ?_) (fun hc => ?_) | ((first | with_reducible refine gd_not (fun hc => ?_) (fun hc => ?_) | with_reducible refine gd_of (fun hc => ?_) (fun hc => ?_) | with_reducible refine gq_not (fun hc => ?_) (fun hc => ?_) | with_reducible refine gq_of (fun hc => ?_) (fun hc => ?_) | with_reducible refine pickB_of (fun hc => ?_) (fun hc => ?_)) <;> (try simp -implicitDefEqProofs (disch := omega) only [go_sem, eq_self, decide_true, decide_false, Nat.reduceBEq, Nat.reduceAdd, Nat.reduceSub, Nat.reduceMul, Nat.reduceEqDiff, Nat.reduceLeDiff, Nat.reduceLT, Int.reduceLE, Int.reduceLT, Int.reduceToNat, Int.reduceAdd, Int.reduceEq, Int.reduceNeg, AH.put_ne, hc, wrap_id]) <;> (try simp only [reduceCtorEq, decide_eq_true_eq, decide_eq_false_iff_not, Bool.or_eq_true, Bool.and_eq_true, Bool.or_eq_false_iff, Bool.not_eq_true', Bool.not_eq_false', beq_iff_eq] at hc) <;> (try (exfalso; omega))) | ((with_reducible refine alloc_intro (fun ko hko => ?_)) <;> (try have hne := fresh_ne (by assumption) hko) <;> (try simp only [AH.put_none] at hko)) | ((first | (with_reducible refine vapp_accL (by assumption) ?_ (fun v2 H2 hacc hlec => ?_)) | (with_reducible refine vapp_accL (AccP.mono (by assumption) (AccP.le (by assumption))) ?_ (fun v2 H2 hacc hlec => ?_)) | (with_reducible refine vapp_accL (AccP.new (by assumption) (by assumption) _) ?_ (fun v2 H2 hacc hlec => ?_))); · simp only [byteCells_length, List.length_cons, List.length_nil, List.length_map, List.length_append, fldsE_length]; omega) | with_reducible refine need_elems (by assumption) ?_ | with_reducible refine vlen_acc (by assumption) ?_ | with_reducible refine need_bytes (by assumption) ?_ | (first | with_reducible refine call_of (awake2_calls) ?_ | with_reducible refine qcall_of (awake2_calls) ?_) | with_reducible refine need_look (by assumption) ?_ | with_reducible refine need_look (look_put (by assumption) (by assumption)) ?_ | with_reducible refine need_look (look_lec (by assumption) (by assumption)) ?_ | with_reducible refine need_look (look_put (AH.put_same _ _ _) (by assumption)) ?_ | with_reducible refine need_look (look_lec (AH.put_same _ _ _) (by assumption)) ?_ | with_reducible refine need_look (look_put (look_put (by assumption) (by assumption)) (by assumption)) ?_ | with_reducible refine need_look (look_lec (look_put (by assumption) (by assumption)) (by assumption)) ?_ | with_reducible refine need_look (look_put (look_lec (by assumption) (by assumption)) (by assumption)) ?_ | with_reducible refine need_look (look_lec (look_lec (by assumption) (by assumption)) (by assumption)) ?_ | with_reducible refine need_look (look_put (look_put (AH.put_same _ _ _) (by assumption)) (by assumption)) ?_ | with_reducible refine need_look (look_lec (look_put (AH.put_same _ _ _) (by assumption)) (by assumption)) ?_ | with_reducible refine need_look (look_put (look_lec (AH.put_same _ _ _) (by assumption)) (by assumption)) ?_ | with_reducible refine need_look (look_lec (look_lec (AH.put_same _ _ _) (by assumption)) (by assumption)) ?_) <;> (try simp -implicitDefEqProofs (disch := omega) only [go_sem, eq_self, decide_true, decide_false, Nat.reduceBEq, Nat.reduceAdd, Nat.reduceSub, Nat.reduceMul, Nat.reduceEqDiff, Nat.reduceLeDiff, Nat.reduceLT, Int.reduceLE, Int.reduceLT, Int.reduceToNat, Int.reduceAdd, Int.reduceEq, Int.reduceNeg, AH.put_ne, wrap_id])))
    all_goals first | exact drop_end (fun _ _ h => h) (AH.le_refl _) | skip
end Go.Proofs.Ytmomncmddejcoaa
