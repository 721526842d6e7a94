/- Of the walks of this seat: contracts of functions of the given program, proved over the abstract values of the texts Vm. Conditions: as each theorem says. -/
import Derived.Test.YtcfeafpjkcmdiaaGreatDoorPB5
set_option linter.unusedVariables false
set_option linter.unusedSimpArgs false
namespace Go.Proofs.YtcfeafpjkcmdiaaGreatDoor.Hel
open Go.Vm
attribute [local go_sem] byteCells_get byteCells_length byteCells_take byteCells_drop bytes_cells fldC fldsE_get fldsE_length List.drop_zero bytesOf_cells toNat_succ Nat.sub_zero Int.toNat_natCast Option.map_some Int.natCast_nonneg decide_eq_true_eq decide_eq_false_iff_not
/- (*flange/message.reader).number -/
abbrev k140_0 : MC :=
  (.seq (.reg [
    ⟨(some 29), none, .val (.mv (.t 4))⟩,
    ⟨(some 30), none, .val (.mv (.t 6))⟩,
    ⟨(some 2), none, .val (.mv (.t 29))⟩,
    ⟨(some 3), none, .val (.mv (.t 30))⟩] [2, 3]) (.ret))

abbrev k140_1 : MC :=
  (.seq (.reg [
    ⟨(some 21), none, .val (.mv (.t 0))⟩,
    ⟨(some 22), none, .val (.nilc (.t 21))⟩,
    ⟨(some 23), none, .val (.faddr 1 (.t 22))⟩,
    ⟨(some 24), none, .val (.load false 1 (.t 23))⟩,
    ⟨(some 25), none, .val (.mv (.t 5))⟩,
    ⟨(some 26), none, .val (.bin .add .num (.t 24) (.t 25))⟩,
    ⟨(some 27), none, .val (.nilc (.t 21))⟩,
    ⟨(some 28), none, .val (.faddr 1 (.t 27))⟩,
    ⟨none, none, .store 1 (.t 28) (.t 26)⟩] [4, 6]) k140_0)

abbrev k140_2 : MC :=
  (.seq (.drw [
    ⟨(some 8), none, .val (.mv (.t 0))⟩,
    ⟨(some 9), none, .val (.nilc (.t 8))⟩,
    ⟨(some 10), none, .val (.faddr 0 (.t 9))⟩,
    ⟨(some 11), none, .val (.load false 1 (.t 10))⟩,
    ⟨(some 12), none, .val (.mv (.t 0))⟩,
    ⟨(some 13), none, .val (.nilc (.t 12))⟩,
    ⟨(some 14), none, .val (.faddr 1 (.t 13))⟩,
    ⟨(some 15), none, .val (.load false 1 (.t 14))⟩,
    ⟨(some 16), none, .val (.slc (some 1) (.t 11) (some (.t 15)) none none)⟩,
    ⟨(some 17), none, .call 113 [(.t 16)]⟩,
    ⟨(some 7), none, .val (.mv (.t 17))⟩,
    ⟨(some 18), none, .val (.ext (.t 7) 0)⟩,
    ⟨(some 19), none, .val (.ext (.t 7) 1)⟩,
    ⟨(some 20), none, .val (.ext (.t 7) 2)⟩,
    ⟨(some 4), none, .val (.mv (.t 18))⟩,
    ⟨(some 5), none, .val (.mv (.t 19))⟩,
    ⟨(some 6), none, .val (.mv (.t 20))⟩] [
] [0, 4, 5, 6]) k140_1)
abbrev k140 : MC :=
  (.seq (.reg [
    ⟨(some 2), none, .val (.mv (.c (.int .u64 0)))⟩,
    ⟨(some 3), none, .val (.mv (.c (.int .i64 0)))⟩] [0]) k140_2)
theorem c140 : Tryz.f140.body.bind (mcOf Tryz.prog (List.contains [] ·) (List.getD [([], [0]), ([0, 0, 0, 0, 0, 0, 0, 0, 0, 0, 0, 0, 0, 0, 0, 0, 0], [0, 4, 5, 6]), ([], [4, 6]), ([], [2, 3])] · ([], [])) 31) = some k140 := by kernel_rfl
theorem r140 : rvsOf Tryz.prog Tryz.f140.results.toList = some [.tmp 2, .tmp 3] := by kernel_rfl

/- (*flange/message.reader).field -/
abbrev k112_0 : MC :=
  .cond (.t 14) ((.seq (.reg [
     ⟨(some 15), none, .build [(.int .i64 0), (.bool false), (.int .u64 0), .nilSl] []⟩,
     ⟨(some 16), none, .val (.mv (.t 5))⟩,
     ⟨none, none, .store 4 (.t 2) (.t 15)⟩,
     ⟨(some 3), none, .val (.mv (.t 16))⟩] [2, 3]) (.ret))) (.skip)

abbrev k112_1 : MC :=
  .cond (.t 23) ((.seq (.reg [
     ⟨(some 24), none, .build [(.int .i64 0), (.bool false), (.int .u64 0), .nilSl] []⟩,
     ⟨(some 25), none, .val (.mv (.t 5))⟩,
     ⟨none, none, .store 4 (.t 2) (.t 24)⟩,
     ⟨(some 3), none, .val (.mv (.t 25))⟩] [2, 3]) (.ret))) (.skip)

abbrev k112_2 : MC :=
  .cond (.t 37) ((.seq (.reg [
     ⟨(some 38), none, .val (.load true 4 (.t 7))⟩,
     ⟨none, none, .store 4 (.t 2) (.t 38)⟩,
     ⟨(some 3), none, .val (.mv (.c (.int .i64 0)))⟩] [2, 3]) (.ret))) (.skip)

abbrev k112_3 : MC :=
  .cond (.t 51) ((.seq (.reg [
     ⟨(some 52), none, .build [(.int .i64 0), (.bool false), (.int .u64 0), .nilSl] []⟩,
     ⟨none, none, .store 4 (.t 2) (.t 52)⟩,
     ⟨(some 3), none, .val (.mv (.c (.int .i64 5)))⟩] [2, 3]) (.ret))) (.skip)

abbrev k112_4 : MC :=
  (.seq (.reg [
    ⟨(some 81), none, .val (.load true 4 (.t 7))⟩,
    ⟨none, none, .store 4 (.t 2) (.t 81)⟩,
    ⟨(some 3), none, .val (.mv (.c (.int .i64 0)))⟩] [2, 3]) (.ret))

abbrev k112_5 : MC :=
  (.seq (.reg [
    ⟨(some 72), none, .val (.mv (.t 0))⟩,
    ⟨(some 73), none, .val (.nilc (.t 72))⟩,
    ⟨(some 74), none, .val (.faddr 1 (.t 73))⟩,
    ⟨(some 75), none, .val (.load false 1 (.t 74))⟩,
    ⟨(some 76), none, .val (.mv (.t 6))⟩,
    ⟨(some 77), none, .val (.i2i .i64 (.t 76))⟩,
    ⟨(some 78), none, .val (.bin .add .num (.t 75) (.t 77))⟩,
    ⟨(some 79), none, .val (.nilc (.t 72))⟩,
    ⟨(some 80), none, .val (.faddr 1 (.t 79))⟩,
    ⟨none, none, .store 1 (.t 80) (.t 78)⟩] [2, 7]) k112_4)

abbrev k112_6 : MC :=
  (.seq (.drw [
    ⟨(some 53), none, .val (.mv (.t 0))⟩,
    ⟨(some 54), none, .val (.nilc (.t 53))⟩,
    ⟨(some 55), none, .val (.faddr 0 (.t 54))⟩,
    ⟨(some 56), none, .val (.load false 1 (.t 55))⟩,
    ⟨(some 57), none, .val (.mv (.t 0))⟩,
    ⟨(some 58), none, .val (.nilc (.t 57))⟩,
    ⟨(some 59), none, .val (.faddr 1 (.t 58))⟩,
    ⟨(some 60), none, .val (.load false 1 (.t 59))⟩,
    ⟨(some 61), none, .val (.mv (.t 0))⟩,
    ⟨(some 62), none, .val (.nilc (.t 61))⟩,
    ⟨(some 63), none, .val (.faddr 1 (.t 62))⟩,
    ⟨(some 64), none, .val (.load false 1 (.t 63))⟩,
    ⟨(some 65), none, .val (.mv (.t 6))⟩,
    ⟨(some 66), none, .val (.i2i .i64 (.t 65))⟩,
    ⟨(some 67), none, .val (.bin .add .num (.t 64) (.t 66))⟩,
    ⟨(some 68), none, .val (.slc (some 1) (.t 56) (some (.t 60)) (some (.t 67)) none)⟩,
    ⟨(some 69), none, .call 86 [(.t 68)]⟩,
    ⟨(some 70), none, .val (.faddr 2 (.t 7))⟩] [
    ⟨none, none, .store 1 (.t 70) (.c (.int .u64 0))⟩,
    ⟨(some 71), none, .val (.faddr 3 (.t 7))⟩,
    ⟨none, none, .store 1 (.t 71) (.t 69)⟩] [0, 2, 6, 7]) k112_5)

abbrev k112_7 : MC :=
  (.seq ((.seq (.drw [
    ⟨(some 39), none, .val (.mv (.t 6))⟩,
    ⟨(some 40), none, .val (.mv (.t 0))⟩,
    ⟨(some 41), none, .val (.nilc (.t 40))⟩,
    ⟨(some 42), none, .val (.faddr 0 (.t 41))⟩,
    ⟨(some 43), none, .val (.load false 1 (.t 42))⟩,
    ⟨(some 44), none, .val (.len .sl (.t 43))⟩,
    ⟨(some 45), none, .val (.mv (.t 0))⟩,
    ⟨(some 46), none, .val (.nilc (.t 45))⟩,
    ⟨(some 47), none, .val (.faddr 1 (.t 46))⟩,
    ⟨(some 48), none, .val (.load false 1 (.t 47))⟩,
    ⟨(some 49), none, .val (.bin .sub .num (.t 44) (.t 48))⟩,
    ⟨(some 50), none, .val (.i2i .u64 (.t 49))⟩,
    ⟨(some 51), none, .val (.bin .gtr .num (.t 39) (.t 50))⟩] [
] [0, 2, 6, 7, 51]) k112_3)) k112_6)

abbrev k112_8 : MC :=
  (.seq ((.seq (.reg [
    ⟨(some 35), none, .val (.faddr 1 (.t 7))⟩,
    ⟨(some 36), none, .val (.load false 1 (.t 35))⟩,
    ⟨(some 37), none, .val (.not (.t 36))⟩] [0, 2, 6, 7, 37]) k112_2)) k112_7)

abbrev k112_9 : MC :=
  (.seq (.reg [
    ⟨(some 26), none, .val (.mv (.t 4))⟩,
    ⟨(some 27), none, .val (.bin .quo .num (.t 26) (.c (.int .u64 2)))⟩,
    ⟨(some 28), none, .val (.mx false (.t 27) (.c (.int .u64 1001)))⟩,
    ⟨(some 29), none, .val (.i2i .i64 (.t 28))⟩,
    ⟨(some 30), none, .val (.mv (.t 4))⟩,
    ⟨(some 31), none, .val (.bin .rem .num (.t 30) (.c (.int .u64 2)))⟩,
    ⟨(some 32), none, .val (.bin .eql .num (.t 31) (.c (.int .u64 1)))⟩,
    ⟨(some 33), none, .val (.mv (.t 6))⟩,
    ⟨(some 34), none, .build [(.int .i64 0), (.bool false), (.int .u64 0), .nilSl] [(0, 1, (.t 29)), (1, 1, (.t 32)), (2, 1, (.t 33))]⟩,
    ⟨(some 7), none, .zalloc [(.int .i64 0), (.bool false), (.int .u64 0), .nilSl]⟩,
    ⟨none, none, .store 4 (.t 7) (.t 34)⟩] [0, 2, 6, 7]) k112_8)

abbrev k112_10 : MC :=
  (.seq ((.seq (.reg [
    ⟨(some 22), none, .val (.mv (.t 5))⟩,
    ⟨(some 23), none, .val (.bin .neq .num (.t 22) (.c (.int .i64 0)))⟩] [0, 2, 4, 5, 6, 23]) k112_1)) k112_9)

abbrev k112_11 : MC :=
  (.seq (.reg [
    ⟨(some 18), none, .val (.mv (.t 0))⟩,
    ⟨(some 19), none, .call 140 [(.t 18)]⟩,
    ⟨(some 17), none, .val (.mv (.t 19))⟩,
    ⟨(some 20), none, .val (.ext (.t 17) 0)⟩,
    ⟨(some 21), none, .val (.ext (.t 17) 1)⟩,
    ⟨(some 6), none, .val (.mv (.t 20))⟩,
    ⟨(some 5), none, .val (.mv (.t 21))⟩] [0, 2, 4, 5, 6]) k112_10)

abbrev k112_12 : MC :=
  (.seq ((.seq (.reg [
    ⟨(some 13), none, .val (.mv (.t 5))⟩,
    ⟨(some 14), none, .val (.bin .neq .num (.t 13) (.c (.int .i64 0)))⟩] [0, 2, 4, 5, 14]) k112_0)) k112_11)

abbrev k112_13 : MC :=
  (.seq (.reg [
    ⟨(some 9), none, .val (.mv (.t 0))⟩,
    ⟨(some 10), none, .call 140 [(.t 9)]⟩,
    ⟨(some 8), none, .val (.mv (.t 10))⟩,
    ⟨(some 11), none, .val (.ext (.t 8) 0)⟩,
    ⟨(some 12), none, .val (.ext (.t 8) 1)⟩,
    ⟨(some 4), none, .val (.mv (.t 11))⟩,
    ⟨(some 5), none, .val (.mv (.t 12))⟩] [0, 2, 4, 5]) k112_12)
abbrev k112 : MC :=
  (.seq (.reg [
    ⟨(some 2), none, .zalloc [(.int .i64 0), (.bool false), (.int .u64 0), .nilSl]⟩,
    ⟨(some 3), none, .val (.mv (.c (.int .i64 0)))⟩] [0, 2]) k112_13)
theorem c112 : Tryz.f112.body.bind (mcOf Tryz.prog (List.contains [] ·) (List.getD [([], [0, 2]), ([], [0, 2, 4, 5]), ([], [0, 2, 4, 5, 14]), ([], [2, 3]), ([], [0, 2, 4, 5, 6]), ([], [0, 2, 4, 5, 6, 23]), ([], [2, 3]), ([], [0, 2, 6, 7]), ([], [0, 2, 6, 7, 37]), ([], [2, 3]), ([0, 0, 0, 0, 0, 0, 0, 0, 0, 0, 0, 0, 0], [0, 2, 6, 7, 51]), ([], [2, 3]), ([0, 0, 0, 0, 0, 0, 0, 0, 0, 0, 0, 0, 0, 0, 0, 0, 0, 0, 2, 2, 2], [0, 2, 6, 7]), ([], [2, 7]), ([], [2, 3])] · ([], [])) 82) = some k112 := by kernel_rfl
theorem r112 : rvsOf Tryz.prog Tryz.f112.results.toList = some [.cell 2 true 4, .tmp 3] := by kernel_rfl

def rdC (b : List UInt8) (t : Tok) (at_ : Nat) : AObj := .cells [.sl 1 (byteCells b) t, .int .i64 at_]
theorem number_calls {b : List UInt8} {t : Tok} {at_ k : Nat} {H : AH} (hb : b.length < 10000000) (ha : at_ ≤ b.length) (hk : H k = some (.cells [.sl 1 (byteCells b) t, .int .i64 at_])) :
    ACalls Tryz.prog 140 [.ptr k 0] H (fun o H' => o = .ret (.tuple [.int .u64 (readS (b.drop at_)).1, .int .i64 (readS (b.drop at_)).2.2]) ∧ H' = H.put k (.cells [.sl 1 (byteCells b) t, .int .i64 ((at_ + (readS (b.drop at_)).2.1 : Nat) : Int)])) := by
  refine acalls Tryz.func140 c140 r140 (by simp [Tryz.ntmps140]) ?_
  have htk : (b.drop at_).take (b.length - at_) = b.drop at_ := List.take_of_length_le (by simp)
  have hrc := read_cases (b.drop at_)
  rw [List.length_drop] at hrc
  repeat' (first | with_reducible refine am_seq ?_ | with_reducible refine am_block ?_ | ((with_reducible apply am_cond); (case hb => rfl); all_goals (intro hc; (try simp only [reduceCtorEq, decide_eq_true_eq, decide_eq_false_iff_not, Bool.or_eq_true, Bool.and_eq_true, Bool.or_eq_false_iff, Bool.not_eq_true', Bool.not_eq_false', beq_iff_eq] at hc); (try (exfalso; omega)))) | ((first | with_reducible refine am_reg ?_ | with_reducible refine am_drw ?_ | with_reducible refine am_skip ?_ | with_reducible refine am_exit ?_ | with_reducible refine am_ret ?_ | with_reducible refine And.intro (by first | exact AH.lec_refl _ | assumption | exact AccP.lec (by assumption) | omega) ?_ | with_reducible refine isnE_of (fun hc => ?_) (fun hc => ?_) (fun hc => ?_) | ((first | with_reducible refine gd_not (fun hc => ?_) (fun hc => ?_) | with_reducible refine gd_of (fun hc => ?_) (fun hc => ?_) | with_reducible refine gq_not (fun hc => ?_) (fun hc => ?_) | with_reducible refine gq_of (fun hc => ?_) (fun hc => ?_) | with_reducible refine pickB_of (fun hc => ?_) (fun hc => ?_)) <;> (try simp -implicitDefEqProofs (disch := omega) only [go_sem, eq_self, decide_true, decide_false, Nat.reduceBEq, Nat.reduceAdd, Nat.reduceSub, Nat.reduceMul, Nat.reduceEqDiff, Nat.reduceLeDiff, Nat.reduceLT, Int.reduceLE, Int.reduceLT, Int.reduceToNat, Int.reduceAdd, Int.reduceEq, Int.reduceNeg, AH.put_ne, hc, wrap_id, hk, htk]) <;> (try simp only [reduceCtorEq, decide_eq_true_eq, decide_eq_false_iff_not, Bool.or_eq_true, Bool.and_eq_true, Bool.or_eq_false_iff, Bool.not_eq_true', Bool.not_eq_false', beq_iff_eq] at hc) <;> (try (exfalso; omega))) | ((with_reducible refine alloc_intro (fun ko hko => ?_)) <;> (try have hne := fresh_ne (by assumption) hko) <;> (try have hnk := fresh_ne hk hko) <;> (try have hnk2 := fresh_ne hk2 hko) <;> (try simp only [AH.put_none] at hko)) | ((first | (with_reducible refine vapp_accL (by assumption) ?_ (fun v2 H2 hacc hlec => ?_)) | (with_reducible refine vapp_accL (AccP.mono (by assumption) (AccP.le (by assumption))) ?_ (fun v2 H2 hacc hlec => ?_)) | (with_reducible refine vapp_accL (AccP.new (by assumption) (by assumption) _) ?_ (fun v2 H2 hacc hlec => ?_))); · simp only [byteCells_length, List.length_cons, List.length_nil, List.length_map, List.length_append]; omega) | with_reducible refine need_elems (by assumption) ?_ | with_reducible refine vlen_acc (by assumption) ?_ | with_reducible refine need_bytes (by assumption) ?_ | (first | with_reducible refine call_of (read_calls (by simp only [List.length_drop]; omega)) ?_ | with_reducible refine qcall_of (read_calls (by simp only [List.length_drop]; omega)) ?_) | with_reducible refine need_look (by assumption) ?_ | with_reducible refine need_look (look_put (by assumption) (by assumption)) ?_ | with_reducible refine need_look (look_lec (by assumption) (by assumption)) ?_ | with_reducible refine need_look (look_put (AH.put_same _ _ _) (by assumption)) ?_ | with_reducible refine need_look (look_lec (AH.put_same _ _ _) (by assumption)) ?_ | with_reducible refine need_look (look_put (look_put (by assumption) (by assumption)) (by assumption)) ?_ | with_reducible refine need_look (look_lec (look_put (by assumption) (by assumption)) (by assumption)) ?_ | with_reducible refine need_look (look_put (look_lec (by assumption) (by assumption)) (by assumption)) ?_ | with_reducible refine need_look (look_lec (look_lec (by assumption) (by assumption)) (by assumption)) ?_ | with_reducible refine need_look (look_put (look_put (AH.put_same _ _ _) (by assumption)) (by assumption)) ?_ | with_reducible refine need_look (look_lec (look_put (AH.put_same _ _ _) (by assumption)) (by assumption)) ?_ | with_reducible refine need_look (look_put (look_lec (AH.put_same _ _ _) (by assumption)) (by assumption)) ?_ | with_reducible refine need_look (look_lec (look_lec (AH.put_same _ _ _) (by assumption)) (by assumption)) ?_) <;> (try simp -implicitDefEqProofs (disch := omega) only [go_sem, eq_self, decide_true, decide_false, Nat.reduceBEq, Nat.reduceAdd, Nat.reduceSub, Nat.reduceMul, Nat.reduceEqDiff, Nat.reduceLeDiff, Nat.reduceLT, Int.reduceLE, Int.reduceLT, Int.reduceToNat, Int.reduceAdd, Int.reduceEq, Int.reduceNeg, AH.put_ne, wrap_id, hk, htk])))
  rw [Int.natCast_add]
end Go.Proofs.YtcfeafpjkcmdiaaGreatDoor.Hel
