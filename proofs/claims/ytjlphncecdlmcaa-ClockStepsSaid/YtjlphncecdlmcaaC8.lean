/- Of the walks of this seat: contracts of functions of the given program, proved over the abstract values of the texts Vm. Conditions: as each theorem says. -/
import Derived.Test.YtjlphncecdlmcaaC7
set_option linter.unusedVariables false
set_option linter.unusedSimpArgs false
namespace Go.Proofs.Ytjlphncecdlmcaa
open Go.Vm Go.Sort
attribute [local go_sem] List.drop_zero toNat_succ Nat.sub_zero Int.toNat_natCast Option.map_some Int.natCast_nonneg decide_eq_true_eq decide_eq_false_iff_not
/- flange/flangelaw14.awake -/
abbrev k34_0 : MC :=
  (.seq (.reg [
    ⟨(some 12), none, .val (.mv (.t 2))⟩,
    ⟨(some 13), none, .val (.bin .eql .num (.t 12) (.c (.int .i64 0)))⟩,
    ⟨(some 14), none, .val (.mv (.t 13))⟩,
    ⟨(some 15), (some (14, true)), .val (.mv (.t 3))⟩,
    ⟨(some 16), (some (14, true)), .val (.bin .eql .num (.t 15) (.c (.int .i64 0)))⟩,
    ⟨(some 17), none, .val (.pick (.t 14) (.t 16) (.c (.bool false)))⟩,
    ⟨(some 18), none, .val (.mv (.t 17))⟩,
    ⟨(some 19), (some (18, true)), .val (.mv (.t 4))⟩,
    ⟨(some 20), (some (18, true)), .val (.len .sl (.t 19))⟩,
    ⟨(some 21), (some (18, true)), .val (.bin .eql .num (.t 20) (.c (.int .i64 2)))⟩,
    ⟨(some 22), none, .val (.pick (.t 18) (.t 21) (.c (.bool false)))⟩,
    ⟨(some 23), none, .val (.mv (.t 22))⟩,
    ⟨(some 24), (some (23, true)), .val (.mv (.t 4))⟩,
    ⟨(some 25), (some (23, true)), .val (.iaddr 1 (.t 24) (.c (.int .i64 0)))⟩,
    ⟨(some 26), (some (23, true)), .val (.load false 1 (.t 25))⟩,
    ⟨(some 27), (some (23, true)), .val (.bin .eql .num (.t 26) (.c (.str [97])))⟩,
    ⟨(some 28), none, .val (.pick (.t 23) (.t 27) (.c (.bool false)))⟩,
    ⟨(some 29), none, .val (.mv (.t 28))⟩,
    ⟨(some 30), (some (29, true)), .val (.mv (.t 4))⟩,
    ⟨(some 31), (some (29, true)), .val (.iaddr 1 (.t 30) (.c (.int .i64 1)))⟩,
    ⟨(some 32), (some (29, true)), .val (.load false 1 (.t 31))⟩,
    ⟨(some 33), (some (29, true)), .val (.bin .eql .num (.t 32) (.c (.str [98])))⟩,
    ⟨(some 34), none, .val (.pick (.t 29) (.t 33) (.c (.bool false)))⟩,
    ⟨(some 35), none, .val (.mv (.t 34))⟩,
    ⟨(some 36), (some (35, true)), .val (.mv (.t 1))⟩,
    ⟨(some 37), (some (35, true)), .call 38 [(.t 36)]⟩,
    ⟨(some 38), (some (35, true)), .val (.bin .eql .num (.t 37) (.c (.int .i64 2)))⟩,
    ⟨(some 39), none, .val (.pick (.t 35) (.t 38) (.c (.bool false)))⟩,
    ⟨(some 0), none, .val (.mv (.t 39))⟩] [0]) (.ret))

abbrev k34_1 : MC :=
  (.seq (.reg [
    ⟨(some 10), none, .val (.mv (.t 1))⟩,
    ⟨(some 11), none, .call 37 [(.t 10), (.c (.int .i64 2))]⟩,
    ⟨(some 4), none, .val (.mv (.t 11))⟩] [1, 2, 3, 4]) k34_0)

abbrev k34_2 : MC :=
  (.seq (.reg [
    ⟨(some 6), none, .val (.mv (.t 1))⟩,
    ⟨(some 7), none, .call 36 [(.t 6), (.c (.str [98])), (.c (.int .i64 2))]⟩,
    ⟨(some 8), none, .val (.mv (.t 1))⟩,
    ⟨(some 9), none, .call 36 [(.t 8), (.c (.str [97])), (.c (.int .i64 2))]⟩,
    ⟨(some 2), none, .val (.mv (.t 7))⟩,
    ⟨(some 3), none, .val (.mv (.t 9))⟩] [1, 2, 3]) k34_1)

abbrev k34_3 : MC :=
  (.seq (.reg [
    ⟨(some 5), none, .call 35 []⟩,
    ⟨(some 1), none, .val (.mv (.t 5))⟩] [1]) k34_2)
abbrev k34 : MC :=
  (.seq (.reg [
    ⟨(some 0), none, .val (.mv (.c (.bool false)))⟩] []) k34_3)
theorem c34 : Try.f34.body.bind (mcOf Try.prog (List.contains [] ·) (List.getD [([], []), ([], [1]), ([], [1, 2, 3]), ([], [1, 2, 3, 4]), ([], [0])] · ([], [])) 40) = some k34 := by kernel_rfl
theorem r34 : rvsOf Try.prog Try.f34.results.toList = some [.tmp 0] := by kernel_rfl

/- flange/flangelaw14.clip -/
abbrev k44_0 : MC :=
  (.seq (.reg [
    ⟨(some 3), none, .val (.mv (.t 0))⟩,
    ⟨(some 4), none, .val (.mx true (.t 3) (.c (.int .i64 0)))⟩,
    ⟨(some 5), none, .val (.mx false (.t 4) (.c (.int .i64 1152921504606846976)))⟩,
    ⟨(some 2), none, .val (.mv (.t 5))⟩] [2]) (.ret))
abbrev k44 : MC :=
  (.seq (.reg [
    ⟨(some 2), none, .val (.mv (.c (.int .i64 0)))⟩] [0]) k44_0)
theorem c44 : Try.f44.body.bind (mcOf Try.prog (List.contains [] ·) (List.getD [([], [0]), ([], [2])] · ([], [])) 6) = some k44 := by kernel_rfl
theorem r44 : rvsOf Try.prog Try.f44.results.toList = some [.tmp 2] := by kernel_rfl

/- flange/flangelaw14.ClockAdds -/
abbrev k11_0 : MC :=
  .cond (.t 19) ((.seq (.reg [
     ⟨(some 20), none, .call 34 []⟩,
     ⟨(some 6), none, .val (.mv (.t 20))⟩] [6]) (.ret))) (.skip)

abbrev k11_1 : MC :=
  .cond (.t 63) ((.seq (.reg [
     ⟨(some 6), none, .val (.mv (.c (.bool false)))⟩] [6]) (.ret))) (.skip)

abbrev k11_2 : MC :=
  (.seq (.reg [
    ⟨(some 64), none, .val (.mv (.t 0))⟩,
    ⟨(some 65), none, .call 47 [(.t 64)]⟩,
    ⟨(some 66), none, .val (.mv (.t 0))⟩,
    ⟨(some 67), none, .call 44 [(.t 66)]⟩,
    ⟨(some 68), none, .val (.bin .eql .num (.t 65) (.t 67))⟩,
    ⟨(some 69), none, .val (.mv (.t 68))⟩,
    ⟨(some 70), (some (69, true)), .val (.mv (.t 0))⟩,
    ⟨(some 71), (some (69, true)), .val (.mv (.t 1))⟩,
    ⟨(some 72), (some (69, true)), .call 48 [(.t 70), (.t 71)]⟩,
    ⟨(some 73), (some (69, true)), .val (.mv (.t 0))⟩,
    ⟨(some 74), (some (69, true)), .call 44 [(.t 73)]⟩,
    ⟨(some 75), (some (69, true)), .val (.mv (.t 1))⟩,
    ⟨(some 76), (some (69, true)), .call 44 [(.t 75)]⟩,
    ⟨(some 77), (some (69, true)), .val (.bin .add .num (.t 74) (.t 76))⟩,
    ⟨(some 78), (some (69, true)), .call 44 [(.t 77)]⟩,
    ⟨(some 79), (some (69, true)), .val (.bin .eql .num (.t 72) (.t 78))⟩,
    ⟨(some 80), none, .val (.pick (.t 69) (.t 79) (.c (.bool false)))⟩,
    ⟨(some 81), none, .val (.mv (.t 80))⟩,
    ⟨(some 82), (some (81, true)), .val (.mv (.t 0))⟩,
    ⟨(some 83), (some (81, true)), .val (.mv (.t 1))⟩,
    ⟨(some 84), (some (81, true)), .call 48 [(.t 82), (.t 83)]⟩,
    ⟨(some 85), (some (81, true)), .val (.mv (.t 1))⟩,
    ⟨(some 86), (some (81, true)), .val (.mv (.t 0))⟩,
    ⟨(some 87), (some (81, true)), .call 48 [(.t 85), (.t 86)]⟩,
    ⟨(some 88), (some (81, true)), .val (.bin .eql .num (.t 84) (.t 87))⟩,
    ⟨(some 89), none, .val (.pick (.t 81) (.t 88) (.c (.bool false)))⟩,
    ⟨(some 6), none, .val (.mv (.t 89))⟩] [6]) (.ret))

abbrev k11_3 : MC :=
  (.seq ((.seq (.reg [
    ⟨(some 33), none, .val (.mv (.t 7))⟩,
    ⟨(some 34), none, .call 38 [(.t 33)]⟩,
    ⟨(some 35), none, .val (.bin .neq .num (.t 34) (.c (.int .i64 0)))⟩,
    ⟨(some 36), none, .val (.mv (.t 35))⟩,
    ⟨(some 37), (some (36, false)), .val (.mv (.t 7))⟩,
    ⟨(some 38), (some (36, false)), .call 39 [(.t 37)]⟩,
    ⟨(some 39), (some (36, false)), .val (.bin .neq .num (.t 38) (.c (.int .i64 0)))⟩,
    ⟨(some 40), none, .val (.pick (.t 36) (.c (.bool true)) (.t 39))⟩,
    ⟨(some 41), none, .val (.mv (.t 40))⟩,
    ⟨(some 42), (some (41, false)), .val (.mv (.t 9))⟩,
    ⟨(some 43), none, .val (.pick (.t 41) (.c (.bool true)) (.t 42))⟩,
    ⟨(some 44), none, .val (.mv (.t 43))⟩,
    ⟨(some 45), (some (44, false)), .val (.mv (.t 12))⟩,
    ⟨(some 46), none, .val (.pick (.t 44) (.c (.bool true)) (.t 45))⟩,
    ⟨(some 47), none, .val (.mv (.t 46))⟩,
    ⟨(some 48), (some (47, false)), .val (.mv (.t 7))⟩,
    ⟨(some 49), (some (47, false)), .val (.mv (.t 2))⟩,
    ⟨(some 50), (some (47, false)), .call 36 [(.t 48), (.t 49), (.c (.int .i64 1))]⟩,
    ⟨(some 51), (some (47, false)), .val (.bin .neq .num (.t 50) (.c (.int .i64 11)))⟩,
    ⟨(some 52), none, .val (.pick (.t 47) (.c (.bool true)) (.t 51))⟩,
    ⟨(some 53), none, .val (.mv (.t 52))⟩,
    ⟨(some 54), (some (53, false)), .val (.mv (.t 7))⟩,
    ⟨(some 55), (some (53, false)), .val (.mv (.t 2))⟩,
    ⟨(some 56), (some (53, false)), .call 45 [(.t 54), (.t 55)]⟩,
    ⟨(some 57), none, .val (.pick (.t 53) (.c (.bool true)) (.t 56))⟩,
    ⟨(some 58), none, .val (.mv (.t 57))⟩,
    ⟨(some 59), (some (58, false)), .val (.mv (.t 7))⟩,
    ⟨(some 60), (some (58, false)), .call 37 [(.t 59), (.c (.int .i64 5))]⟩,
    ⟨(some 61), (some (58, false)), .val (.len .sl (.t 60))⟩,
    ⟨(some 62), (some (58, false)), .val (.bin .neq .num (.t 61) (.c (.int .i64 0)))⟩,
    ⟨(some 63), none, .val (.pick (.t 58) (.c (.bool true)) (.t 62))⟩] [0, 1, 63]) k11_1)) k11_2)

abbrev k11_4 : MC :=
  (.seq (.reg [
    ⟨(some 28), none, .val (.mv (.t 7))⟩,
    ⟨(some 29), none, .call 40 [(.t 28)]⟩,
    ⟨(some 27), none, .val (.mv (.t 29))⟩,
    ⟨(some 30), none, .val (.ext (.t 27) 0)⟩,
    ⟨(some 31), none, .val (.ext (.t 27) 1)⟩,
    ⟨(some 32), none, .val (.ext (.t 27) 2)⟩,
    ⟨(some 10), none, .val (.mv (.t 30))⟩,
    ⟨(some 11), none, .val (.mv (.t 31))⟩,
    ⟨(some 12), none, .val (.mv (.t 32))⟩] [0, 1, 2, 7, 9, 12]) k11_3)

abbrev k11_5 : MC :=
  (.seq (.reg [
    ⟨(some 22), none, .val (.mv (.t 7))⟩,
    ⟨(some 23), none, .val (.mv (.t 2))⟩,
    ⟨(some 24), none, .call 46 [(.t 22), (.t 23)]⟩,
    ⟨(some 21), none, .val (.mv (.t 24))⟩,
    ⟨(some 25), none, .val (.ext (.t 21) 0)⟩,
    ⟨(some 26), none, .val (.ext (.t 21) 1)⟩,
    ⟨(some 8), none, .val (.mv (.t 25))⟩,
    ⟨(some 9), none, .val (.mv (.t 26))⟩] [0, 1, 2, 7, 9]) k11_4)

abbrev k11_6 : MC :=
  (.seq (.reg [
    ⟨(some 7), none, .val (.mv (.c .nilPtr))⟩] [0, 1, 2, 7]) k11_5)

abbrev k11_7 : MC :=
  (.seq ((.seq (.reg [
    ⟨(some 13), none, .val (.mv (.t 2))⟩,
    ⟨(some 14), none, .val (.len .str (.t 13))⟩,
    ⟨(some 15), none, .val (.bin .gtr .num (.t 14) (.c (.int .i64 60)))⟩,
    ⟨(some 16), none, .val (.mv (.t 15))⟩,
    ⟨(some 17), (some (16, false)), .call 34 []⟩,
    ⟨(some 18), (some (16, false)), .val (.not (.t 17))⟩,
    ⟨(some 19), none, .val (.pick (.t 16) (.c (.bool true)) (.t 18))⟩] [0, 1, 2, 19]) k11_0)) k11_6)
abbrev k11 : MC :=
  (.seq (.reg [
    ⟨(some 6), none, .val (.mv (.c (.bool false)))⟩] [0, 1, 2]) k11_7)
theorem c11 : Try.f11.body.bind (mcOf Try.prog (List.contains [] ·) (List.getD [([], [0, 1, 2]), ([], [0, 1, 2, 19]), ([], [6]), ([], [0, 1, 2, 7]), ([], [0, 1, 2, 7, 9]), ([], [0, 1, 2, 7, 9, 12]), ([], [0, 1, 63]), ([], [6]), ([], [6])] · ([], [])) 90) = some k11 := by kernel_rfl
theorem r11 : rvsOf Try.prog Try.f11.results.toList = some [.tmp 6] := by kernel_rfl

theorem alN_unique {l : List (List UInt8 × Int)} {d : List (List UInt8)} (hp : d.Perm (l.map Prod.fst)) (hs : d.Pairwise fun x y => ltOf (alC l) y x = false) : alN l = d := by
  have hS := alC_swo l
  have tr : ∀ a b c : List UInt8, (!(ltOf (alC l)) b a) = true → (!(ltOf (alC l)) c b) = true → (!(ltOf (alC l)) c a) = true := by
    intro a b c h1 h2
    simp only [Bool.not_eq_true'] at h1 h2 ⊢
    exact hS.ntrans c b a h2 h1
  have to : ∀ a b : List UInt8, (!(ltOf (alC l)) b a || !(ltOf (alC l)) a b) = true := by
    intro a b
    cases q : ltOf (alC l) b a
    · rfl
    · cases q2 : ltOf (alC l) a b
      · rfl
      · have := hS.trans a b a q2 q; rw [hS.irrefl] at this; cases this
  refine List.Perm.eq_of_pairwise (le := fun x y => (!(ltOf (alC l)) y x) = true) ?_ (List.pairwise_mergeSort tr to _) (hs.imp fun h => by simp [h]) ((List.mergeSort_perm _ _).trans hp.symm)
  intro a b _ _ h1 h2
  simp only [Bool.not_eq_true'] at h1 h2
  exact alC_total l a b h2 h1
def ba : List (List UInt8 × Int) := [([98], 2), ([97], 2)]
theorem ba_set : setL 0 (setL 0 [] [98] 2) [97] 2 = ba := by decide
theorem ba_N : alN ba = [[97], [98]] := alN_unique (by simpa [ba] using List.Perm.swap [98] [97] []) (by simp only [List.pairwise_cons]; refine ⟨?_, ?_, .nil⟩ <;> simp [ltOf, alC, ba, alF, orI, cmpI, cmpS, Op.bytesLess])
theorem ba_R : alR ba (addI 0 2) = [[97], [98]] := by
  rw [alR, ba_N]; decide
/-- Alarms in a heap. -/
def AlH (H : AH) (k m : Nat) (now : Int) (l : List (List UInt8 × Int)) : Prop := H k = some (.cells [.int .i64 now, .map m]) ∧ H m = some (.map (alE l))
theorem AlH.ne {H : AH} {k m : Nat} {now : Int} {l : List (List UInt8 × Int)} (h : AlH H k m now l) : k ≠ m := by
  intro e; subst e; have := h.1; rw [h.2] at this; cases this
theorem AlH.set {H : AH} {k m : Nat} {now : Int} {l l' : List (List UInt8 × Int)} (h : AlH H k m now l) : AlH (H.put m (.map (alE l'))) k m now l' := ⟨look_ne h.ne h.1, AH.put_same _ _ _⟩
theorem AlH.tick {H : AH} {k m : Nat} {now now' : Int} {l l' : List (List UInt8 × Int)} (h : AlH H k m now l) : AlH ((H.put k (.cells [.int .i64 now', .map m])).put m (.map (alE l'))) k m now' l' := ⟨look_ne h.ne (AH.put_same _ _ _), AH.put_same _ _ _⟩
theorem AlH.new {H : AH} {k m : Nat} (h : k ≠ m) : AlH ((H.put m (.map [])).put k (.cells [.int .i64 0, .map m])) k m 0 [] := ⟨AH.put_same _ _ _, look_ne h.symm (AH.put_same _ _ _)⟩
/-- Some numbers aside, all is as it was. -/
def Alt (k m : Nat) (H H' : AH) : Prop := ∀ i o, i ≠ k → i ≠ m → H i = some o → H' i = some o
theorem Alt.refl (k m : Nat) (H : AH) : Alt k m H H := fun _ _ _ _ h => h
theorem Alt.trans {k m : Nat} {H H' H'' : AH} (h : Alt k m H H') (g : Alt k m H' H'') : Alt k m H H'' := fun i o a b c => g i o a b (h i o a b c)
theorem Alt.le {k m : Nat} {H H' H'' : AH} (h : Alt k m H' H'') (hl : H.le H') (hk : H k = none) (hm : H m = none) : H.le H'' := fun i o hi => h i o (fresh_ne hi hk) (fresh_ne hi hm) (hl i o hi)
theorem AlH.alt {H H' : AH} {k m k' m' : Nat} {now : Int} {l : List (List UInt8 × Int)} (h : AlH H k m now l) (g : Alt k' m' H H') (h1 : k ≠ k') (h2 : k ≠ m') (h3 : m ≠ k') (h4 : m ≠ m') : AlH H' k m now l := ⟨g _ _ h1 h2 h.1, g _ _ h3 h4 h.2⟩
theorem newX (H : AH) : ACalls Try.prog 35 [] H (fun o H' => ∃ v, o = .ret v ∧ ∃ k m, v = .ptr k 0 ∧ AlH H' k m 0 [] ∧ H k = none ∧ H m = none ∧ H.le H') := by
  refine ACalls.mono (cnew_calls H) ?_
  rintro o H' ⟨v, rfl, k, m, rfl, km, hm, hk, rfl⟩
  exact ⟨_, rfl, k, m, rfl, AlH.new km, hk, hm, AH.le_put (AH.le_put (AH.le_refl _) hm _) hk _⟩
theorem setX {H : AH} {k m : Nat} {now x : Int} {n : List UInt8} {l : List (List UInt8 × Int)} (h : AlH H k m now l) :
    ACalls Try.prog 36 [.ptr k 0, .str n, .int .i64 x] H (fun o H' => ∃ v, o = .ret v ∧ v = .int .i64 (setE l n x) ∧ AlH H' k m now (setL now l n x) ∧ Alt k m H H') := by
  refine ACalls.mono (set_calls h.1 h.2) ?_
  rintro o H' ⟨rfl, rfl⟩
  exact ⟨_, rfl, rfl, h.set, fun i o _ b c => look_ne b c⟩
theorem dropX {H : AH} {k m : Nat} {now : Int} {n : List UInt8} {l : List (List UInt8 × Int)} (h : AlH H k m now l) :
    ACalls Try.prog 45 [.ptr k 0, .str n] H (fun o H' => ∃ v, o = .ret v ∧ v = .bool (alF n l).isSome ∧ AlH H' k m now (alD n l) ∧ Alt k m H H') := by
  refine ACalls.mono (drop_calls h.1 h.2) ?_
  rintro o H' ⟨rfl, rfl⟩
  refine ⟨_, rfl, rfl, ?_, ?_⟩
  · cases q : alF n l with
    | some t => exact h.set
    | none =>
      have : ∀ l : List (List UInt8 × Int), alF n l = none → alD n l = l := by
        intro l
        induction l with
        | nil => intro _; rfl
        | cons p l ih =>
          intro q
          by_cases e : n = p.1
          · simp [alF, e] at q
          · rw [alF, if_neg e] at q; rw [alD, if_neg e, ih q]
      rw [this l q]; exact h
  · split
    · exact fun i o _ b c => look_ne b c
    · exact Alt.refl _ _ _
theorem tickX {H : AH} {k m : Nat} {now x : Int} {l : List (List UInt8 × Int)} (h : AlH H k m now l) (hl : l.length ≤ 100) (hx : ¬ x < 1) :
    ACalls Try.prog 37 [.ptr k 0, .int .i64 x] H (fun o H' => ∃ v, o = .ret v ∧ v = .sl 1 (strE (alR l (addI now x))) .no ∧ AlH H' k m (addI now x) (alX l (alR l (addI now x))) ∧ Alt k m H H') := by
  refine ACalls.mono (tick_calls hx h.1 h.2 hl) ?_
  rintro o H' ⟨rfl, rfl⟩
  exact ⟨_, rfl, rfl, h.tick, fun i o a b c => look_ne b (look_ne a c)⟩
theorem nowX {H : AH} {k m : Nat} {now : Int} {l : List (List UInt8 × Int)} (h : AlH H k m now l) : ACalls Try.prog 38 [.ptr k 0] H (fun o H' => o = .ret (.int .i64 now) ∧ H' = H) := now_calls h.1
theorem lenX {H : AH} {k m : Nat} {now : Int} {l : List (List UInt8 × Int)} (h : AlH H k m now l) : ACalls Try.prog 39 [.ptr k 0] H (fun o H' => o = .ret (.int .i64 l.length) ∧ H' = H) := len_calls h.1 h.2
theorem atX {H : AH} {k m : Nat} {now : Int} {n : List UInt8} {l : List (List UInt8 × Int)} (h : AlH H k m now l) : ACalls Try.prog 46 [.ptr k 0, .str n] H (fun o H' => o = .ret (.tuple [.int .i64 ((alF n l).getD 0), .bool (alF n l).isSome]) ∧ H' = H) := at_calls h.1 h.2
theorem nextX {H : AH} {k m : Nat} {now : Int} {l : List (List UInt8 × Int)} (h : AlH H k m now l) (hl : l.length ≤ 100) :
    ACalls Try.prog 40 [.ptr k 0] H (fun o H' => o = .ret (.tuple [.str ((alN l).headD []), .int .i64 ((alN l).head?.elim 0 fun n => (alF n l).getD 0), .bool (alN l).head?.isSome]) ∧ H' = H) := next_calls h.1 h.2 hl
theorem ba_R2 : alR ba 2 = [[97], [98]] := ba_R
theorem ba_e1 : setE [] [98] 2 = 0 := by decide
theorem ba_e2 : setE (setL 0 [] [98] 2) [97] 2 = 0 := by decide
theorem awake_calls (H : AH) : ACalls Try.prog 34 [] H (fun o H' => o = .ret (.bool true) ∧ H' = H) := by
  refine ACalls.drop ?_
  refine acalls Try.func34 c34 r34 (by simp [Try.ntmps34]) ?_
  repeat' (first | with_reducible refine am_seq ?_ | with_reducible refine am_block ?_ | ((with_reducible apply am_cond); (case hb => rfl); all_goals (intro hc; (try simp only [reduceCtorEq, decide_eq_true_eq, decide_eq_false_iff_not, Bool.or_eq_true, Bool.and_eq_true, Bool.or_eq_false_iff, Bool.not_eq_true', Bool.not_eq_false', beq_iff_eq] at hc); (try (exfalso; omega)))) | ((first | with_reducible refine am_reg ?_ | with_reducible refine am_drw ?_ | with_reducible refine am_drx ?_ | with_reducible refine am_skip ?_ | with_reducible refine am_exit ?_ | with_reducible refine am_ret ?_ | with_reducible refine And.intro (by first | exact AH.lec_refl _ | assumption | exact AccP.lec (by assumption) | omega) ?_ | with_reducible refine isnE_of (fun hc => ?_) (fun hc => ?_) (fun hc => ?_) | ((first | with_reducible refine gd_not (fun hc => ?_) (fun hc => ?_) | with_reducible refine gd_of (fun hc => ?_) (fun hc => ?_) | with_reducible refine gq_not (fun hc => ?_) (fun hc => ?_) | with_reducible refine gq_of (fun hc => ?_) (fun hc => ?_) | with_reducible refine pickB_of (fun hc => ?_) (fun hc => ?_)) <;> (try simp -implicitDefEqProofs (disch := omega) only [go_sem, eq_self, decide_true, decide_false, Nat.reduceBEq, Nat.reduceAdd, Nat.reduceSub, Nat.reduceMul, Nat.reduceEqDiff, Nat.reduceLeDiff, Nat.reduceLT, Int.reduceLE, Int.reduceLT, Int.reduceToNat, Int.reduceAdd, Int.reduceEq, Int.reduceNeg, AH.put_ne, hc]) <;> (try simp only [reduceCtorEq, decide_eq_true_eq, decide_eq_false_iff_not, Bool.or_eq_true, Bool.and_eq_true, Bool.or_eq_false_iff, Bool.not_eq_true', Bool.not_eq_false', beq_iff_eq] at hc) <;> (try (exfalso; omega))) | ((with_reducible refine alloc_intro (fun ko hko => ?_)) <;> (try have hne := fresh_ne (by assumption) hko) <;> (try have hnk := fresh_ne hk hko) <;> (try have hnk2 := fresh_ne hk2 hko) <;> (try simp only [AH.put_none] at hko)) | ((first | (with_reducible refine vapp_accL (by assumption) ?_ (fun v2 H2 hacc hlec => ?_)) | (with_reducible refine vapp_accL (AccP.mono (by assumption) (AccP.le (by assumption))) ?_ (fun v2 H2 hacc hlec => ?_)) | (with_reducible refine vapp_accL (AccP.new (by assumption) (by assumption) _) ?_ (fun v2 H2 hacc hlec => ?_))); · simp only [byteCells_length, List.length_cons, List.length_nil, List.length_map, List.length_append]; omega) | with_reducible refine need_elems (by assumption) ?_ | with_reducible refine vlen_acc (by assumption) ?_ | with_reducible refine need_bytes (by assumption) ?_ | with_reducible refine call_ex (newX _) (fun v H2 hr => ?_) | with_reducible refine need_look (by assumption) ?_ | with_reducible refine need_look (look_put (by assumption) (by assumption)) ?_ | with_reducible refine need_look (look_lec (by assumption) (by assumption)) ?_ | with_reducible refine need_look (look_put (AH.put_same _ _ _) (by assumption)) ?_ | with_reducible refine need_look (look_lec (AH.put_same _ _ _) (by assumption)) ?_ | with_reducible refine need_look (look_put (look_put (by assumption) (by assumption)) (by assumption)) ?_ | with_reducible refine need_look (look_lec (look_put (by assumption) (by assumption)) (by assumption)) ?_ | with_reducible refine need_look (look_put (look_lec (by assumption) (by assumption)) (by assumption)) ?_ | with_reducible refine need_look (look_lec (look_lec (by assumption) (by assumption)) (by assumption)) ?_ | with_reducible refine need_look (look_put (look_put (AH.put_same _ _ _) (by assumption)) (by assumption)) ?_ | with_reducible refine need_look (look_lec (look_put (AH.put_same _ _ _) (by assumption)) (by assumption)) ?_ | with_reducible refine need_look (look_put (look_lec (AH.put_same _ _ _) (by assumption)) (by assumption)) ?_ | with_reducible refine need_look (look_lec (look_lec (AH.put_same _ _ _) (by assumption)) (by assumption)) ?_) <;> (try simp -implicitDefEqProofs (disch := omega) only [go_sem, eq_self, decide_true, decide_false, Nat.reduceBEq, Nat.reduceAdd, Nat.reduceSub, Nat.reduceMul, Nat.reduceEqDiff, Nat.reduceLeDiff, Nat.reduceLT, Int.reduceLE, Int.reduceLT, Int.reduceToNat, Int.reduceAdd, Int.reduceEq, Int.reduceNeg, AH.put_ne])))
  obtain ⟨k, m, rfl, h0, hk, hm, hle⟩ := hr
  have e3 : addI 0 2 = 2 := by decide
  repeat' (first | (((with_reducible refine call_ex (setX (by assumption)) (fun v H2 hr => ?_)); obtain ⟨rfl, hal, halt⟩ := hr)) | (((with_reducible refine call_ex (tickX (by assumption) (by simp only [ba_set]; decide) (by decide)) (fun v H2 hr => ?_)); obtain ⟨rfl, hal, halt⟩ := hr)) | with_reducible refine am_seq ?_ | with_reducible refine am_block ?_ | ((with_reducible apply am_cond); (case hb => rfl); all_goals (intro hc; (try simp only [reduceCtorEq, decide_eq_true_eq, decide_eq_false_iff_not, Bool.or_eq_true, Bool.and_eq_true, Bool.or_eq_false_iff, Bool.not_eq_true', Bool.not_eq_false', beq_iff_eq] at hc); (try (exfalso; omega)))) | ((first | with_reducible refine am_reg ?_ | with_reducible refine am_drw ?_ | with_reducible refine am_drx ?_ | with_reducible refine am_skip ?_ | with_reducible refine am_exit ?_ | with_reducible refine am_ret ?_ | with_reducible refine And.intro (by first | exact AH.lec_refl _ | assumption | exact AccP.lec (by assumption) | omega) ?_ | with_reducible refine isnE_of (fun hc => ?_) (fun hc => ?_) (fun hc => ?_) | ((first | with_reducible refine gd_not (fun hc => ?_) (fun hc => ?_) | with_reducible refine gd_of (fun hc => ?_) (fun hc => ?_) | with_reducible refine gq_not (fun hc => ?_) (fun hc => ?_) | with_reducible refine gq_of (fun hc => ?_) (fun hc => ?_) | with_reducible refine pickB_of (fun hc => ?_) (fun hc => ?_)) <;> (try simp -implicitDefEqProofs (disch := omega) only [go_sem, eq_self, decide_true, decide_false, Nat.reduceBEq, Nat.reduceAdd, Nat.reduceSub, Nat.reduceMul, Nat.reduceEqDiff, Nat.reduceLeDiff, Nat.reduceLT, Int.reduceLE, Int.reduceLT, Int.reduceToNat, Int.reduceAdd, Int.reduceEq, Int.reduceNeg, AH.put_ne, hc, strE, List.map_cons, List.map_nil, ba_set, ba_R2, ba_e1, ba_e2, e3]) <;> (try simp only [reduceCtorEq, decide_eq_true_eq, decide_eq_false_iff_not, Bool.or_eq_true, Bool.and_eq_true, Bool.or_eq_false_iff, Bool.not_eq_true', Bool.not_eq_false', beq_iff_eq] at hc) <;> (try (exfalso; omega))) | ((with_reducible refine alloc_intro (fun ko hko => ?_)) <;> (try have hne := fresh_ne (by assumption) hko) <;> (try have hnk := fresh_ne hk hko) <;> (try have hnk2 := fresh_ne hk2 hko) <;> (try simp only [AH.put_none] at hko)) | ((first | (with_reducible refine vapp_accL (by assumption) ?_ (fun v2 H2 hacc hlec => ?_)) | (with_reducible refine vapp_accL (AccP.mono (by assumption) (AccP.le (by assumption))) ?_ (fun v2 H2 hacc hlec => ?_)) | (with_reducible refine vapp_accL (AccP.new (by assumption) (by assumption) _) ?_ (fun v2 H2 hacc hlec => ?_))); · simp only [byteCells_length, List.length_cons, List.length_nil, List.length_map, List.length_append]; omega) | with_reducible refine need_elems (by assumption) ?_ | with_reducible refine vlen_acc (by assumption) ?_ | with_reducible refine need_bytes (by assumption) ?_ | with_reducible refine call_turn (nowX (by assumption)) ?_ | with_reducible refine need_look (by assumption) ?_ | with_reducible refine need_look (look_put (by assumption) (by assumption)) ?_ | with_reducible refine need_look (look_lec (by assumption) (by assumption)) ?_ | with_reducible refine need_look (look_put (AH.put_same _ _ _) (by assumption)) ?_ | with_reducible refine need_look (look_lec (AH.put_same _ _ _) (by assumption)) ?_ | with_reducible refine need_look (look_put (look_put (by assumption) (by assumption)) (by assumption)) ?_ | with_reducible refine need_look (look_lec (look_put (by assumption) (by assumption)) (by assumption)) ?_ | with_reducible refine need_look (look_put (look_lec (by assumption) (by assumption)) (by assumption)) ?_ | with_reducible refine need_look (look_lec (look_lec (by assumption) (by assumption)) (by assumption)) ?_ | with_reducible refine need_look (look_put (look_put (AH.put_same _ _ _) (by assumption)) (by assumption)) ?_ | with_reducible refine need_look (look_lec (look_put (AH.put_same _ _ _) (by assumption)) (by assumption)) ?_ | with_reducible refine need_look (look_put (look_lec (AH.put_same _ _ _) (by assumption)) (by assumption)) ?_ | with_reducible refine need_look (look_lec (look_lec (AH.put_same _ _ _) (by assumption)) (by assumption)) ?_) <;> (try simp -implicitDefEqProofs (disch := omega) only [go_sem, eq_self, decide_true, decide_false, Nat.reduceBEq, Nat.reduceAdd, Nat.reduceSub, Nat.reduceMul, Nat.reduceEqDiff, Nat.reduceLeDiff, Nat.reduceLT, Int.reduceLE, Int.reduceLT, Int.reduceToNat, Int.reduceAdd, Int.reduceEq, Int.reduceNeg, AH.put_ne, strE, List.map_cons, List.map_nil, ba_set, ba_R2, ba_e1, ba_e2, e3])))
  all_goals exact end_le (((Alt.trans (by assumption) (Alt.trans (by assumption) (by assumption)) : Alt k m _ _)).le hle hk hm)
end Go.Proofs.Ytjlphncecdlmcaa
