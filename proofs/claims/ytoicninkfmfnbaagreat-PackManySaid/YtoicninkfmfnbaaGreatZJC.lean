/- Of the walks of this seat: contracts of functions of the given program, proved over the abstract values of the texts Vm. Conditions: as each theorem says. -/
import Derived.Test.YtoicninkfmfnbaaGreatZWB
import Derived.Test.YtoicninkfmfnbaaGreatZWE
set_option linter.unusedVariables false
set_option linter.unusedSimpArgs false
/- Plain: a value's bytes' value is the value. -/
namespace Go.Proofs.YtoicninkfmfnbaaGreat
open Go.Vm Go.Sort
theorem ptE_near {n m : Int} (h : nearB n = true) (k : nearB m = true) : ptE n m = 0 ∧ ptV n m = .pt n m := by
  unfold ptE ptV; simp [h, k]
theorem sm_of_kind {v : Vl} {m : Rv} (hs : Sm v m) : v.kind = m.K := by cases hs; assumption
theorem open_enc {m : Rv} {v : Vl} (hs : Sm v m) (ho : v.Ok) (ih : ∀ x ∈ m.L, ∃ v', decV (encM x).1 = some v' ∧ Sm v' x) : ∃ v', openD decV (fldM m ((m.L.map encM).map Prod.fst)) = (v', false) ∧ Sm v' m := by
  obtain ⟨l', hl1, hl2, hl3⟩ := allO_of m.L ih
  generalize (m.L.map encM).map Prod.fst = bs at *
  have hsm := hs
  cases hs with
  | mk _ _ hK hB hS hl hk hN hP hi =>
  have h1 := fun r => numS_kF m r
  have hmn := fun r t => many_kF m r t
  cases v with
  | nul =>
    have hmK : m.K = 0 := hK.symm
    refine ⟨.nul, ?_, hsm⟩
    rw [openD, fldM, h1, hmK]; rfl
  | unk =>
    have hmK : m.K = 1 := hK.symm
    refine ⟨.unk, ?_, hsm⟩
    rw [openD, fldM, h1, hmK]; rfl
  | bool b =>
    have hmK : m.K = 2 := hK.symm
    have hB2 : b = m.B := by rw [hmK] at hB; simpa [Vl.isB] using hB
    refine ⟨.bool b, ?_, hsm⟩
    have e : fldM m bs = [kF m, ⟨2, false, m.B.toNat, []⟩] := by rw [fldM, restF, if_pos hmK]
    rw [openD, e, h1, hmK, numS_k2, ← hB2]
    cases b <;> rfl
  | int n =>
    have hmK : m.K = 3 := hK.symm
    have hn : n = m.N := hN hmK
    refine ⟨.int n, ?_, hsm⟩
    have e : fldM m bs = [kF m, ⟨2, false, zigN m.N, []⟩] := by rw [fldM, restF, if_neg (by omega), if_pos hmK]
    rw [openD, e, h1, hmK, numS_k2]
    simp only [zag_zig, ← hn]
    rfl
  | pt a b =>
    have hmK : m.K = 4 := hK.symm
    obtain ⟨ha, hb⟩ := hP hmK
    have ha : a = m.N := ha
    have hb : b = m.M := hb
    have hnear : nearB a = true ∧ nearB b = true := by
      cases ho with
      | pt _ _ x y z u => simp [nearB, x, y, z, u]
    obtain ⟨p1, p2⟩ := ptE_near hnear.1 hnear.2
    refine ⟨.pt a b, ?_, hsm⟩
    have e : fldM m bs = [kF m, ⟨2, false, zigN m.N, []⟩, ⟨3, false, zigN m.M, []⟩] := by rw [fldM, restF, if_neg (by omega), if_neg (by omega), if_pos hmK]
    rw [openD, e, h1, hmK, numS_k2, numS_k3]
    simp only [zag_zig, ← ha, ← hb, p1, p2]
    rfl
  | text s =>
    have hmK : m.K = 5 := hK.symm
    have hs2 : s = m.S := hS
    refine ⟨.text s, ?_, hsm⟩
    have e : fldM m bs = kF m :: [m.S].map (fun b => ⟨4, true, 0, b⟩) := by rw [fldM, restF, if_neg (by omega), if_neg (by omega), if_neg (by omega), if_pos hmK]; rfl
    have e2 : manyT (fldM m bs) 4 = [m.S] := by rw [e, hmn, many_same]
    have e3 : blobT (fldM m bs) 4 = m.S := by rw [blobT, e2]
    rw [openD, e3, e2, e, h1, hmK, hs2]; rfl
  | list l =>
    have hmK : m.K = 6 := hK.symm
    have e : fldM m bs = kF m :: bs.map (fun b => ⟨5, true, 0, b⟩) := by rw [fldM, restF, if_neg (by omega), if_neg (by omega), if_neg (by omega), if_neg (by omega), if_pos hmK]
    have e2 : manyT (fldM m bs) 5 = bs := by rw [e, hmn, many_same]
    refine ⟨.list l', ?_, sm_list hmK hS.symm hk.symm hl2 hl3⟩
    have e4 : openD decV (fldM m bs) = (.list ((allO decV (manyT (fldM m bs) 5)).getD []), !(numS (fldM m bs) 1).2 || (allO decV (manyT (fldM m bs) 5)).isNone) := by
      rw [openD]; rw [e, h1, hmK]; rfl
    rw [e4, e2, hl1, e, h1]; rfl
  | map es =>
    have hmK : m.K = 7 := hK.symm
    have e : fldM m bs = kF m :: (m.Keys.map (fun b => ⟨6, true, 0, b⟩) ++ bs.map (fun b => ⟨7, true, 0, b⟩)) := by rw [fldM, restF, if_neg (by omega), if_neg (by omega), if_neg (by omega), if_neg (by omega), if_neg (by omega), if_pos hmK]
    have e2 : manyT (fldM m bs) 7 = bs := by rw [e, hmn, many_app, many_other (by decide), many_same, List.nil_append]
    have e3 : manyT (fldM m bs) 6 = m.Keys := by rw [e, hmn, many_app, many_other (t := 7) (u := 6) (by decide), many_same, List.append_nil]
    have hsrt : m.Keys.Pairwise (· < ·) := by
      rw [← hk]
      cases ho with
      | map _ _ hn _ _ => exact kys_srt hn
    have hkl : m.Keys.length = l'.length := by
      rw [hl2, ← hl, ← hk]; exact (items_keys rfl).symm
    have hnd : m.Keys.Nodup := hsrt.imp fun {a b} h e => by subst e; exact lt_irr _ h
    have hmr := mapR_ok hkl hnd
    refine ⟨.map (m.Keys.zip l'), ?_, sm_map hmK hS.symm rfl hsrt hkl hl2 hl3⟩
    have e4 : openD decV (fldM m bs) = ((mapR (manyT (fldM m bs) 6) ((allO decV (manyT (fldM m bs) 7)).getD [])).1, !(numS (fldM m bs) 1).2 || (allO decV (manyT (fldM m bs) 7)).isNone || decide ((mapR (manyT (fldM m bs) 6) ((allO decV (manyT (fldM m bs) 7)).getD [])).2 ≠ 0)) := by
      rw [openD]; rw [e, h1, hmK]; rfl
    rw [e4, e2, e3, hl1, Option.getD_some, hmr, e, h1]; rfl
theorem dec_encM : ∀ (m : Rv) (v : Vl), Sm v m → v.Ok → Rg m → ∀ c, encM m = (c, 0) → ∃ v', decV c = some v' ∧ Sm v' m := by
  refine Rv.ind fun m ih v hs ho hrg c hc => ?_
  rw [encM_eq] at hc
  split at hc
  · cases hc
  · rename_i hn
    have hr : rightM m = true := by cases h : rightM m with
      | true => rfl
      | false => exact absurd (.inl h) hn
    have hb : badL (m.L.map encM) = false := by cases h : badL (m.L.map encM) with
      | false => rfl
      | true => exact absurd (.inr (.inl h)) hn
    have hz : (Vm.encS (fldM m ((m.L.map encM).map Prod.fst))).2 = 0 := Decidable.byContradiction fun h => hn (.inr (.inr h))
    have hf : fitsQ m = true := by
      simp only [rightM, Bool.and_eq_true] at hr
      have := hr.2
      rw [allM_eq, Bool.and_eq_true] at this; exact this.1
    obtain ⟨hfo, hfl⟩ := fldM_ok hs ho hrg hf
    cases hc
    have hds := dec_enc (l := fldM m ((m.L.map encM).map Prod.fst)) (fun f hf => ⟨(hfo f hf).1, by have := (hfo f hf).2; omega⟩) hz
    have hih : ∀ x ∈ m.L, ∃ v', decV (encM x).1 = some v' ∧ Sm v' x := fun x hx => by
      obtain ⟨i, h2, rfl⟩ := List.getElem_of_mem hx
      have hsi : ∃ y : Vl, Sm y m.L[i] ∧ y.Ok := by
        cases hs with
        | mk _ _ hK hB hS hl hk hN hP hi => exact ⟨v.items[i]'(by omega), hi i (by omega) h2, Ok.items ho _ (List.getElem_mem _)⟩
      obtain ⟨y, hy, hyo⟩ := hsi
      refine ih _ hx y hy hyo (hrg.l _ hx) _ ?_
      have h0 : (encM m.L[i]).2 = 0 := by
        have := List.any_eq_false.1 hb (encM m.L[i]) (List.mem_map.2 ⟨_, hx, rfl⟩)
        simpa using this
      exact Prod.ext rfl h0
    obtain ⟨v', ho1, hs1⟩ := open_enc hs ho hih
    have hfit : Fine v' := by
      have hL : (fldM m ((m.L.map encM).map Prod.fst)).length ≤ 64 := by
        have := dec_le (Vm.encS (fldM m ((m.L.map encM).map Prod.fst))).1
        rw [hds] at this; exact this
      have := fine_open (D := decV) (fun x v h => decV_fine _ x (Nat.le_refl _) v h) hL hfo
      rw [ho1] at this; exact this
    have hsame := (sm_same (mOf v') v' m (sm_mOf v' hfit.1) hs1).2.2
    refine ⟨v', ?_, hs1⟩
    rw [decV_eq, hds]
    simp only [ho1]
    rw [if_neg (by simp), if_neg]
    rw [hsame, encM_eq, if_neg hn]
    simp
end Go.Proofs.YtoicninkfmfnbaaGreat
/- Plain: values are the same just if their bytes are. -/
namespace Go.Proofs.YtoicninkfmfnbaaGreat
open Go.Vm Go.Sort Ieee
theorem signed_up (s : Bool) (m k : Nat) : signed s m k = signed s m 0 * 2 ^ k := by
  have e : ((m * 2 ^ k : Nat) : Int) = (m : Int) * 2 ^ k := by rw [Int.natCast_mul, Int.natCast_pow]; rfl
  cases s <;> simp only [signed, Nat.shiftLeft_eq, Nat.pow_zero, Nat.mul_one, if_true, if_false, Bool.false_eq_true, e]
  rw [Int.neg_mul]
theorem fl_reads (E : Nat) (hE : E = 1074) (n : Int) (h1 : -9007199254740992 ≤ n) (h2 : n ≤ 9007199254740992) : ∃ s m i, FloatKind.f64.format.read (fl n) = .number s m i ∧ -(E : Int) ≤ i ∧ signed s m 0 * 2 ^ (i + E).toNat = n * 2 ^ E := by
  by_cases hz : n = 0
  · subst hz; refine ⟨false, 0, -1074, by decide, by omega, ?_⟩
    rw [show signed false 0 0 = 0 by decide, Int.zero_mul, Int.zero_mul]
  have e75 : (2 : Int) ^ (E + 1) = 2 * 2 ^ E := by rw [Int.pow_succ, Int.mul_comm]
  by_cases ha : n = 9007199254740992
  · subst ha
    refine ⟨false, 4503599627370496, 1, by decide, by omega, ?_⟩
    rw [show ((1 : Int) + E).toNat = E + 1 by omega, e75, ← Int.mul_assoc]; rfl
  by_cases hb : n = -9007199254740992
  · subst hb
    refine ⟨true, 4503599627370496, 1, by decide, by omega, ?_⟩
    rw [show ((1 : Int) + E).toNat = E + 1 by omega, e75, ← Int.mul_assoc]; rfl
  refine ⟨_, _, _, read_near (decide (n < 0)) n.natAbs (by omega) (by omega), by omega, ?_⟩
  have hp : 52 - n.natAbs.log2 ≤ E := by omega
  generalize 52 - n.natAbs.log2 = p at *
  have e : signed (decide (n < 0)) (n.natAbs * 2 ^ p) 0 = n * 2 ^ p := by
    rw [← Nat.zero_add (n.natAbs * 2 ^ p)]
    simp only [signed, Nat.shiftLeft_zero, decide_eq_true_eq, Nat.zero_add, Int.natCast_mul, Int.natCast_pow]
    split
    · rw [← Int.neg_mul]; congr 1; omega
    · congr 1; omega
  rw [e, Int.mul_assoc, ← Int.pow_add, show p + (-(p : Int) + E).toNat = E by omega]
theorem fl_inj {n k : Int} (h1 : -9007199254740992 ≤ n) (h2 : n ≤ 9007199254740992) (k1 : -9007199254740992 ≤ k) (k2 : k ≤ 9007199254740992) (h : Op.floatEq .f64 (fl n) (fl k) = true) : n = k := by
  obtain ⟨E, hE⟩ : ∃ E, E = 1074 := ⟨_, rfl⟩
  obtain ⟨s, m, i, e1, hi, e2⟩ := fl_reads E hE n h1 h2
  obtain ⟨t, l, j, f1, hj, f2⟩ := fl_reads E hE k k1 k2
  unfold Op.floatEq Ieee.Format.order at h
  rw [e1, f1] at h
  simp only [Ieee.Datum.order, beq_iff_eq, Option.some.injEq, Int.compare_eq_eq] at h
  rw [signed_up s, signed_up t] at h
  have p1 : (i + E).toNat = (i - min i j).toNat + (min i j + E).toNat := by omega
  have p2 : (j + E).toNat = (j - min i j).toNat + (min i j + E).toNat := by omega
  rw [p1, Int.pow_add, ← Int.mul_assoc, h] at e2
  rw [p2, Int.pow_add, ← Int.mul_assoc] at f2
  have := e2.symm.trans f2
  exact Int.eq_of_mul_eq_mul_right (Int.ne_of_gt (Int.pow_pos (by decide))) this
theorem kys_look {es : List (List UInt8 × Vl)} (hn : (es.map Prod.fst).Nodup) {p : List UInt8 × Vl} (hp : p ∈ es) : ∃ i, ∃ h : i < (kys es).length, ∃ h2 : i < (Vl.map es).items.length, (kys es)[i] = p.1 ∧ (Vl.map es).items[i] = p.2 := by
  obtain ⟨i, h, e⟩ := List.getElem_of_mem ((kys_mem es p.1).2 (List.mem_map_of_mem hp))
  refine ⟨i, h, by simpa [Vl.items] using h, e, ?_⟩
  have e9 : (Vl.map es).items[i]'(by simpa [Vl.items] using h) = look es (kys es)[i] := List.getElem_map ..
  rw [e9, e, look, fnd_self hn p hp]; rfl
theorem sameL_of : ∀ (l l' : List Vl), l.length = l'.length → (∀ i (h : i < l.length) (h2 : i < l'.length), sameV l[i] l'[i] = true) → sameL (l.map sameV) l' = true
  | [], [], _, _ => rfl
  | [], _ :: _, h, _ => by simp at h
  | _ :: _, [], h, _ => by simp at h
  | x :: l, y :: l', h, hi => by
    rw [List.map_cons, sameL, hi 0 (by simp) (by simp)|> (fun e => show sameV x y = true from e), sameL_of l l' (by simpa using h) (fun i h1 h2 => hi (i + 1) (by simpa using h1) (by simpa using h2))]; rfl
theorem sameL_to : ∀ (l l' : List Vl), sameL (l.map sameV) l' = true → l.length = l'.length ∧ ∀ i (h : i < l.length) (h2 : i < l'.length), sameV l[i] l'[i] = true
  | [], [], _ => ⟨rfl, by intro i h; simp at h⟩
  | [], _ :: _, h => by simp [sameL] at h
  | _ :: _, [], h => by simp [sameL] at h
  | x :: l, y :: l', h => by
    rw [List.map_cons, sameL, Bool.and_eq_true] at h
    obtain ⟨h1, h2⟩ := sameL_to l l' h.2
    refine ⟨by simp [h1], fun i h3 h4 => ?_⟩
    cases i with
    | zero => exact h.1
    | succ i => exact h2 i (by simpa using h3) (by simpa using h4)
theorem sm_tr : ∀ (m : Rv) (a b : Vl) (m' : Rv), Sm a m → Sm b m → Sm b m' → Sm a m' := by
  refine Rv.ind fun m ih a b m' h1 h2 h3 => ?_
  cases h1 with
  | mk _ _ hK hB hS hl hk hN hP hi =>
  cases h2 with
  | mk _ _ hK' hB' hS' hl' hk' hN' hP' hi' =>
  cases h3 with
  | mk _ _ gK gB gS gl gk gN gP gi =>
  have eK : m.K = m'.K := hK'.symm.trans gK
  refine .mk _ _ (by rw [hK, eK]) (by rw [hB, ← hB', gB]) (by rw [hS, ← hS', gS]) (by rw [hl, ← hl', gl]) (by rw [hk, ← hk', gk]) (fun h => by rw [hN (by omega), ← hN' (by omega), gN h]) (fun h => ⟨by rw [(hP (by omega)).1, ← (hP' (by omega)).1, (gP h).1], by rw [(hP (by omega)).2, ← (hP' (by omega)).2, (gP h).2]⟩) (fun i h4 h5 => ?_)
  have h6 : i < m.L.length := by omega
  exact ih _ (List.getElem_mem h6) _ _ _ (hi i h4 h6) (hi' i (by omega) h6) (gi i (by omega) h5)
theorem sm_sameV : ∀ (m : Rv) (a b : Vl), Sm a m → Sm b m → a.Ok → b.Ok → sameV a b = true := by
  refine Rv.ind fun m ih a b h1 h2 ha hb => ?_
  cases h1 with
  | mk _ _ hK hB hS hl hk hN hP hi =>
  cases h2 with
  | mk _ _ hK' hB' hS' hl' hk' hN' hP' hi' =>
  have eK : a.kind = b.kind := hK.trans hK'.symm
  have hll : a.items.length = b.items.length := by omega
  have hsub : ∀ i (h : i < a.items.length) (h2 : i < b.items.length), sameV a.items[i] b.items[i] = true := fun i h4 h5 => ih _ (List.getElem_mem (show i < m.L.length by omega)) _ _ (hi i h4 (by omega)) (hi' i h5 (by omega)) (Ok.items ha _ (List.getElem_mem _)) (Ok.items hb _ (List.getElem_mem _))
  cases a <;> cases b <;> first | (simp [Vl.kind] at eK; done) | skip
  · rw [sameV]; rfl
  · rw [sameV]; rfl
  · rw [sameV]; simp only [Vl.isB] at hB hB'; simp [leafE, hB, hB']
  · rw [sameV]
    have e1 := hN hK.symm; have e2 := hN' hK'.symm
    simp only [Vl.isI] at e1 e2; simp [leafE, e1, e2]
  · rename_i n k n' k'
    rw [sameV]
    obtain ⟨e1, e2⟩ := hP hK.symm; obtain ⟨e3, e4⟩ := hP' hK'.symm
    simp only [Vl.isP] at e1 e2 e3 e4
    have e5 : n' = n := by omega
    have e6 : k' = k := by omega
    subst e5 e6
    cases ha with
    | pt _ _ x y z u => simp [leafE, fl_eq _ x y, fl_eq _ z u]
  · rw [sameV]; simp only [Vl.isT] at hS hS'; simp [leafE, hS, hS']
  · rw [sameV_list]; exact sameL_of _ _ hll hsub
  · rename_i es es'
    rw [sameV_map]
    have hks : kys es = kys es' := hk.trans hk'.symm
    have hlen : es.length = es'.length := by rw [← kys_length es, hks, kys_length]
    have hn : (es.map Prod.fst).Nodup := by cases ha with | map _ _ h _ _ => exact h
    simp only [decide_eq_true hlen, Bool.true_and, sameM, List.all_map, List.all_eq_true, Function.comp]
    intro p hp
    obtain ⟨i, h6, h7, e1, e2⟩ := kys_look hn hp
    have hmem : p.1 ∈ es'.map Prod.fst := (kys_mem es' p.1).1 (by rw [← hks]; exact e1 ▸ List.getElem_mem h6)
    obtain ⟨y, hy⟩ := fnd_some hmem
    rw [hy]
    have h8 : i < (Vl.map es').items.length := by omega
    have := hsub i h7 h8
    have e3 : (Vl.map es').items[i] = y := by
      have e9 : (Vl.map es').items[i] = look es' ((kys es')[i]'(by rw [← hks]; exact h6)) := List.getElem_map ..
      rw [e9]; simp only [← hks]; rw [e1, look, hy]; rfl
    rw [e2, e3] at this; exact this
theorem perm_of_sub : ∀ {l l' : List (List UInt8)}, l.Nodup → l ⊆ l' → l.length = l'.length → l.Perm l'
  | [], l', _, _, h => by
    cases l' with
    | nil => exact List.Perm.refl _
    | cons a l => simp at h
  | a :: l, l', hn, hs, h => by
    rw [List.nodup_cons] at hn
    have ha : a ∈ l' := hs List.mem_cons_self
    have hp := List.perm_cons_erase ha
    refine (List.Perm.cons a (perm_of_sub hn.2 (fun x hx => ?_) ?_)).trans hp.symm
    · have : x ≠ a := fun e => hn.1 (e ▸ hx)
      exact (List.mem_erase_of_ne this).2 (hs (List.mem_cons_of_mem _ hx))
    · have := hp.length_eq
      simp only [List.length_cons] at h this; omega
theorem sameV_sm : ∀ (m : Rv) (a b : Vl), Sm a m → a.Ok → b.Ok → sameV a b = true → Sm b m := by
  refine Rv.ind fun m ih a b h1 ha hb hs => ?_
  have h1c := h1
  cases h1 with
  | mk _ _ hK hB hS hl hk hN hP hi =>
  cases a with
  | nul => cases b <;> first | exact h1c | (simp [sameV_leaf, leafE] at hs; done) | (rw [sameV] at hs; simp [leafE] at hs; done)
  | unk => cases b <;> first | exact h1c | (rw [sameV] at hs; simp [leafE] at hs; done)
  | bool x =>
    cases b <;> first | (rw [sameV] at hs; simp [leafE] at hs; done) | skip
    rw [sameV] at hs; simp only [leafE, beq_iff_eq] at hs; subst hs; exact h1c
  | int x =>
    cases b <;> first | (rw [sameV] at hs; simp [leafE] at hs; done) | skip
    rw [sameV] at hs; simp only [leafE, decide_eq_true_eq] at hs; subst hs; exact h1c
  | text x =>
    cases b <;> first | (rw [sameV] at hs; simp [leafE] at hs; done) | skip
    rw [sameV] at hs; simp only [leafE, decide_eq_true_eq] at hs; subst hs; exact h1c
  | pt x y =>
    cases b <;> first | (rw [sameV] at hs; simp [leafE] at hs; done) | skip
    rename_i x' y'
    rw [sameV] at hs; simp only [leafE, Bool.and_eq_true] at hs
    cases ha with
    | pt _ _ a1 a2 a3 a4 =>
    cases hb with
    | pt _ _ b1 b2 b3 b4 =>
    have e1 := fl_inj a1 a2 b1 b2 hs.1
    have e2 := fl_inj a3 a4 b3 b4 hs.2
    subst e1 e2; exact h1c
  | list l =>
    cases b <;> first | (rw [sameV_list] at hs; simp at hs; done) | skip
    rename_i l'
    rw [sameV_list] at hs
    obtain ⟨hll, hsub⟩ := sameL_to _ _ hs
    have hl9 : l'.length = m.L.length := hll.symm.trans hl
    refine .mk _ _ hK (by rw [← hB]; rfl) (by rw [← hS]; rfl) hl9 (by rw [← hk]; rfl) (fun h => by rw [← hK] at h; cases h) (fun h => by rw [← hK] at h; cases h) (fun i h4 h5 => ?_)
    have h4' : i < l'.length := h4
    have h6 : i < l.length := by omega
    exact ih _ (List.getElem_mem h5) l[i] l'[i] (hi i h6 h5) ((ok_list ha).2 _ (List.getElem_mem _)) ((ok_list hb).2 _ (List.getElem_mem _)) (hsub i h6 h4')
  | map es =>
    cases b <;> first | (rw [sameV_map] at hs; simp at hs; done) | skip
    rename_i es'
    rw [sameV_map] at hs
    simp only [Bool.and_eq_true, decide_eq_true_eq, sameM, List.all_map, List.all_eq_true, Function.comp] at hs
    obtain ⟨hll, hsub⟩ := hs
    have hn : (es.map Prod.fst).Nodup := by cases ha with | map _ _ h _ _ => exact h
    have hn' : (es'.map Prod.fst).Nodup := by cases hb with | map _ _ h _ _ => exact h
    have hsome : ∀ p ∈ es, ∃ y, fnd p.1 es' = some y ∧ sameV p.2 y = true := fun p hp => by
      have := hsub p hp
      cases hf : fnd p.1 es' with
      | none => rw [hf] at this; cases this
      | some y => rw [hf] at this; exact ⟨y, rfl, this⟩
    have hsubk : es.map Prod.fst ⊆ es'.map Prod.fst := fun k hk => by
      obtain ⟨p, hp, rfl⟩ := List.mem_map.1 hk
      obtain ⟨y, hy, _⟩ := hsome p hp
      exact (fnd_isSome p.1 es').1 (by rw [hy]; rfl)
    have hperm : (es.map Prod.fst).Perm (es'.map Prod.fst) := perm_of_sub hn hsubk (by simp [hll])
    have hks : kys es = kys es' := by rw [kys, kys, mergeSort_of_perm hperm]
    have hl9 : (Vl.map es').items.length = m.L.length := by rw [← hl]; simp [Vl.items, hks]
    refine .mk _ _ hK (by rw [← hB]; rfl) (by rw [← hS]; rfl) hl9 (by rw [← hk]; exact hks.symm) (fun h => by rw [← hK] at h; cases h) (fun h => by rw [← hK] at h; cases h) (fun i h4 h5 => ?_)
    have h6 : i < (Vl.map es).items.length := by omega
    have h7 : i < (kys es).length := by simpa [Vl.items] using h6
    have h8 : i < (kys es').length := by rw [← hks]; exact h7
    have hmem := (kys_mem es _).1 (List.getElem_mem h7)
    obtain ⟨p, hp, e1⟩ := List.mem_map.1 hmem
    obtain ⟨y, hy, hsy⟩ := hsome p hp
    have e2 : (Vl.map es).items[i] = p.2 := by
      have e9 : (Vl.map es).items[i] = look es (kys es)[i] := List.getElem_map ..
      rw [e9, ← e1, look, fnd_self hn p hp]; rfl
    have e3 : (Vl.map es').items[i] = y := by
      have e9 : (Vl.map es').items[i] = look es' (kys es')[i] := List.getElem_map ..
      rw [e9]; simp only [← hks]; rw [← e1, look, hy]; rfl
    have hy2 : y.Ok := e3 ▸ Ok.items hb _ (List.getElem_mem _)
    rw [e3]
    exact ih _ (List.getElem_mem h5) p.2 y (e2 ▸ hi i h6 h5) (ok_map ha p hp) hy2 hsy
theorem apart {a b : Vl} {m m' : Rv} (ha : Sm a m) (hb : Sm b m') (oa : a.Ok) (ob : b.Ok) (ra : Rg m) (rb : Rg m') (ea : (encM m).2 = 0) (eb : (encM m').2 = 0) : decide ((encM m).1 = (encM m').1) = sameV a b := by
  by_cases h : (encM m).1 = (encM m').1
  · rw [decide_eq_true h]
    obtain ⟨v, h1, h2⟩ := dec_encM m a ha oa ra (encM m).1 (Prod.ext rfl ea)
    obtain ⟨w, h3, h4⟩ := dec_encM m' b hb ob rb (encM m').1 (Prod.ext rfl eb)
    rw [← h] at h3
    cases h1.symm.trans h3
    exact (sm_sameV m' a b (sm_tr m a v m' ha h2 h4) hb oa ob).symm
  · rw [decide_eq_false h]
    cases hs : sameV a b with
    | false => rfl
    | true => exact absurd (congrArg Prod.fst (sm_same m b m' (sameV_sm m a b ha oa ob hs) hb).2.2) h
end Go.Proofs.YtoicninkfmfnbaaGreat
