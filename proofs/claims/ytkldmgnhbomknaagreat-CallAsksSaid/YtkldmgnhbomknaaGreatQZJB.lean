/- Contracts of functions of the given program. Conditions: as each theorem says. -/
import Derived.Test.YtkldmgnhbomknaaGreatQZJA
import Derived.Test.YtkldmgnhbomknaaGreatQZKGE
set_option linter.unusedVariables false
set_option linter.unusedSimpArgs false
/- Plain: what bytes' value is like. -/
namespace Go.Proofs.YtkldmgnhbomknaaGreat
open Go.Vm
inductive Rg : Rv → Prop where
  | mk (m : Rv) : (m.K = 3 → -9223372036854775808 ≤ m.N ∧ m.N < 9223372036854775808) → (∀ x ∈ m.L,Rg x) → Rg m
theorem Rg.n {m : Rv} (h : Rg m) : m.K = 3 → -9223372036854775808 ≤ m.N ∧ m.N < 9223372036854775808 := by cases h; assumption
theorem Rg.l {m : Rv} (h : Rg m) : ∀ x ∈ m.L,Rg x := by cases h; assumption
def Fine (v : Vl) : Prop := v.Ok ∧ Rg (mOf v)
theorem rg_leaf {m : Rv} (h3 : m.K = 3 → -9223372036854775808 ≤ m.N ∧ m.N < 9223372036854775808) (hl : m.L = []) : Rg m := .mk m h3 (by rw [hl]; simp)
theorem fine_nul : Fine .nul := ⟨.nul,by rw [mOf_nul]; exact rg_leaf (by intro h; cases h) rfl⟩
theorem fine_unk : Fine .unk := ⟨.unk,by rw [mOf]; exact rg_leaf (by intro h; cases h) rfl⟩
theorem fine_bool (b : Bool) : Fine (.bool b) := ⟨.bool b,by rw [mOf]; exact rg_leaf (by intro h; cases h) rfl⟩
theorem fine_text (s : List UInt8) : Fine (.text s) := ⟨.text s,by rw [mOf]; exact rg_leaf (by intro h; cases h) rfl⟩
theorem fine_int {n : Int} (h : -9223372036854775808 ≤ n ∧ n < 9223372036854775808) : Fine (.int n) := ⟨.int n,by rw [mOf]; exact rg_leaf (fun _ => h) rfl⟩
theorem fine_pt (n m : Int) : Fine (ptV n m) := by
  unfold ptV
  split
  · rename_i h
    simp only [nearB,Bool.and_eq_true,decide_eq_true_eq] at h
    exact ⟨.pt n m h.1.1 h.1.2 h.2.1 h.2.2,by rw [mOf]; exact rg_leaf (by intro h; cases h) rfl⟩
  · exact fine_nul
theorem fine_list {l : List Vl} (hl : l.length ≤ 1000000000000) (h : ∀ x ∈ l,Fine x) : Fine (.list l) :=
  ⟨.list l (by omega) (fun x hx => (h x hx).1),by
    rw [mOf_list]
    refine .mk _ (by intro h; cases h) (fun x hx => ?_)
    obtain ⟨y,hy,rfl⟩ := List.mem_map.1 hx
    exact (h y hy).2⟩
theorem fine_map {es : List (List UInt8 × Vl)} (hl : es.length ≤ 1000000000000) (hn : (es.map Prod.fst).Nodup) (hk : ∀ p ∈ es,p.1.length ≤ 9223372036854775807) (h : ∀ p ∈ es,Fine p.2) : Fine (.map es) :=
  ⟨.map es (by omega) hn hk (fun p hp => (h p hp).1),by
    rw [mOf_map]
    refine .mk _ (by intro h; cases h) (fun x hx => ?_)
    obtain ⟨k,hk,rfl⟩ := List.mem_map.1 hx
    rw [look]
    cases hf : fnd k es with
    | none => exact fine_nul.2
    | some y =>
      obtain ⟨p,hp,rfl⟩ := fnd_in hf
      exact (h p hp).2⟩
theorem fine_mapR {ks : List (List UInt8)} {l : List Vl} (hl : l.length ≤ 1000000000000) (hk : ∀ k ∈ ks,k.length ≤ 9223372036854775807) (h : ∀ x ∈ l,Fine x) : Fine (mapR ks l).1 := by
  by_cases he : ks.length = l.length
  · by_cases hn : ks.Nodup
    · rw [mapR_ok he hn]
      refine fine_map (by rw [List.length_zip]; omega) ?_ (fun p hp => ?_) (fun p hp => ?_)
      · rw [List.map_fst_zip (by omega)]; exact hn
      · obtain ⟨a,b⟩ := p; exact hk a (List.of_mem_zip hp).1
      · obtain ⟨a,b⟩ := p; exact h b (List.of_mem_zip hp).2
    · rw [mapR_twice he hn]; exact fine_nul
  · unfold mapR; rw [if_pos he]; exact fine_nul
theorem allO_all {D : List UInt8 → Option Vl} {P : Vl → Prop} (hD : ∀ b v,D b = some v → P v) : ∀ {l : List (List UInt8)} {r : List Vl},allO D l = some r → r.length = l.length ∧ ∀ x ∈ r,P x
  | [],r,h => by cases h; exact ⟨rfl,by simp⟩
  | b :: l,r,h => by
    rw [allO] at h
    cases hb : D b with
    | none => rw [hb] at h; cases h
    | some v =>
      rw [hb] at h
      simp only at h
      cases hr : allO D l with
      | none => rw [hr] at h; cases h
      | some r2 =>
        rw [hr] at h
        cases h
        obtain ⟨h1,h2⟩ := allO_all hD hr
        refine ⟨by simp [h1],fun x hx => ?_⟩
        rcases List.mem_cons.1 hx with rfl | hx
        · exact hD b _ hb
        · exact h2 x hx
theorem many_len (l : List Fld) (t : Int) : (manyT l t).length ≤ l.length := by unfold manyT; rw [List.length_map]; exact List.length_filter_le _ _
theorem many_mem {l : List Fld} {t : Int} {b : List UInt8} (h : b ∈ manyT l t) : ∃ f ∈ l,f.tag = t ∧ f.by_ = true ∧ f.b = b := by
  obtain ⟨f,hf,rfl⟩ := List.mem_map.1 h
  have := (List.mem_filter.1 hf).2
  simp only [Bool.and_eq_true,decide_eq_true_eq] at this
  exact ⟨f,(List.mem_filter.1 hf).1,this.1,this.2,rfl⟩
theorem numS_lt {l : List Fld} {t : Int} (h : ∀ f ∈ l,f.n < 18446744073709551616) : (numS l t).1 < 18446744073709551616 := by
  unfold numS Msg.numS
  split
  · simp
  · rename_i f hf
    exact h f (List.mem_of_find?_eq_some hf)
theorem fine_open {D : List UInt8 → Option Vl} {L : List Fld} (hD : ∀ b v,D b = some v → Fine v) (hl : L.length ≤ 64) (hf : ∀ f ∈ L,f.n < 18446744073709551616 ∧ f.b.length ≤ 4096) : Fine (openD D L).1 := by
  have hit : ∀ t,Fine (.list ((allO D (manyT L t)).getD [])) ∧ ((allO D (manyT L t)).getD []).length ≤ 1000000000000 ∧ ∀ x ∈ (allO D (manyT L t)).getD [],Fine x := fun t => by
    cases ha : allO D (manyT L t) with
    | none => exact ⟨fine_list (by simp) (by simp),by simp,by simp⟩
    | some r =>
      obtain ⟨h1,h2⟩ := allO_all hD ha
      have := many_len L t
      exact ⟨fine_list (by simp only [Option.getD_some]; omega) h2,by simp only [Option.getD_some]; omega,h2⟩
  unfold openD
  split
  · exact fine_unk
  · exact fine_bool _
  · exact fine_int (zag_in (numS_lt fun f h => (hf f h).1))
  · exact fine_pt _ _
  · exact fine_text _
  · exact (hit 5).1
  · refine fine_mapR (hit 7).2.1 (fun k hk => ?_) (hit 7).2.2
    obtain ⟨f,h,_,_,rfl⟩ := many_mem hk
    have := (hf f h).2; omega
  · exact fine_nul
theorem decV_fine : ∀ (n : Nat) (b : List UInt8),b.length ≤ n → ∀ v,decV b = some v → Fine v := by
  intro n
  induction n using Nat.strongRecOn with
  | _ n ih =>
    intro b hb v h
    rw [decV_eq] at h
    split at h
    · cases h
    · rename_i hz
      have hz : (decS b).2.2 = 0 := by simpa using hz
      split at h
      · cases h
      · cases h
        obtain ⟨_,h2,_,h4⟩ := enc_dec hz
        have hc := openD_congr (D := decV) (D' := fun x => if x.length < b.length then decV x else none) (L := (decS b).1) (fun f hf => by
          show _ = (if f.b.length < b.length then decV f.b else none)
          rw [if_pos (dec_lt hz f hf)])
        rw [hc]
        have h5 : b.length ≤ 4096 := by
          refine Decidable.byContradiction fun h9 => ?_
          rw [decS,if_pos (by omega)] at hz; cases hz
        refine fine_open (fun x y hx => ?_) h2 (fun f hf => ⟨(h4 f hf).1,Nat.le_trans (h4 f hf).2 h5⟩)
        by_cases hlt : x.length < b.length
        · rw [if_pos hlt] at hx; exact ih x.length (by omega) x (Nat.le_refl _) y hx
        · rw [if_neg hlt] at hx; cases hx
end Go.Proofs.YtkldmgnhbomknaaGreat
/- Plain: a value's bytes are the value's. -/
namespace Go.Proofs.YtkldmgnhbomknaaGreat
open Go.Vm Go.Sort
theorem sm_same : ∀ (m : Rv) (v : Vl) (m' : Rv),Sm v m → Sm v m' → deepI m = deepI m' ∧ allM fitsQ m = allM fitsQ m' ∧ encM m = encM m' := by
  refine Rv.ind fun m ih v m' h h' => ?_
  cases h with
  | mk _ _ hK hB hS hl hk hN hP hi =>
  cases h' with
  | mk _ _ hK' hB' hS' hl' hk' hN' hP' hi' =>
  have hLL : m.L.length = m'.L.length := hl.symm.trans hl'
  have hel : ∀ i (h1 : i < m.L.length) (h2 : i < m'.L.length),deepI m.L[i] = deepI m'.L[i] ∧ allM fitsQ m.L[i] = allM fitsQ m'.L[i] ∧ encM m.L[i] = encM m'.L[i] := fun i h1 h2 => ih _ (List.getElem_mem h1) _ _ (hi i (by omega) h1) (hi' i (by omega) h2)
  have e1 : m.L.map deepI = m'.L.map deepI := List.ext_getElem (by simp [hLL]) (fun i h1 h2 => by rw [List.getElem_map,List.getElem_map]; exact (hel i (by simpa using h1) (by simpa using h2)).1)
  have e2 : m.L.map (allM fitsQ) = m'.L.map (allM fitsQ) := List.ext_getElem (by simp [hLL]) (fun i h1 h2 => by rw [List.getElem_map,List.getElem_map]; exact (hel i (by simpa using h1) (by simpa using h2)).2.1)
  have e3 : m.L.map encM = m'.L.map encM := List.ext_getElem (by simp [hLL]) (fun i h1 h2 => by rw [List.getElem_map,List.getElem_map]; exact (hel i (by simpa using h1) (by simpa using h2)).2.2)
  have eK : m.K = m'.K := hK.symm.trans hK'
  have eS : m.S = m'.S := hS.symm.trans hS'
  have ek : m.Keys = m'.Keys := hk.symm.trans hk'
  have hb : m.K = 2 → m.B = m'.B := fun h => by
    rw [h] at hB; rw [← eK,h] at hB'
    simp only [decide_true,Bool.true_and] at hB hB'
    rw [← hB,← hB']
  have hn : m.K = 3 → m.N = m'.N := fun h => (hN h).symm.trans (hN' (eK ▸ h))
  have hp : m.K = 4 → m.N = m'.N ∧ m.M = m'.M := fun h => ⟨(hP h).1.symm.trans (hP' (eK ▸ h)).1,(hP h).2.symm.trans (hP' (eK ▸ h)).2⟩
  have d : deepI m = deepI m' := by rw [deepI_eq,deepI_eq,deepL,deepL,e1]
  have q : allM fitsQ m = allM fitsQ m' := by
    have h9 : ∀ l : List Rv,l.all (allM fitsQ) = (l.map (allM fitsQ)).all id := by intro l; rw [List.all_map]; rfl
    rw [allM_eq,allM_eq,h9,h9,e2,fitsQ,fitsQ,eS,ek,hLL]
  refine ⟨d,q,?_⟩
  have r : rightM m = rightM m' := by rw [rightM,rightM,d,q]
  have f : ∀ bs,fldM m bs = fldM m' bs := by
    intro bs
    rw [fldM,fldM,kF,kF,← eK,eS,ek]
    congr 1
    unfold restF
    by_cases c2 : m.K = 2
    · rw [if_pos c2,if_pos c2,hb c2]
    · rw [if_neg c2,if_neg c2]
      by_cases c3 : m.K = 3
      · rw [if_pos c3,if_pos c3,hn c3]
      · rw [if_neg c3,if_neg c3]
        by_cases c4 : m.K = 4
        · rw [if_pos c4,if_pos c4,(hp c4).1,(hp c4).2]
        · rw [if_neg c4,if_neg c4]
  rw [encM_eq,encM_eq,r,e3,f]
theorem kys_srt {es : List (List UInt8 × Vl)} (hn : (es.map Prod.fst).Nodup) : (kys es).Pairwise (· < ·) := by
  have h1 : (kys es).Pairwise (fun a b => leB a b = true) := List.pairwise_mergeSort
    (fun a b c h k => by
      simp only [leB,decide_eq_true_eq] at h k ⊢
      exact fun h9 => by
        by_cases hab : a = b
        · subst hab; exact k h9
        · exact k (lt_tr h9 (lt_of h (Ne.symm hab))))
    (fun a b => by
      simp only [leB,Bool.or_eq_true,decide_eq_true_eq]
      by_cases h : b < a
      · exact .inr fun h2 => lt_irr _ (lt_tr h h2)
      · exact .inl h) _
  have h2 : (kys es).Nodup := (List.mergeSort_perm _ _).nodup_iff.2 hn
  refine (h1.and h2).imp fun {a b} h => ?_
  have h3 := h.1
  simp only [leB,decide_eq_true_eq] at h3
  exact lt_of h3 (Ne.symm h.2)
theorem sm_list {l : List Vl} {m : Rv} (hK : m.K = 6) (hS : m.S = []) (hk : m.Keys = []) (hl : l.length = m.L.length) (hi : ∀ i (h : i < l.length) (h2 : i < m.L.length),Sm l[i] m.L[i]) : Sm (.list l) m :=
  .mk _ _ hK.symm (by rw [hK]; rfl) hS.symm hl hk.symm (fun h => by rw [hK] at h; cases h) (fun h => by rw [hK] at h; cases h) hi
theorem zip_items {ks : List (List UInt8)} {l : List Vl} (hs : ks.Pairwise (· < ·)) (hkl : ks.length = l.length) : (Vl.map (ks.zip l)).items = l ∧ kys (ks.zip l) = ks := by
  have e0 : (ks.zip l).map Prod.fst = ks := List.map_fst_zip (by omega)
  have hk : kys (ks.zip l) = ks := kys_of (by rw [e0]) hs
  have hn : ks.Nodup := hs.imp fun {a b} h e => by subst e; exact lt_irr _ h
  refine ⟨?_,hk⟩
  rw [Vl.items,hk]
  refine List.ext_getElem (by simp [hkl]) (fun i h1 h2 => ?_)
  have h3 : i < ks.length := by simpa using h1
  rw [List.getElem_map,look,fnd_of_mem (k := ks[i]) (x := l[i]) (by rw [e0]; exact hn) ?_]
  · rfl
  · have h4 : i < (ks.zip l).length := by rw [List.length_zip]; omega
    have : (ks.zip l)[i] = (ks[i],l[i]) := List.getElem_zip
    rw [← this]; exact List.getElem_mem h4
theorem sm_map {ks : List (List UInt8)} {l : List Vl} {m : Rv} (hK : m.K = 7) (hS : m.S = []) (hk : m.Keys = ks) (hs : ks.Pairwise (· < ·)) (hkl : ks.length = l.length) (hl : l.length = m.L.length) (hi : ∀ i (h : i < l.length) (h2 : i < m.L.length),Sm l[i] m.L[i]) : Sm (.map (ks.zip l)) m := by
  obtain ⟨e1,e2⟩ := zip_items hs hkl
  refine .mk _ _ hK.symm (by rw [hK]; rfl) hS.symm (by rw [e1]; exact hl) (by rw [hk]; exact e2) (fun h => by rw [hK] at h; cases h) (fun h => by rw [hK] at h; cases h) (fun i h h2 => ?_)
  have h3 : i < l.length := by rw [e1] at h; exact h
  have : (Vl.map (ks.zip l)).items[i] = l[i] := by simp only [e1]
  rw [this]; exact hi i h3 h2
theorem many_app (a b : List Fld) (t : Int) : manyT (a ++ b) t = manyT a t ++ manyT b t := by simp [manyT]
theorem many_same (t : Int) : ∀ bs : List (List UInt8),manyT (bs.map fun b => ⟨t,true,0,b⟩) t = bs
  | [] => rfl
  | b :: bs => by
    have := many_same t bs
    unfold manyT at this ⊢
    rw [List.map_cons,List.filter_cons,if_pos (by simp),List.map_cons,this]
theorem many_other {t u : Int} (h : t ≠ u) : ∀ bs : List (List UInt8),manyT (bs.map fun b => ⟨t,true,0,b⟩) u = []
  | [] => rfl
  | b :: bs => by
    have := many_other h bs
    unfold manyT at this ⊢
    rw [List.map_cons,List.filter_cons,if_neg (by simp [h]),this]
theorem many_kF (m : Rv) (l : List Fld) (t : Int) : manyT (kF m :: l) t = manyT l t := by
  unfold manyT
  rw [List.filter_cons,if_neg (by simp [kF])]
theorem allO_of : ∀ L : List Rv,(∀ x ∈ L,∃ v',decV (encM x).1 = some v' ∧ Sm v' x) → ∃ l',allO decV ((L.map encM).map Prod.fst) = some l' ∧ l'.length = L.length ∧ ∀ i (h : i < l'.length) (h2 : i < L.length),Sm l'[i] L[i]
  | [],_ => ⟨[],rfl,rfl,by intro i h; simp at h⟩
  | x :: L,hx => by
    obtain ⟨v,h1,h2⟩ := hx x List.mem_cons_self
    obtain ⟨l',h3,h4,h5⟩ := allO_of L fun y hy => hx y (List.mem_cons_of_mem _ hy)
    refine ⟨v :: l',?_,by simp [h4],fun i h6 h7 => ?_⟩
    · rw [List.map_cons,List.map_cons,allO,h1,h3]; rfl
    · cases i with
      | zero => exact h2
      | succ i => exact h5 i (by simpa using h6) (by simpa using h7)
theorem numS_kF (m : Rv) (l : List Fld) : numS (kF m :: l) 1 = (m.K.toNat,true) := by
  rw [numS,Msg.numS,List.find?_cons_of_pos (by simp [Msg.numT,kF])]; rfl
theorem numS_k2 (m : Rv) (n : Nat) (l : List Fld) : numS (kF m :: ⟨2,false,n,[]⟩ :: l) 2 = (n,true) := by
  rw [numS,Msg.numS,List.find?_cons_of_neg (by simp [Msg.numT,kF]),List.find?_cons_of_pos (by simp [Msg.numT])]
theorem numS_k3 (m : Rv) (n k : Nat) : numS [kF m,⟨2,false,n,[]⟩,⟨3,false,k,[]⟩] 3 = (k,true) := by
  rw [numS,Msg.numS,List.find?_cons_of_neg (by simp [Msg.numT,kF]),List.find?_cons_of_neg (by simp [Msg.numT]),List.find?_cons_of_pos (by simp [Msg.numT])]
end Go.Proofs.YtkldmgnhbomknaaGreat
/- Plain: an int without its sign, in bits. -/
namespace Go.Proofs.YtkldmgnhbomknaaGreat
open Go.Vm
theorem bv_nat {x : Nat} (h : x < 18446744073709551616) : (BitVec.ofInt 64 (x : Int)).toNat = x := by
  rw [BitVec.toNat_ofInt]; omega
theorem xor_0 {x : Nat} (h : x < 18446744073709551616) : (BitVec.ofInt 64 (x : Int) ^^^ BitVec.ofInt 64 0).toNat = x := by
  have : BitVec.ofInt 64 0 = 0#64 := by decide
  rw [this,BitVec.xor_zero,bv_nat h]
theorem xor_m1 {x : Nat} (h : x < 18446744073709551616) : (BitVec.ofInt 64 (x : Int) ^^^ BitVec.ofInt 64 (-1)).toNat = 18446744073709551615 - x := by
  have : BitVec.ofInt 64 (-1) = BitVec.allOnes 64 := by decide
  rw [this,BitVec.xor_allOnes,BitVec.toNat_not,bv_nat h]
theorem xor_big {x : Nat} (h : x < 18446744073709551616) : (BitVec.ofInt 64 (x : Int) ^^^ BitVec.ofInt 64 18446744073709551615).toNat = 18446744073709551615 - x := by
  have : BitVec.ofInt 64 18446744073709551615 = BitVec.ofInt 64 (-1) := by decide
  rw [this,xor_m1 h]
theorem u64w (n : Int) : IntKind.u64.wrap n = n % 18446744073709551616 := by
  unfold IntKind.wrap; simp [IntKind.bits,IntKind.signed]
theorem fdiv63 {n : Int} (h : -9223372036854775808 ≤ n ∧ n < 9223372036854775808) : n.fdiv (2 ^ min 63 64) = if 0 ≤ n then 0 else -1 := by
  rw [show (2 : Int) ^ min 63 64 = 9223372036854775808 by decide,Int.fdiv_eq_ediv_of_nonneg _ (by omega)]
  split <;> omega
theorem zig_bits {n : Int} (h : -9223372036854775808 ≤ n ∧ n < 9223372036854775808) : IntKind.u64.wrap (((BitVec.ofInt 64 (IntKind.u64.wrap (IntKind.u64.wrap n * 2 ^ min 1 64)) ^^^ BitVec.ofInt 64 (IntKind.u64.wrap (n.fdiv (2 ^ min 63 64)))).toNat : Nat) : Int) = (zigN n : Nat) := by
  rw [fdiv63 h,show (2 : Int) ^ min 1 64 = 2 by decide,u64w,u64w,u64w,u64w]
  unfold zigN
  by_cases h0 : 0 ≤ n
  · rw [if_pos h0,if_pos h0]
    obtain ⟨k,rfl⟩ : ∃ k : Nat,n = k := ⟨n.toNat,by omega⟩
    rw [show ((k : Int) % 18446744073709551616 * 2) % 18446744073709551616 = ((2 * k : Nat) : Int) by omega,show (0 : Int) % 18446744073709551616 = 0 by decide,xor_0 (by omega)]
    omega
  · rw [if_neg h0,if_neg h0]
    obtain ⟨k,rfl⟩ : ∃ k : Nat,n = -(k : Int) := ⟨(-n).toNat,by omega⟩
    rw [show (-(k : Int) % 18446744073709551616 * 2) % 18446744073709551616 = ((18446744073709551616 - 2 * k : Nat) : Int) by omega,show (-1 : Int) % 18446744073709551616 = 18446744073709551615 by decide,xor_big (by omega)]
    omega
theorem i64w (n : Int) : IntKind.i64.wrap n = if n % 18446744073709551616 < 9223372036854775808 then n % 18446744073709551616 else n % 18446744073709551616 - 18446744073709551616 := by
  unfold IntKind.wrap; simp [IntKind.bits,IntKind.signed]; split <;> split <;> omega
theorem and_1 {u : Nat} (h : u < 18446744073709551616) : (BitVec.ofInt 64 (u : Int) &&& BitVec.ofInt 64 1).toNat = u % 2 := by
  have : BitVec.ofInt 64 1 = 1#64 := by decide
  rw [this,BitVec.toNat_and,bv_nat h]
  simp [Nat.and_one_is_mod]
theorem zag_bits {u : Nat} (h : u < 18446744073709551616) : IntKind.i64.wrap (((BitVec.ofInt 64 (IntKind.i64.wrap ((u : Int).fdiv (2 ^ min 1 64))) ^^^ BitVec.ofInt 64 (IntKind.i64.wrap (0 - IntKind.i64.wrap (IntKind.u64.wrap (((BitVec.ofInt 64 (u : Int) &&& BitVec.ofInt 64 1).toNat : Nat) : Int))))).toNat : Nat) : Int) = zagN u := by
  rw [and_1 h,u64w,show (2 : Int) ^ min 1 64 = 2 by decide,Int.fdiv_eq_ediv_of_nonneg _ (by omega)]
  unfold zagN
  by_cases h0 : u % 2 = 0
  · rw [if_pos h0,h0,show IntKind.i64.wrap (0 - IntKind.i64.wrap (((0 : Nat) : Int) % 18446744073709551616)) = 0 by decide]
    rw [show IntKind.i64.wrap ((u : Int) / 2) = ((u / 2 : Nat) : Int) by rw [i64w]; omega,xor_0 (by omega),i64w]
    omega
  · rw [if_neg h0,show u % 2 = 1 by omega,show IntKind.i64.wrap (0 - IntKind.i64.wrap (((1 : Nat) : Int) % 18446744073709551616)) = -1 by decide]
    rw [show IntKind.i64.wrap ((u : Int) / 2) = ((u / 2 : Nat) : Int) by rw [i64w]; omega,xor_m1 (by omega),i64w]
    omega
end Go.Proofs.YtkldmgnhbomknaaGreat
