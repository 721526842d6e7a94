/- Objects that nobody writes any more become values. -/
import Derived.Test.YtjlphncecdlmcaaVm22
set_option linter.unusedVariables false
set_option linter.unusedSimpArgs false
namespace Go.Vm
def AH.del (H : AH) (k : Nat) : AH := fun i => if i = k then none else H i
theorem AH.del_ne (H : AH) {k i : Nat} (h : i ≠ k) : (H.del k) i = H i := by simp [AH.del, h]
theorem AH.del_put (H : AH) {k : Nat} (o : AObj) (h : H k = none) : (H.put k o).del k = H := by
  funext i; simp only [AH.del, AH.put]; split
  · rename_i e; subst e; exact h.symm
  · rfl
theorem AH.le_del {H H' : AH} (h : H.le H') {k : Nat} (hk : H k = none) : H.le (H'.del k) := fun i o hi => by
  rw [AH.del_ne]; exact h i o hi
  rintro rfl; rw [hk] at hi; cases hi

/-- The state in which a block is nobody's. -/
def St.loose (s : St) (b : Nat) : St := { s with role := fun c => if c = b then none else s.role c }
theorem St.ext_loose {s : St} {b : Nat} : Ext s (s.loose b) := by
  refine ⟨rfl, rfl, rfl, by first | exact Nat.le_refl _ | exact Nat.le_succ _, Nat.le_refl _, fun c hc h => ⟨?_, rfl⟩, fun c k e hc h => ⟨?_, fun _ _ => rfl⟩, fun _ _ h => h, fun _ st h => ⟨st, h, .inl rfl⟩, Nat.le_refl _⟩
  · simp only [St.loose]; split <;> simp [h]
  · simp only [St.loose]; split
    · exact .inl rfl
    · exact .inr ⟨e, Nat.le_refl _, h⟩
theorem HRel.loose {s : St} {H : AH} (hr : HRel s H) {k b : Nat} (hb : s.role b = some (k, 0)) : HRel (s.loose b) (H.del k) := by
  refine ⟨fun i o hi => ?_, fun i o hi => ?_, hr.blk, hr.tok, fun c i e he => ?_⟩
  · by_cases e : i = k
    · subst e; simp [AH.del] at hi
    · rw [AH.del_ne _ e] at hi
      refine ORel.keep St.ext_loose (fun c e' he => ⟨?_, rfl⟩) rfl (hr.obj i o hi)
      simp only [St.loose]
      rw [if_neg]
      rintro rfl; rw [hb] at he; cases he; exact e rfl
  · by_cases e : i = k
    · subst e; simp [AH.del] at hi
    · rw [AH.del_ne _ e] at hi; exact hr.lt i o hi
  · simp only [St.loose] at he ⊢
    split at he
    · cases he
    · exact hr.role c i e he
/-- What a slice over an object comes to when nobody writes it any more. -/
def Froze (s : St) (k : Nat) (cs : List V) : Prop :=
  ∀ sz off n, off + n * sz ≤ cs.length → ∀ x, s.val (.msl k sz off n) x → s.val (.sl sz (chop sz n (cs.drop off)) .no) x
theorem HRel.freeze {s : St} {H : AH} (hr : HRel s H) {k : Nat} {cs : List V} (hk : H k = some (.cells cs)) : ∃ s', s'.w = s.w ∧ Ext s s' ∧ HRel s' (H.del k) ∧ Froze s' k cs := by
  obtain ⟨b, ys, zs, T, fr, h1, h2, h3, h4, h5, h6⟩ := hr.obj k _ hk
  have hx : Ext s (s.loose b) := St.ext_loose
  refine ⟨s.loose b, rfl, hx, hr.loose h2, fun sz off n hle x hv => ?_⟩
  obtain ⟨b', o, cap, g1, g2, g3, rfl⟩ := inv_msl hv
  rw [hx.blk k b h1] at g1; cases g1
  obtain ⟨c1, c2, c3⟩ := chop_flat sz n (cs.drop off) (by rw [List.length_drop]; omega)
  have hyl := vals_length h5
  have hrole : ∀ k' e, (s.loose b).role b = some (k', e) → False := by intro k' e he; simp [St.loose] at he
  rcases Nat.eq_zero_or_pos n with rfl | hpos
  · exact .slEmp sz .no _ cap trivial
  · obtain rfl : o = off := by omega
    have hels := els_of_cells (s := s.loose b) (b := b) (sz := sz) h3 (chop sz n (cs.drop o)) o c3 (by rw [c1]; exact ones_take (ones_drop h6 _) _) (by
      rw [c1, c2]
      have := vals_part (h5.mono hx) o (n * sz)
      have e : ((ys ++ zs).toList.drop o).take (n * sz) = (ys.toList.drop o).take (n * sz) := by
        rw [Array.toList_append, List.drop_append_of_le_length (by simp at hyl ⊢; omega), List.take_append_of_le_length (by simp at hyl ⊢; omega)]
      rw [e]; exact this) (fun k' e he => (hrole k' e he).elim)
    have := Holds.sl sz (chop sz n (cs.drop o)) .no b o cap hels (by rw [c2]; exact g2) trivial
    rw [c2] at this
    exact this
theorem AM.freeze {P : Program} {N : Nat} {m : MC} {Q : AExit → A → AH → Prop} {a a' : A} {H : AH} {k : Nat} {cs : List V} (hk : H k = some (.cells cs)) (hs : ∀ s : St, Froze s k cs → ASub s a a') (h : AM P N m Q a' (H.del k)) : AM P N m Q a H :=
  fun imm lv c hm s act hn hr ha => by
    obtain ⟨s', h1, h2, h3, h4⟩ := hr.freeze hk
    have := h imm lv c hm s' act hn h3 ((ha.mono h2).subs (hs s' h4))
    rw [← h1]
    exact wp_mono this fun _ _ _ h => h.of_ext h2
/-- A call whose answer nobody writes any more. -/
theorem ACalls.freeze {P : Program} {f : FuncId} {vs : List V} {H : AH} {Q : Out → AH → Prop} {R : V → AH → Prop} (h : ACalls P f vs H Q)
    (hq : ∀ o H', Q o H' → ∃ v, o = .ret v ∧ (R v H' ∨ ∃ k cs v', H' k = some (.cells cs) ∧ (∀ s : St, Froze s k cs → ∀ x, s.val v x → s.val v' x) ∧ R v' (H'.del k))) : ACalls P f vs H (fun o H' => ∃ v, o = .ret v ∧ R v H') :=
  fun s xs hr hv => (h s xs hr hv).mono fun e w p => by
    obtain ⟨s', H', o, rfl, h2, h3, h4, h5⟩ := p
    obtain ⟨v, rfl, h6 | ⟨k, cs, v', k1, k2, k3⟩⟩ := hq o H' h5
    · exact ⟨s', H', .ret v, rfl, h2, h3, h4, v, rfl, h6⟩
    · obtain ⟨s2, g1, g2, g3, g4⟩ := h3.freeze k1
      cases e with
      | returned x => exact ⟨s2, _, .ret v', g1, h2.trans g2, g3, k2 s2 g4 _ (Holds.mono g2 h4), v', rfl, k3⟩
      | panicked c => exact h4.elim
      | outgrown => exact h4.elim
theorem bytesV_length (l : List UInt8) : (bytesV l).length = l.length := by simp [bytesV]
theorem chop_bytes (l : List UInt8) : chop 1 l.length (bytesV l) = byteCells l := by
  induction l with
  | nil => rfl
  | cons b l ih =>
    simp only [bytesV, byteCells, List.map_cons, List.length_cons, chop, List.take_succ_cons, List.take_zero, List.drop_succ_cons, List.drop_zero] at ih ⊢
    rw [ih]
theorem bytesOf_V (l : List UInt8) : bytesOf (bytesV l) = some l := by
  induction l with
  | nil => rfl
  | cons b l ih => simp only [bytesV, List.map_cons, bytesOf] at ih ⊢; simp [ih]
theorem byteCells_flat (l : List UInt8) : (byteCells l).flatten = bytesV l := by
  induction l with
  | nil => rfl
  | cons b l ih => simp only [byteCells, bytesV, List.map_cons, List.flatten_cons, List.singleton_append] at ih ⊢; rw [ih]
theorem bytesV_drop (l : List UInt8) (n : Nat) : (bytesV l).drop n = bytesV (l.drop n) := by simp [bytesV]
theorem bytesV_take (l : List UInt8) (n : Nat) : (bytesV l).take n = bytesV (l.take n) := by simp [bytesV]
theorem bytesV_append (l m : List UInt8) : bytesV (l ++ m) = bytesV l ++ bytesV m := by simp [bytesV]
theorem bytesV_get (l : List UInt8) (i : Nat) : (bytesV l)[i]? = (l[i]?).map fun b => .int .u8 b.toNat := by simp [bytesV]
theorem bytesV_set (l : List UInt8) (i : Nat) (b : UInt8) : (bytesV l).set i (.int .u8 b.toNat) = bytesV (l.set i b) := by simp [bytesV, List.map_set]
/-- The bytes of a slice over an object. -/
theorem vbytes_msl {H : AH} {k n off : Nat} {l : List UInt8} (hk : H k = some (.cells (bytesV l))) (hl : off + n ≤ l.length) : vbytesH H (.msl k 1 off n) = some ((l.drop off).take n) := by
  simp only [vbytesH, hk]
  rw [if_pos (by rw [bytesV_length]; exact hl), bytesV_drop, bytesV_take, bytesOf_V]
theorem elems_msl {H : AH} {k : Nat} {l : List UInt8} (hk : H k = some (.cells (bytesV l))) : elemsH H 1 (.msl k 1 0 l.length) = some (byteCells l) := by
  simp only [elemsH, hk]
  rw [if_pos ⟨trivial, by rw [bytesV_length]; omega⟩, List.drop_zero, chop_bytes]
end Go.Vm
