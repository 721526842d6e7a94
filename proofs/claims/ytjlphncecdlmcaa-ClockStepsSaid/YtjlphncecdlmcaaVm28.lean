/- A slice that grew, and is written no more, becomes a value. -/
import Derived.Test.YtjlphncecdlmcaaVm24
set_option linter.unusedVariables false
set_option linter.unusedSimpArgs false
namespace Go.Vm
/-- What a growing slice comes to when nobody writes it any more. -/
def FrozeG (s : St) (k sz n : Nat) (cs : List V) : Prop := ∀ x, s.val (.gsl k sz n) x → s.val (.sl sz (chop sz n cs) .no) x
theorem HRel.freezeG {s : St} {H : AH} (hr : HRel s H) {k sz n : Nat} {cs : List V} (hk : H k = some (.gr sz n cs)) : ∃ s', s'.w = s.w ∧ Ext s s' ∧ HRel s' (H.del k) ∧ FrozeG s' k sz n cs := by
  obtain ⟨b, cap, ys, T, t1, t2, t3, t4, t5, t6, t7, t8⟩ := hr.obj k _ hk
  have hx : Ext s (s.loose b) := St.ext_loose
  refine ⟨s.loose b, rfl, hx, hr.loose t2, fun x hv => ?_⟩
  cases hv with
  | gsl _ _ _ a cap2 ht =>
    obtain ⟨st, s1, _, s3⟩ := ht
    have t1' : (s.loose b).tok k = some ⟨n, .slice (some ⟨b, 0, none⟩) n cap⟩ := t1
    rw [t1'] at s1; cases s1
    cases s3 rfl
    obtain ⟨c1, c2, c3⟩ := chop_flat sz n cs (by omega)
    have e1 : cs.take (n * sz) = cs := List.take_of_length_le (by omega)
    have hrole : ∀ k' e, (s.loose b).role b = some (k', e) → False := by intro k' e he; simp [St.loose] at he
    have hels := els_of_cells (s := s.loose b) (b := b) (sz := sz) t3 (chop sz n cs) 0 c3 (by rw [c1, e1]; exact t8) (by
      rw [c1, c2, e1, List.drop_zero]
      exact t7.mono hx) (fun k' e he => (hrole k' e he).elim)
    have := Holds.sl sz (chop sz n cs) .no b 0 cap hels (by rw [c2]; exact t5) trivial
    rw [c2] at this
    exact this
theorem AM.freezeG {P : Program} {N : Nat} {m : MC} {Q : AExit → A → AH → Prop} {a a' : A} {H : AH} {k sz n : Nat} {cs : List V} (hk : H k = some (.gr sz n cs)) (hs : ∀ s : St, FrozeG s k sz n cs → ASub s a a') (h : AM P N m Q a' (H.del k)) : AM P N m Q a H :=
  fun imm lv c hm s act hn hr ha => by
    obtain ⟨s', h1, h2, h3, h4⟩ := hr.freezeG hk
    have := h imm lv c hm s' act hn h3 ((ha.mono h2).subs (hs s' h4))
    rw [← h1]
    exact wp_mono this fun _ _ _ h => h.of_ext h2
/-- A call whose answer nobody writes any more. -/
theorem ACalls.freezeG {P : Program} {f : FuncId} {vs : List V} {H : AH} {Q : Out → AH → Prop} {R : V → AH → Prop} (h : ACalls P f vs H Q)
    (hq : ∀ o H', Q o H' → ∃ v, o = .ret v ∧ (R v H' ∨ ∃ k sz n cs v', H' k = some (.gr sz n cs) ∧ (∀ s : St, FrozeG s k sz n cs → ∀ x, s.val v x → s.val v' x) ∧ R v' (H'.del k))) : ACalls P f vs H (fun o H' => ∃ v, o = .ret v ∧ R v H') :=
  fun s xs hr hv => (h s xs hr hv).mono fun e w p => by
    obtain ⟨s', H', o, rfl, h2, h3, h4, h5⟩ := p
    obtain ⟨v, rfl, h6 | ⟨k, sz, n, cs, v', k1, k2, k3⟩⟩ := hq o H' h5
    · exact ⟨s', H', .ret v, rfl, h2, h3, h4, v, rfl, h6⟩
    · obtain ⟨s2, g1, g2, g3, g4⟩ := h3.freezeG k1
      cases e with
      | returned x => exact ⟨s2, _, .ret v', g1, h2.trans g2, g3, k2 s2 g4 _ (Holds.mono g2 h4), v', rfl, k3⟩
      | panicked c => exact h4.elim
      | outgrown => exact h4.elim
end Go.Vm
