/- Contracts of functions of the given program. Conditions: as each theorem says. -/
import Derived.Test.YtkldmgnhbomknaaGreatVmQ
import Derived.Recover
set_option linter.unusedVariables false
set_option linter.unusedSimpArgs false
/- A slice that grew, and is written no more, becomes a value. -/
namespace Go.Vm
end Go.Vm
/- A map that nobody writes any more becomes a value. -/
namespace Go.Vm
def FrozeM (s : St) (k : Nat) (es : List (V × V)) : Prop := ∀ x,s.val (.map k) x → s.val (.mapv es) x
theorem HRel.freezeM {s : St} {H : AH} (hr : HRel s H) {k : Nat} {es : List (V × V)} (hk : H k = some (.map es)) : ∃ s',s'.w = s.w ∧ Ext s s' ∧ HRel s' (H.del k) ∧ FrozeM s' k es := by
  obtain ⟨b,ms,c,r1,r2,r3,r4,r5,r6⟩ := hr.obj k _ hk
  have hx : Ext s (s.loose b) := St.ext_loose
  refine ⟨s.loose b,rfl,hx,hr.loose r2,fun x hv => ?_⟩
  cases hv with
  | map _ b' hb =>
    have hb' : s.blk k = some b' := hb
    rw [r1] at hb'; cases hb'
    exact .mapv es b ms c (hr.role _ _ _ r2).2 (by simp [St.loose]) r3 (r4.mono hx) r5 r6
theorem AM.freezeM {P : Program} {N : Nat} {m : MC} {Q : AExit → A → AH → Prop} {a a' : A} {H : AH} {k : Nat} {es : List (V × V)} (hk : H k = some (.map es)) (hs : ∀ s : St,FrozeM s k es → ASub s a a') (h : AM P N m Q a' (H.del k)) : AM P N m Q a H :=
  fun imm lv c hm s act hn hr ha => by
    obtain ⟨s',h1,h2,h3,h4⟩ := hr.freezeM hk
    have := h imm lv c hm s' act hn h3 ((ha.mono h2).subs (hs s' h4))
    rw [← h1]
    exact wp_mono this fun _ _ _ h => h.of_ext h2
theorem ACalls.freezeM {P : Program} {f : FuncId} {vs : List V} {H : AH} {Q : Out → AH → Prop} {R : V → AH → Prop} (h : ACalls P f vs H Q)
    (hq : ∀ o H',Q o H' → ∃ v,o = .ret v ∧ (R v H' ∨ ∃ k es v',H' k = some (.map es) ∧ (∀ s : St,FrozeM s k es → ∀ x,s.val v x → s.val v' x) ∧ R v' (H'.del k))) : ACalls P f vs H (fun o H' => ∃ v,o = .ret v ∧ R v H') :=
  fun s xs hr hv => (h s xs hr hv).mono fun e w p => by
    obtain ⟨s',H',o,rfl,h2,h3,h4,h5⟩ := p
    obtain ⟨v,rfl,h6 | ⟨k,es,v',k1,k2,k3⟩⟩ := hq o H' h5
    · exact ⟨s',H',.ret v,rfl,h2,h3,h4,v,rfl,h6⟩
    · obtain ⟨s2,g1,g2,g3,g4⟩ := h3.freezeM k1
      cases e with
      | returned x => exact ⟨s2,_,.ret v',g1,h2.trans g2,g3,k2 s2 g4 _ (Holds.mono g2 h4),v',rfl,k3⟩
      | panicked c => exact h4.elim
      | outgrown => exact h4.elim
end Go.Vm
/- A function that defers a guard: its panics are told by a result. -/
namespace Go.Vm
variable {P : Program}
/-! ### Regions whose panics keep some temporaries -/
/-! ### A deferred guard -/
end Go.Vm
