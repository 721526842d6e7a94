/- A region that draws: quiet operations in whatever order, then a tail that waits for all of them. -/
import Derived.Test.YtoicninkfmfnbaaGreatVm13
set_option linter.unusedVariables false
set_option linter.unusedSimpArgs false
namespace Go.Vm
def PureAt (P : Program) (f : FuncId) (vs : List V) (H : AH) (v : V) : Prop :=
  ∀ H', H.lec H' → ACalls P f vs H' (fun o H'' => o = .ret v ∧ H'' = H')
theorem pureAt_of {P : Program} {f : FuncId} {vs : List V} {v : V} (h : ∀ H, ACalls P f vs H (fun o H' => o = .ret v ∧ H' = H)) (H : AH) : PureAt P f vs H v := fun H' _ => h H'
def qmop (P : Program) : MOp → A → AH → (V → Prop) → Prop
  | .val q, a, H, k => vop q a H k
  | .boxi x, a, _, k => need (a.ev x) fun v => v.flat = true ∧ k (.rptr v.cells 0)
  | .tap t x, a, _, k => need (a.ev x) (tapK t k False)
  | .build z ps, a, _, k => need (lay a z ps) fun cs => k (.agg cs)
  | .bslice sz n z ps, a, _, k => need (lay a z ps) fun cs => k (.sl sz (chop sz n cs) .tight)
  | .s2b x, a, _, k => need (a.ev x) (strK fun l => k (.sl 1 (byteCells l) .no))
  | .call f xs, a, H, k => need (a.evs xs) fun vs => ∃ v, PureAt P f vs H v ∧ k v
  | _, _, _, _ => False
theorem qmop_fun {P : Program} {m : MOp} {a : A} {H : AH} {k : V → Prop} (h : qmop P m a H k) : ∃ v, k v ∧ ∀ a' H', Agree m.tmps a a' → H.lec H' → ∀ (k' : V → AH → Prop) kp, k' v H' → mop P m a' H' k' kp := by
  cases m <;> simp only [qmop] at h <;> try exact h.elim
  case val q =>
    obtain ⟨v, h1, h2⟩ := vop_fun h
    exact ⟨v, h1, fun a' H' hag hl k' kp hk => by rw [mop_congr hag]; exact h2 H' hl (fun v => k' v H') hk⟩
  case boxi x =>
    obtain ⟨v, hv, h1, h2⟩ := need_elim h
    exact ⟨_, h2, fun a' H' hag hl k' kp hk => by rw [mop_congr hag]; simp only [mop, hv, need_some]; exact ⟨h1, hk⟩⟩
  case tap t x =>
    obtain ⟨v, hv, h2⟩ := need_elim h
    cases v <;> simp only [tapK] at h2 <;> try exact h2.elim
    rename_i u v
    by_cases e : u = t
    · rw [if_pos e] at h2
      exact ⟨v, h2, fun a' H' hag hl k' kp hk => by rw [mop_congr hag]; simp only [mop, hv, need_some, tapK, if_pos e]; exact hk⟩
    · rw [if_neg e] at h2; exact h2.elim
  case build z ps =>
    obtain ⟨v, hv, h2⟩ := need_elim h
    exact ⟨_, h2, fun a' H' hag hl k' kp hk => by rw [mop_congr hag]; simp only [mop, hv, need_some]; exact hk⟩
  case bslice sz n z ps =>
    obtain ⟨v, hv, h2⟩ := need_elim h
    exact ⟨_, h2, fun a' H' hag hl k' kp hk => by rw [mop_congr hag]; simp only [mop, hv, need_some]; exact hk⟩
  case s2b x =>
    obtain ⟨v, hv, h2⟩ := need_elim h
    cases v <;> simp only [strK] at h2 <;> try exact h2.elim
    exact ⟨_, h2, fun a' H' hag hl k' kp hk => by rw [mop_congr hag]; simp only [mop, hv, need_some]; exact hk⟩
  case call f xs =>
    obtain ⟨vs, hv, v, h1, h2⟩ := need_elim h
    refine ⟨v, h2, fun a' H' hag hl k' kp hk => ?_⟩
    rw [mop_congr hag]
    simp only [mop, hv, need_some]
    exact (h1 H' hl).mono (by rintro o H'' ⟨rfl, rfl⟩; exact hk)
def quietE (P : Program) (m : MO) (a : A) (H : AH) (k : A → Prop) : Prop :=
  match m.g with
  | none => qmop P m.op a H (fun v => k (a.putD m.dst v))
  | some (t, w) => need (a.get t) (guardK w (qmop P m.op a H (fun v => k (a.putD m.dst v))) (k (a.putD m.dst unitV)))
def QF (P : Program) (m : MO) (a : A) (H : AH) (v : V) : Prop :=
  ∀ a' H', Agree m.looks a a' → H.lec H' → ∀ (k' : A → AH → Prop) Kp, k' (a'.putD m.dst v) H' → stepE P m a' H' k' Kp
theorem quietE_fun {P : Program} {m : MO} {a : A} {H : AH} {k : A → Prop} (h : quietE P m a H k) : ∃ v, k (a.putD m.dst v) ∧ QF P m a H v := by
  obtain ⟨d, g, op⟩ := m
  cases g with
  | none =>
    simp only [quietE] at h
    obtain ⟨v, h1, h2⟩ := qmop_fun h
    refine ⟨v, h1, fun a' H' hag hl k' Kp hk => ?_⟩
    simp only [stepE]
    exact h2 a' H' (fun t ht => hag t (by simp [MO.looks, ht])) hl _ _ hk
  | some p =>
    obtain ⟨t, w⟩ := p
    simp only [quietE] at h
    obtain ⟨b, hb, h⟩ := need_elim h
    cases b <;> simp only [guardK] at h <;> try exact h.elim
    · rename_i b
      by_cases e : b = w
      · subst e
        simp only [gif, beq_self_eq_true, if_true] at h
        obtain ⟨v, h1, h2⟩ := qmop_fun h
        refine ⟨v, h1, fun a' H' hag hl k' Kp hk => ?_⟩
        simp only [stepE]
        rw [hag t (by simp [MO.looks]), hb]
        simp only [need_some, if_true]
        exact h2 a' H' (fun t ht => hag t (by simp [MO.looks, ht])) hl _ _ hk
      · have e' : (b == w) = false := by simpa using e
        simp only [gif, e', Bool.false_eq_true, if_false] at h
        refine ⟨unitV, h, fun a' H' hag hl k' Kp hk => ?_⟩
        simp only [stepE]
        rw [hag t (by simp [MO.looks]), hb]
        simp only [need_some, e, if_false]
        exact hk
    · refine ⟨unitV, h, fun a' H' hag hl k' Kp hk => ?_⟩
      simp only [stepE]
      rw [hag t (by simp [MO.looks]), hb]
      exact hk
def drawE (P : Program) : List MO → A → AH → (A → Prop) → Prop
  | [], a, _, K => K a
  | m :: ms, a, H, K => quietE P m a H fun a' => drawE P ms a' H K
inductive Run (P : Program) (H : AH) : List MO → List V → A → A → Prop where
  | nil (a : A) : Run P H [] [] a a
  | cons (m : MO) (ms : List MO) (v : V) (vs : List V) (a a' : A) : QF P m a H v → Run P H ms vs (a.putD m.dst v) a' → Run P H (m :: ms) (v :: vs) a a'
theorem drawE_run {P : Program} {H : AH} {K : A → Prop} : ∀ {ms : List MO} {a : A}, drawE P ms a H K → ∃ vs a', Run P H ms vs a a' ∧ K a'
  | [], a, h => ⟨[], a, .nil a, h⟩
  | m :: ms, a, h => by
    obtain ⟨v, h1, h2⟩ := quietE_fun h
    obtain ⟨vs, a', h3, h4⟩ := drawE_run h1
    exact ⟨v :: vs, a', .cons m ms v vs a a' h2 h3, h4⟩
def lookV : List MO → List V → Nat → (Nat → Bool) → Nat → Option V → Option V
  | m :: ms, v :: vs, k, L, t, d => lookV ms vs (k + 1) L t (if L k = true ∧ m.dst = some t then some v else d)
  | _, _, _, _, _, d => d
theorem putD_get (a : A) (d : Option Nat) (v : V) (t : Nat) : (a.putD d v).get t = if d = some t then some v else a.get t := by
  cases d with
  | none => simp [A.putD]
  | some d => simp [A.putD, A.get_put]
theorem run_get {P : Program} {H : AH} {ms : List MO} {vs : List V} {a a' : A} (h : Run P H ms vs a a') (k : Nat) (t : Nat) : a'.get t = lookV ms vs k (fun _ => true) t (a.get t) := by
  induction h generalizing k with
  | nil a => rfl
  | cons m ms v vs a a' _ _ ih => rw [ih (k + 1)]; simp [lookV, putD_get]
theorem lookV_congr {L L' : Nat → Bool} {t : Nat} : ∀ (ms : List MO) (vs : List V) (k : Nat) (d : Option V), (∀ j m, ms[j]? = some m → m.dst = some t → L (k + j) = L' (k + j)) → lookV ms vs k L t d = lookV ms vs k L' t d
  | [], _, _, _, _ => rfl
  | _ :: _, [], _, _, _ => rfl
  | m :: ms, v :: vs, k, d, h => by
    simp only [lookV]
    have h0 := h 0 m rfl
    have hif : (if L k = true ∧ m.dst = some t then some v else d) = (if L' k = true ∧ m.dst = some t then some v else d) := by
      by_cases e : m.dst = some t
      · rw [show L k = L' k from by simpa using h0 e]
      · simp [e]
    rw [hif]
    exact lookV_congr ms vs (k + 1) _ (fun j m hm hd => by have := h (j + 1) m (by simpa using hm) hd; rw [show k + 1 + j = k + (j + 1) by omega]; exact this)
theorem lookV_none {L : Nat → Bool} {t : Nat} : ∀ (ms : List MO) (vs : List V) (k : Nat) (d : Option V), (∀ j m, ms[j]? = some m → m.dst = some t → L (k + j) = false) → lookV ms vs k L t d = d
  | [], _, _, _, _ => rfl
  | _ :: _, [], _, _, _ => rfl
  | m :: ms, v :: vs, k, d, h => by
    simp only [lookV]
    have h0 := h 0 m rfl
    rw [lookV_none ms vs (k + 1) _ (fun j m hm hd => by have := h (j + 1) m (by simpa using hm) hd; rw [show k + 1 + j = k + (j + 1) by omega]; exact this)]
    by_cases e : m.dst = some t
    · have := h0 e; simp at this; simp [this]
    · simp [e]
theorem run_at {P : Program} {H : AH} {ms : List MO} {vs : List V} {a a' : A} (h : Run P H ms vs a a') {i : Nat} {m : MO} (hm : ms[i]? = some m) (k : Nat) :
    ∃ ai v, vs[i]? = some v ∧ QF P m ai H v ∧ (∀ t L, (∀ j mj, ms[j]? = some mj → mj.dst = some t → j < i → L (k + j) = true) → (∀ j mj, ms[j]? = some mj → mj.dst = some t → i ≤ j → L (k + j) = false) → lookV ms vs k L t (a.get t) = ai.get t) ∧
      (∀ t L, m.dst = some t → L (k + i) = true → (∀ j mj, ms[j]? = some mj → mj.dst = some t → i < j → L (k + j) = false) → lookV ms vs k L t (a.get t) = some v) := by
  induction h generalizing i k with
  | nil a => simp at hm
  | cons m0 ms v0 vs a a' hq hr ih =>
    cases i with
    | zero =>
      simp at hm; subst hm
      refine ⟨a, v0, rfl, hq, fun t L _ h2 => ?_, fun t L hd hl h2 => ?_⟩
      · simp only [lookV]
        rw [lookV_none ms vs (k + 1) _ (fun j mj hj hd => by have := h2 (j + 1) mj (by simpa using hj) hd (by omega); rw [show k + 1 + j = k + (j + 1) by omega]; exact this)]
        by_cases e : m0.dst = some t
        · have := h2 0 m0 rfl e (Nat.le_refl _); simp at this; simp [this]
        · simp [e]
      · simp only [lookV]
        rw [lookV_none ms vs (k + 1) _ (fun j mj hj hd => by have := h2 (j + 1) mj (by simpa using hj) hd (by omega); rw [show k + 1 + j = k + (j + 1) by omega]; exact this)]
        rw [if_pos ⟨hl, hd⟩]
    | succ i =>
      simp at hm
      obtain ⟨ai, v, h1, h2, h3, h4⟩ := ih hm (k + 1)
      refine ⟨ai, v, by simpa using h1, h2, fun t L g1 g2 => ?_, fun t L hd hl g2 => ?_⟩
      · rw [← h3 t L (fun j mj hj hd hlt => by have := g1 (j + 1) mj (by simpa using hj) hd (by omega); rw [show k + 1 + j = k + (j + 1) by omega]; exact this) (fun j mj hj hd hlt => by have := g2 (j + 1) mj (by simpa using hj) hd (by omega); rw [show k + 1 + j = k + (j + 1) by omega]; exact this)]
        simp only [lookV, putD_get]
        congr 1
        by_cases e : m0.dst = some t
        · have := g1 0 m0 rfl e (by omega); simp at this; simp [this]
        · simp [e]
      · have := h4 t L hd (by rw [show k + 1 + i = k + (i + 1) by omega]; exact hl) (fun j mj hj hd hlt => by have := g2 (j + 1) mj (by simpa using hj) hd (by omega); rw [show k + 1 + j = k + (j + 1) by omega]; exact this)
        simp only [lookV]
        -- the last writer hides what was there
        have hide : ∀ (ms : List MO) (vs : List V) (k i : Nat) (m : MO) (v : V) (d d' : Option V), ms[i]? = some m → vs[i]? = some v → m.dst = some t → L (k + i) = true → lookV ms vs k L t d = lookV ms vs k L t d' := by
          intro ms
          induction ms with
          | nil => intro vs k i m v d d' hm; simp at hm
          | cons m1 ms ih1 =>
            intro vs k i m v d d' hm hv hd hl
            cases vs with
            | nil => simp at hv
            | cons v1 vs =>
              simp only [lookV]
              cases i with
              | zero => simp at hm; subst hm; simp at hl; simp [hl, hd]
              | succ i => exact ih1 vs (k + 1) i m v _ _ (by simpa using hm) (by simpa using hv) hd (by rw [show k + 1 + i = k + (i + 1) by omega]; exact hl)
        rw [hide ms vs (k + 1) i m v _ ((a.putD m0.dst v0).get t) hm h1 hd (by rw [show k + 1 + i = k + (i + 1) by omega]; exact hl)]
        exact this
end Go.Vm
