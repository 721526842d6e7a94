/- Drawn regions in which an operation panics: whatever comes up ahead of it, nothing of what there was has turned. -/
import Derived.Test.YtjlphncecdlmcaaVm32
set_option linter.unusedVariables false
set_option linter.unusedSimpArgs false
namespace Go.Vm
section
variable {P : Program} {k : V → Prop} {a : A} {H : AH}
@[go_sem ↓] theorem qmop_tap (t : Nat) (x : Opd) : qmop P (.tap t x) a H k = need (a.ev x) (tapK t k False) := rfl
end
def Imp : V := .agg [.agg []]
theorem imp_no {s : St} {x : Value} (h : s.val Imp x) : False := by
  cases h with
  | agg _ xs h1 h2 => simp [ones, V.one] at h1
def QI (P : Program) (Kp : AH → Prop) (m : MO) (a : A) (H : AH) (v : V) : Prop :=
  (∃ t ∈ m.looks, a.get t = some Imp) ∨ ∀ a' H', Agree m.looks a a' → H.le H' → ∀ (k' : A → AH → Prop), k' (a'.putD m.dst v) H' → stepE P m a' H' k' Kp
inductive RunI (P : Program) (Kp : AH → Prop) (H : AH) : List MO → List V → A → A → Prop where
  | nil (a : A) : RunI P Kp H [] [] a a
  | cons (m : MO) (ms : List MO) (v : V) (vs : List V) (a a' : A) : QI P Kp m a H v → RunI P Kp H ms vs (a.putD m.dst v) a' → RunI P Kp H (m :: ms) (v :: vs) a a'
theorem runI_get {P : Program} {Kp : AH → Prop} {H : AH} {ms : List MO} {vs : List V} {a a' : A} (h : RunI P Kp H ms vs a a') (k : Nat) (t : Nat) : a'.get t = lookV ms vs k (fun _ => true) t (a.get t) := by
  induction h generalizing k with
  | nil a => rfl
  | cons m ms v vs a a' _ _ ih => rw [ih (k + 1)]; simp [lookV, putD_get]
theorem runI_at {P : Program} {Kp : AH → Prop} {H : AH} {ms : List MO} {vs : List V} {a a' : A} (h : RunI P Kp H ms vs a a') {i : Nat} {m : MO} (hm : ms[i]? = some m) (k : Nat) :
    ∃ ai v, vs[i]? = some v ∧ QI P Kp m ai H v ∧ (∀ t L, (∀ j mj, ms[j]? = some mj → mj.dst = some t → j < i → L (k + j) = true) → (∀ j mj, ms[j]? = some mj → mj.dst = some t → i ≤ j → L (k + j) = false) → lookV ms vs k L t (a.get t) = ai.get t) ∧
      (∀ t L, m.dst = some t → L (k + i) = true → (∀ j mj, ms[j]? = some mj → mj.dst = some t → i < j → L (k + j) = false) → lookV ms vs k L t (a.get t) = some v) := by
  induction h generalizing i k with
  | nil a => simp at hm
  | cons m0 ms v0 vs a a' hq hr ih =>
    cases i with
    | zero =>
      simp at hm; subst hm
      refine ⟨a, v0, rfl, hq, fun t L _ h2 => ?_, fun t L hd hl h2 => ?_⟩
      · simp only [lookV]
        rw [lookV_none ms vs (k + 1) _ (fun j mj hj hd => by have := h2 (j + 1) mj (by simpa using hj) hd (by omega); rw [show k + 1 + j = k + (j + 1) by omega]; exact this)]
        by_cases e : m0.dst = some t
        · have := h2 0 m0 rfl e (Nat.le_refl _); simp at this; simp [this]
        · simp [e]
      · simp only [lookV]
        rw [lookV_none ms vs (k + 1) _ (fun j mj hj hd => by have := h2 (j + 1) mj (by simpa using hj) hd (by omega); rw [show k + 1 + j = k + (j + 1) by omega]; exact this)]
        rw [if_pos ⟨hl, hd⟩]
    | succ i =>
      simp at hm
      obtain ⟨ai, v, h1, h2, h3, h4⟩ := ih hm (k + 1)
      refine ⟨ai, v, by simpa using h1, h2, fun t L g1 g2 => ?_, fun t L hd hl g2 => ?_⟩
      · rw [← h3 t L (fun j mj hj hd hlt => by have := g1 (j + 1) mj (by simpa using hj) hd (by omega); rw [show k + 1 + j = k + (j + 1) by omega]; exact this) (fun j mj hj hd hlt => by have := g2 (j + 1) mj (by simpa using hj) hd (by omega); rw [show k + 1 + j = k + (j + 1) by omega]; exact this)]
        simp only [lookV, putD_get]
        congr 1
        by_cases e : m0.dst = some t
        · have := g1 0 m0 rfl e (by omega); simp at this; simp [this]
        · simp [e]
      · have := h4 t L hd (by rw [show k + 1 + i = k + (i + 1) by omega]; exact hl) (fun j mj hj hd hlt => by have := g2 (j + 1) mj (by simpa using hj) hd (by omega); rw [show k + 1 + j = k + (j + 1) by omega]; exact this)
        simp only [lookV]
        -- the last writer hides what was there
        have hide : ∀ (ms : List MO) (vs : List V) (k i : Nat) (m : MO) (v : V) (d d' : Option V), ms[i]? = some m → vs[i]? = some v → m.dst = some t → L (k + i) = true → lookV ms vs k L t d = lookV ms vs k L t d' := by
          intro ms
          induction ms with
          | nil => intro vs k i m v d d' hm; simp at hm
          | cons m1 ms ih1 =>
            intro vs k i m v d d' hm hv hd hl
            cases vs with
            | nil => simp at hv
            | cons v1 vs =>
              simp only [lookV]
              cases i with
              | zero => simp at hm; subst hm; simp at hl; simp [hl, hd]
              | succ i => exact ih1 vs (k + 1) i m v _ _ (by simpa using hm) (by simpa using hv) hd (by rw [show k + 1 + i = k + (i + 1) by omega]; exact hl)
        rw [hide ms vs (k + 1) i m v _ ((a.putD m0.dst v0).get t) hm h1 hd (by rw [show k + 1 + i = k + (i + 1) by omega]; exact hl)]
        exact this
section
variable {P : Program} {imm : Nat → Bool} {N : Nat} {ops : Array Oper} {ms : List MO} {c : Nat → Nat} {Kp : AH → Prop} {H0 : AH} {vs : List V} {a0 ap : A}
def zalB : MO → Bool
  | ⟨some _, none, .zalloc _⟩ => true
  | _ => false
theorem draw_pan (hm : mosOf P imm N ops ops.toList = some ms) (hd : DrawOk ops ms c) (hrun : RunI P Kp H0 (selc c 0 ms) vs a0 ap)
    (himp : ∃ t, ap.get t = some Imp ∧ ∀ j, j < ms.length → c j ≠ 0 → zalB (ms.getD j moD) = true → (ms.getD j moD).dst ≠ some t)
    (htail : ∀ i, i < ms.length → c i ≠ 0 → zalB (ms.getD i moD) = true ∨ (2 ≤ c i ∧ ∃ t ∈ (ms.getD i moD).looks, ap.get t = some Imp ∧ ∀ j, j < ms.length → c j ≠ 0 → zalB (ms.getD j moD) = true → (ms.getD j moD).dst ≠ some t))
    {s0 : St} {d : List Deferred} : ∀ (fuel : Nat) (listed : Array Bool) (puts : List (Option Nat × V)) (H : AH) (s : St) (act : Act), listed.size = ops.size → Closed ops listed → cntN listed ops.size ≤ fuel →
    (∀ p ∈ puts, ∃ i, i < ms.length ∧ c i ≠ 0 ∧ zalB (ms.getD i moD) = true ∧ listed.getD i false = true ∧ p.1 = (ms.getD i moD).dst) → H0.le H → act.tmps.size = N → HRel s H → ARel s (pput puts (baseA c ms vs a0 listed)) act → Ext s0 s → act.defers = d → wpAny P .any ops (RegQ s0 d N (fun _ _ => False) Kp) fuel listed act s.w := by
  obtain ⟨hlen, hget⟩ := mosOf_get hm
  simp only [Array.length_toList] at hlen
  have hqlen : (selc c 0 ms).length = (ixs c 0 ms.length).length := by simp [selc]
  have hq : ∀ (j : Nat) mj, (selc c 0 ms)[j]? = some mj → ∃ i, (ixs c 0 ms.length)[j]? = some i ∧ (ixs c 0 ms.length).getD j 0 = i ∧ i < ms.length ∧ c i = 0 ∧ ms[i]? = some mj := by
    intro j mj hj
    simp only [selc, List.getElem?_map, Option.map_eq_some_iff] at hj
    obtain ⟨i, h1, h2⟩ := hj
    obtain ⟨h3, h4⟩ := mem_ixs.1 (List.mem_of_getElem? h1)
    refine ⟨i, h1, getD_of h1, h3, h4, ?_⟩
    rw [← h2, getD_of (List.getElem?_eq_getElem h3)]
    exact List.getElem?_eq_getElem h3
  -- all have come up: not so
  have done : ∀ (listed : Array Bool) (puts : List (Option Nat × V)) (s : St) (act : Act), (∀ j, j < ops.size → listed.getD j false = true) → (∀ p ∈ puts, ∃ i, i < ms.length ∧ c i ≠ 0 ∧ zalB (ms.getD i moD) = true ∧ listed.getD i false = true ∧ p.1 = (ms.getD i moD).dst) → ARel s (pput puts (baseA c ms vs a0 listed)) act → False := by
    intro listed puts s act hl hputs ha
    obtain ⟨t, ht, hz⟩ := himp
    have e : (pput puts (baseA c ms vs a0 listed)).get t = some Imp := by
      rw [pput_get, plook_none t puts _ (fun p hp e => by obtain ⟨q, h1, h2, h3, _, h4⟩ := hputs p hp; rw [h4] at e; exact hz q h1 h2 h3 e), ← ht, baseA, buildA_get, runI_get hrun 0 t]
      refine lookV_congr _ _ _ _ (fun j mj hj _ => ?_)
      obtain ⟨i, _, e, h3, _, _⟩ := hq j mj hj
      simp only [Nat.zero_add, e]
      exact hl i (by omega)
    obtain ⟨x, _, hx⟩ := ha.get t _ e
    exact imp_no hx
  intro fuel
  induction fuel with
  | zero =>
    intro listed puts H s act hs hcl hf hputs hle hn hr ha hx hdf
    have all : ∀ j, j < ops.size → listed.getD j false = true := fun j hj => by
      by_cases h : listed.getD j false = true
      · exact h
      · have := cnt_pos (n := ops.size) (listed := listed) (i := j) (by rw [getD_iff (by omega)]; simpa using h) (by omega)
        omega
    refine ⟨?_, (done listed puts s act all hputs ha).elim⟩
    apply List.eq_nil_iff_forall_not_mem.2
    intro i hi
    obtain ⟨hu, o, ho, _⟩ := mem_ready.1 hi
    have hlt : i < ops.size := by
      by_cases hl : i < ops.size
      · exact hl
      · rw [Array.getElem?_eq_none (by omega)] at ho; cases ho
    rw [getD_iff (by omega), all i hlt] at hu
    cases hu
  | succ fuel ih =>
    intro listed puts H s act hs hcl hf hputs hle hn hr ha hx hdf
    refine ⟨fun h0 => ?_, fun i hi => ?_⟩
    · refine (done listed puts s act (fun j hj => ?_) hputs ha).elim
      by_cases h : listed.getD j false = true
      · exact h
      · obtain ⟨i, hi⟩ := min_ready hs hd.back j hj (by rw [getD_iff (by omega)]; simpa using h)
        rw [h0] at hi; cases hi
    · obtain ⟨hiu, o, ho, hadj⟩ := mem_ready.1 hi
      have hlt : i < ops.size := by
        by_cases hl : i < ops.size
        · exact hl
        · rw [Array.getElem?_eq_none (by omega)] at ho; cases ho
      have hiu' : listed.getD i false = false := by rw [← getD_iff (by omega)]; exact hiu
      obtain ⟨m, hm1, hm2⟩ := hget i o (by simpa using ho)
      have hgi : ms.getD i moD = m := getD_of hm1
      have waits : ∀ j, Dep ops j i → listed.getD j false = true := fun j hj => dep_listed hcl j i hj (fun o' ho' => by rw [ho] at ho'; cases ho'; exact hadj)
      have waits' : ∀ j, Dep ops i j → listed.getD j false = false := by
        intro j hj
        by_cases h : listed.getD j false = true
        · have := dep_listed hcl i j hj (fun o' ho' => hcl j o' ho' h)
          rw [hiu'] at this; cases this
        · simpa using h
      have closed' : Closed ops (listed.setIfInBounds i true) := by
        intro j oj hj hjl e he hb
        by_cases e1 : j = i
        · subst e1
          rw [ho] at hj; cases hj
          exact getD_set_true (hadj e he hb)
        · rw [getD_set_ne false (by omega)] at hjl
          exact getD_set_true (hcl j oj hj hjl e he hb)
      have cnt' : cntN (listed.setIfInBounds i true) ops.size ≤ fuel := by
        have := cnt_set hiu ops.size
        rw [if_pos hlt] at this; omega
      have size' : (listed.setIfInBounds i true).size = ops.size := by simpa using hs
      have self' : (listed.setIfInBounds i true).getD i false = true := by simp [hs, hlt]
      have ne' : ∀ j, j ≠ i → (listed.setIfInBounds i true).getD j false = listed.getD j false := fun j hj => getD_set_ne false (by omega)
      -- the quiet ones' puts do not turn where another one comes up
      have base' : c i ≠ 0 → ∀ t, (baseA c ms vs a0 (listed.setIfInBounds i true)).get t = (baseA c ms vs a0 listed).get t := by
        intro hc t
        rw [baseA, baseA, buildA_get, buildA_get]
        refine lookV_congr _ _ _ _ (fun j mj hj _ => ?_)
        obtain ⟨q, _, e, _, hq0, _⟩ := hq j mj hj
        simp only [Nat.zero_add, e]
        exact ne' q (fun e => hc (by rw [← e]; exact hq0))
      have hcls := hd.cls i hlt
      by_cases hc0 : c i = 0
      · -- a quiet one
        have hiq : i ∈ ixs c 0 ms.length := mem_ixs.2 ⟨by omega, hc0⟩
        obtain ⟨j, hjl, hj⟩ := List.mem_iff_getElem.1 hiq
        have hj' : (ixs c 0 ms.length)[j]? = some i := by rw [List.getElem?_eq_getElem hjl, hj]
        have hmt : (selc c 0 ms)[j]? = some m := by simp only [selc, List.getElem?_map, hj', Option.map_some, hgi]
        obtain ⟨ai, v, hv, hqf, hr1, hr2⟩ := runI_at hrun hmt 0
        have pos : ∀ (x y : Nat) i' j', (ixs c 0 ms.length)[x]? = some i' → (ixs c 0 ms.length)[y]? = some j' → (x < y ↔ i' < j') := by
          intro x y i' j' h1 h2
          obtain ⟨l1, e1⟩ := List.getElem?_eq_some_iff.1 h1
          obtain ⟨l2, e2⟩ := List.getElem?_eq_some_iff.1 h2
          have hp := List.pairwise_iff_getElem.1 (ixs_lt c 0 ms.length)
          constructor
          · intro h; have := hp x y l1 l2 h; rw [e1, e2] at this; exact this
          · intro h
            rcases Nat.lt_trichotomy x y with h3 | h3 | h3
            · exact h3
            · subst h3; rw [e1] at e2; omega
            · have := hp y x l2 l1 h3; rw [e1, e2] at this; omega
        have earlier : ∀ t, (t ∈ m.looks ∨ m.dst = some t) → ∀ k mk, (selc c 0 ms)[k]? = some mk → mk.dst = some t → k < j → listed.getD ((ixs c 0 ms.length).getD (0 + k) 0) false = true := by
          intro t ht k mk hk hdk hkj
          obtain ⟨q, hq1, e, hq2, hq3, hq4⟩ := hq k mk hk
          have hqi : q < i := (pos k j q i hq1 hj').1 hkj
          rw [Nat.zero_add, e]
          exact waits q ((hd.conf i q hc0 hq3 hlt (by omega) (by omega) (confB_of hm1 hq4 hdk ht)).1 hqi)
        have later : ∀ t, (t ∈ m.looks ∨ m.dst = some t) → ∀ k mk, (selc c 0 ms)[k]? = some mk → mk.dst = some t → j ≤ k → listed.getD ((ixs c 0 ms.length).getD (0 + k) 0) false = false := by
          intro t ht k mk hk hdk hkj
          obtain ⟨q, hq1, e, hq2, hq3, hq4⟩ := hq k mk hk
          rw [Nat.zero_add, e]
          by_cases ek : k = j
          · subst ek; rw [hj'] at hq1; cases hq1; exact hiu'
          · have hqi : i < q := (pos j k i q hj' hq1).1 (by omega)
            exact waits' q ((hd.conf i q hc0 hq3 hlt (by omega) (by omega) (confB_of hm1 hq4 hdk ht)).2 hqi)
        -- no later put has written what it looks at, or writes
        have noput : ∀ t, (t ∈ m.looks ∨ m.dst = some t) → ∀ p ∈ puts, p.1 ≠ some t := by
          intro t ht p hp e
          obtain ⟨q, h1, h2, _, h3, h4⟩ := hputs p hp
          rw [h4] at e
          have hmq : ms[q]? = some (ms.getD q moD) := by rw [getD_of (List.getElem?_eq_getElem h1)]; exact List.getElem?_eq_getElem h1
          have hcf := confB_of hm1 hmq e ht
          have hne : q ≠ i := fun e2 => h2 (by rw [e2]; exact hc0)
          have hq2 := hd.cls q (by omega)
          by_cases hc1 : c q = 1
          · have := hd.aq q i hc1 (by omega) (by omega) hlt hne
            rw [hcf] at this; cases this
          · have := waits' q (hd.qt i q hc0 (by omega) hlt (by omega) (.inl hcf))
            rw [h3] at this; cases this
        have hag : Agree m.looks ai (pput puts (baseA c ms vs a0 listed)) := by
          intro t ht
          rw [pput_get, plook_none t puts _ (noput t (.inl ht)), baseA, buildA_get]
          exact hr1 t _ (earlier t (.inl ht)) (later t (.inl ht))
        rcases hqf with ⟨t, ht, hti⟩ | hqf
        · have e := hag t ht
          rw [hti] at e
          obtain ⟨x, _, hx2⟩ := ha.get t _ e
          exact (imp_no hx2).elim
        have hst := hqf _ H hag hle (fun a' H' => a' = (pput puts (baseA c ms vs a0 listed)).putD m.dst v ∧ H' = H) ⟨rfl, rfl⟩
        have := step_sound (K := fun _ _ => False) hm2 ho hst hn hr ha hx
        rw [hdf] at this
        refine wpOp_mono ?_ this
        rintro act' w' ⟨s', a', H', rfl, hx', hr', ha', hd', hn', rfl, rfl⟩
        refine ih _ puts _ s' act' size' closed' cnt' (fun p hp => by obtain ⟨q, g1, g2, g3, g4, g5⟩ := hputs p hp; exact ⟨q, g1, g2, g3, getD_set_true g4, g5⟩) hle hn' hr' (ha'.sub fun t u ht => ?_) hx' hd'
        · rw [pput_get, baseA, buildA_get] at ht
          rw [putD_get, pput_get, baseA, buildA_get]
          by_cases e : m.dst = some t
          · rw [if_pos e]
            rw [plook_none t puts _ (noput t (.inr e))] at ht
            rw [← ht]
            refine (hr2 t _ e ?_ (fun k mk hk hdk hjk => ?_)).symm
            · rw [Nat.zero_add, getD_of hj']; exact self'
            · have := later t (.inr e) k mk hk hdk (by omega)
              obtain ⟨q, hq1, e2, _, _, _⟩ := hq k mk hk
              rw [Nat.zero_add, e2] at this ⊢
              rw [ne' q (fun e3 => by subst e3; have := (pos j k q q hj' hq1).1 hjk; omega)]
              exact this
          · rw [if_neg e, ← ht]
            congr 1
            apply lookV_congr
            intro k mk hk hdk
            obtain ⟨q, hq1, e2, _, _, hq4⟩ := hq k mk hk
            simp only [Nat.zero_add, e2]
            refine (ne' q (fun e3 => ?_)).symm
            subst e3
            rw [hm1] at hq4; cases hq4
            exact e hdk
      · rcases htail i (by omega) hc0 with hz | ⟨hc2, t, ht, hti, hnz⟩
        · -- new cells
          rw [hgi] at hz
          obtain ⟨t0, cs, rfl⟩ : ∃ t0 cs, m = ⟨some t0, none, .zalloc cs⟩ := by
            unfold zalB at hz
            split at hz
            · exact ⟨_, _, rfl⟩
            · cases hz
          have hst : stepE P ⟨some t0, none, .zalloc cs⟩ (pput puts (baseA c ms vs a0 listed)) H (fun a' H' => ∃ k, H k = none ∧ a' = (pput puts (baseA c ms vs a0 listed)).putD (some t0) (.ptr k 0) ∧ H' = H.put k (.cells cs)) Kp :=
            fun k hk => ⟨k, hk, rfl, rfl⟩
          have := step_sound (K := fun _ _ => False) hm2 ho hst hn hr ha hx
          rw [hdf] at this
          refine wpOp_mono ?_ this
          rintro act' w' ⟨s', a', H', rfl, hx', hr', ha', hd', hn', k, hk, rfl, rfl⟩
          refine ih _ (puts ++ [(some t0, V.ptr k 0)]) _ s' act' size' closed' cnt' (fun q hq => ?_) (AH.le_put hle (none_of_le hle hk) _) hn' hr' (ha'.sub fun t u ht => ?_) hx' hd'
          · rcases List.mem_append.1 hq with hq | hq
            · obtain ⟨x, g1, g2, g3, g4, g5⟩ := hputs q hq
              exact ⟨x, g1, g2, g3, getD_set_true g4, g5⟩
            · rw [List.mem_singleton] at hq; subst hq
              exact ⟨i, by omega, hc0, by rw [hgi]; exact hz, self', by rw [hgi]⟩
          · rw [pput_append, pput, pput, putD_get, pput_get, base' hc0] at ht
            rw [putD_get, pput_get]; exact ht
        · -- one that waits for what panics
          rw [hgi] at ht
          have e : (pput puts (baseA c ms vs a0 listed)).get t = some Imp := by
            rw [pput_get, plook_none t puts _ (fun p hp e => by obtain ⟨q, h1, h2, h3, _, h4⟩ := hputs p hp; rw [h4] at e; exact hnz q h1 h2 h3 e), ← hti, baseA, buildA_get, runI_get hrun 0 t]
            refine lookV_congr _ _ _ _ (fun k mk hk hdk => ?_)
            obtain ⟨q, hq1, e2, hq2, hq3, hq4⟩ := hq k mk hk
            simp only [Nat.zero_add, e2]
            exact waits q (hd.qt q i hq3 hc2 (by omega) hlt (.inr (.inl (confB_of hm1 hq4 hdk (.inl ht)))))
          obtain ⟨x, _, hx2⟩ := ha.get t _ e
          exact (imp_no hx2).elim
theorem aw_drawP {id : Nat} {Q : AExit → A → AH → Prop} {a : A} {H : AH} (hm : mosOf P imm N ops ops.toList = some ms) (hd : drawOk ops ms c = true) (hf : P.follows .mixedOrders = true)
    (hrun : RunI P (regP Q) H (selc c 0 ms) vs a ap)
    (himp : ∃ t, ap.get t = some Imp ∧ ∀ j, j < ms.length → c j ≠ 0 → zalB (ms.getD j moD) = true → (ms.getD j moD).dst ≠ some t)
    (htail : ∀ i, i < ms.length → c i ≠ 0 → zalB (ms.getD i moD) = true ∨ (2 ≤ c i ∧ ∃ t ∈ (ms.getD i moD).looks, ap.get t = some Imp ∧ ∀ j, j < ms.length → c j ≠ 0 → zalB (ms.getD j moD) = true → (ms.getD j moD).dst ≠ some t)) :
    AW P N (.region id ops true) Q a H := by
  intro s act hn hr ha
  have conv : ∀ e act' w', RegQ s act.defers N (fun _ _ => False) (regP Q) e act' w' → AbsQ s act.defers N Q e act' w' := by
    rintro e act' w' (⟨rfl, s', a', H', e1, hx, hr', ha', hd, hn', k⟩ | ⟨ch, rfl, hch, h⟩)
    · exact k.elim
    · exact ⟨.panic, hch, h.mono (by rintro a H ⟨rfl, h⟩; exact h)⟩
  refine wp_mono (wp_region_any hf ?_) conv
  have hno : ∀ j, (Array.replicate ops.size false).getD j false = false := fun j => by simp only [Array.getD_eq_getD_getElem?, Array.getElem?_replicate]; split <;> rfl
  refine draw_pan hm (drawOk_spec hd) hrun himp htail ops.size (Array.replicate ops.size false) [] H s.drew act (by simp) ?_ ?_ (fun p hp => by cases hp) (AH.le_refl H) hn hr.drew ?_ (St.ext_drew s) rfl
  · intro j o hj hjl
    rw [hno] at hjl; cases hjl
  · have : ∀ n, cntN (Array.replicate ops.size false) n ≤ n := by
      intro n
      induction n with
      | zero => simp [cntN]
      | succ n ih => simp only [cntN]; split <;> omega
    exact this _
  · refine (ha.mono (St.ext_drew s)).sub fun t v ht => ?_
    rw [pput, baseA, buildA_get, lookV_none _ _ _ _ (fun j mj _ _ => hno _)] at ht
    exact ht
end
/-! ### The same, over the short form -/
inductive PS where
  | ok
  | pan
  | bad
def isImp : Option V → Bool
  | some (.agg [.agg []]) => true
  | _ => false
theorem isImp_eq {o : Option V} (h : isImp o = true) : o = some Imp := by
  unfold isImp at h
  split at h
  · rfl
  · cases h
def panK (t : Nat) : V → Prop
  | .iface u _ => u ≠ t
  | .nilIface => True
  | _ => False
def panE (P : Program) (Kp : AH → Prop) (m : MO) (a : A) (H : AH) : Prop :=
  m.g = none ∧ match m.op with
  | .tap t x => need (a.ev x) (panK t) ∧ ∀ H', H.le H' → Kp H'
  | .call f xs => need (a.evs xs) fun vs => ∀ H', H.le H' → ACalls P f vs H' (fun o H'' => o = .pan ∧ Kp H'')
  | _ => False
def drawES (P : Program) (Kp : AH → Prop) : List PS → List MO → A → AH → (A → Prop) → Prop
  | _, [], a, _, K => K a
  | [], _ :: _, _, _, _ => False
  | .ok :: st, m :: ms, a, H, K => quietE P m a H fun a' => drawES P Kp st ms a' H K
  | .pan :: st, m :: ms, a, H, K => panE P Kp m a H ∧ drawES P Kp st ms (a.putD m.dst Imp) H K
  | .bad :: st, m :: ms, a, H, K => (m.looks.any fun t => isImp (a.get t)) = true ∧ drawES P Kp st ms (a.putD m.dst Imp) H K
theorem panE_QI {P : Program} {Kp : AH → Prop} {m : MO} {a : A} {H : AH} (h : panE P Kp m a H) : QI P Kp m a H Imp := by
  refine .inr fun a' H' hag hle k' _ => ?_
  obtain ⟨d, g, op⟩ := m
  obtain ⟨rfl, h⟩ := h
  have hag' : Agree op.tmps a a' := fun t ht => hag t (by simp [MO.looks, ht])
  simp only [stepE]
  rw [mop_congr hag']
  cases op <;> simp only at h <;> try exact h.elim
  case tap t x =>
    obtain ⟨h1, h2⟩ := h
    obtain ⟨v, hv, h1⟩ := need_elim h1
    simp only [mop, hv, need_some]
    cases v <;> simp only [panK] at h1 <;> try exact h1.elim
    · simp only [tapK]; rw [if_neg h1]; exact h2 H' hle
    · exact h2 H' hle
  case call f xs =>
    obtain ⟨vs, hv, h1⟩ := need_elim h
    simp only [mop, hv, need_some]
    exact (h1 H' hle).mono (by rintro o H'' ⟨rfl, h⟩; exact h)
theorem drawES_run {P : Program} {Kp : AH → Prop} {H : AH} {K : A → Prop} : ∀ {st : List PS} {ms : List MO} {a : A}, drawES P Kp st ms a H K → ∃ vs a', RunI P Kp H ms vs a a' ∧ K a'
  | _, [], a, h => ⟨[], a, .nil a, by unfold drawES at h; exact h⟩
  | [], _ :: _, _, h => h.elim
  | .ok :: st, m :: ms, a, h => by
    obtain ⟨v, h1, h2⟩ := quietE_fun h
    obtain ⟨vs, a', h3, h4⟩ := drawES_run h1
    exact ⟨v :: vs, a', .cons m ms v vs a a' (.inr fun a' H' hag hle k' hk => h2 a' H' hag (AH.lec_of_le hle) k' Kp hk) h3, h4⟩
  | .pan :: st, m :: ms, a, h => by
    obtain ⟨h1, h2⟩ := h
    obtain ⟨vs, a', h3, h4⟩ := drawES_run h2
    exact ⟨Imp :: vs, a', .cons m ms Imp vs a a' (panE_QI h1) h3, h4⟩
  | .bad :: st, m :: ms, a, h => by
    obtain ⟨h1, h2⟩ := h
    obtain ⟨vs, a', h3, h4⟩ := drawES_run h2
    obtain ⟨t, ht, hi⟩ := List.any_eq_true.1 h1
    exact ⟨Imp :: vs, a', .cons m ms Imp vs a a' (.inl ⟨t, ht, isImp_eq hi⟩) h3, h4⟩
def freeB (ts : List MO) (t : Nat) : Bool := ts.all fun m => !zalB m || m.dst != some t
def tailB (ps ts : List MO) (a : A) : Bool :=
  (ps.reverse.any fun m => match m.dst with
    | some t => isImp (a.get t) && freeB ts t
    | none => false) && ts.all fun m => zalB m || m.looks.any fun t => isImp (a.get t) && freeB ts t
theorem zalB_toS (c : Nat) (m : MO) (h : zalB m = true) : toS c m = m := by
  unfold zalB at h
  split at h
  · unfold toS; split <;> simp_all
  · cases h
theorem zalB_of (c : Nat) (m : MO) (h : zalB (toS c m) = true) : zalB m = true := by
  obtain ⟨d, g, op⟩ := m
  unfold toS at h
  split at h
  · cases d <;> cases g <;> simp [zalB] at h
  · exact h
theorem free_spec {c : Nat → Nat} {ms : List MO} {t : Nat} (h : freeB (selc c 1 ms ++ tailc c ms) t = true) : ∀ j, j < ms.length → c j ≠ 0 → zalB (ms.getD j moD) = true → (ms.getD j moD).dst ≠ some t := by
  intro j hj hc hz e
  have hmem : ms.getD j moD ∈ selc c 1 ms ++ tailc c ms := by
    by_cases h1 : c j = 1
    · exact List.mem_append.2 (.inl (List.mem_map.2 ⟨j, mem_ixs.2 ⟨hj, h1⟩, rfl⟩))
    · exact List.mem_append.2 (.inr (List.mem_map.2 ⟨j, mem_tixs.2 ⟨hj, by omega⟩, zalB_toS _ _ hz⟩))
  have := List.all_eq_true.1 h _ hmem
  rw [hz, e] at this
  simp at this
theorem tail_spec {ops : Array Oper} {ms : List MO} {c : Nat → Nat} {ap : A} (hd : DrawOk ops ms c) (hlen : ops.size = ms.length) (hB : tailB (selc c 0 ms) (selc c 1 ms ++ tailc c ms) ap = true) :
    (∃ t, ap.get t = some Imp ∧ ∀ j, j < ms.length → c j ≠ 0 → zalB (ms.getD j moD) = true → (ms.getD j moD).dst ≠ some t) ∧
    (∀ i, i < ms.length → c i ≠ 0 → zalB (ms.getD i moD) = true ∨ (2 ≤ c i ∧ ∃ t ∈ (ms.getD i moD).looks, ap.get t = some Imp ∧ ∀ j, j < ms.length → c j ≠ 0 → zalB (ms.getD j moD) = true → (ms.getD j moD).dst ≠ some t)) := by
  rw [tailB, Bool.and_eq_true] at hB
  obtain ⟨b1, b2⟩ := hB
  constructor
  · obtain ⟨m0, _, hm0⟩ := List.any_eq_true.1 b1
    split at hm0
    · rename_i t _
      rw [Bool.and_eq_true] at hm0
      exact ⟨t, isImp_eq hm0.1, free_spec hm0.2⟩
    · cases hm0
  · intro i hi hci
    have hmi : ms[i]? = some (ms.getD i moD) := by rw [getD_of (List.getElem?_eq_getElem hi)]; exact List.getElem?_eq_getElem hi
    by_cases c1 : c i = 1
    · obtain ⟨t, cs, e⟩ := hd.al i _ (by omega) hmi c1
      exact .inl (by rw [e]; rfl)
    · by_cases hz : zalB (ms.getD i moD) = true
      · exact .inl hz
      · refine .inr ⟨by omega, ?_⟩
        have hmem : toS (c i) (ms.getD i moD) ∈ selc c 1 ms ++ tailc c ms := List.mem_append.2 (.inr (List.mem_map.2 ⟨i, mem_tixs.2 ⟨hi, by omega⟩, rfl⟩))
        have := List.all_eq_true.1 b2 _ hmem
        rw [Bool.or_eq_true] at this
        rcases this with h | h
        · exact absurd (zalB_of _ _ h) hz
        · obtain ⟨t, ht, h⟩ := List.any_eq_true.1 h
          rw [toS_looks] at ht
          rw [Bool.and_eq_true] at h
          exact ⟨t, ht, isImp_eq h.1, free_spec h.2⟩
theorem am_pan {P : Program} {N : Nat} {Q : AExit → A → AH → Prop} {a : A} {H : AH} {ps ts : List MO} {l : List Nat} (st : List PS) (h : drawES P (regP Q) st ps a H (fun a' => tailB ps ts a' = true)) : AM P N (.drx ps ts l) Q a H := by
  intro imm lv c hc
  cases c <;> (try simp only [mcOf] at hc) <;> try (cases hc; done)
  case region id ops d =>
    cases d <;> simp only [mcOf] at hc <;> refine (orStuck_eq hc).elim (fun hc => ?_) (fun hc => by cases hc)
    · simp only [Option.map_eq_some_iff] at hc
      obtain ⟨ms', h1, h2⟩ := hc
      cases h2
    · obtain ⟨ms', h1, h2⟩ := Option.bind_eq_some_iff.1 hc
      replace h2 := drwOf2_of (by intros; simp) h2
      unfold drwOf at h2
      split at h2
      · rename_i hok
        split at h2
        · cases h2
          obtain ⟨vs, ap, hrun, hB⟩ := drawES_run h
          have hlen : ops.size = ms'.length := by simpa using (mosOf_get h1).1
          obtain ⟨g1, g2⟩ := tail_spec (drawOk_spec hok.1) hlen hB
          exact aw_drawP h1 hok.1 hok.2 hrun g1 g2
        · cases h2
      · cases h2
  all_goals (first | (simp at hc; done) | (split at hc <;> simp at hc))
section
variable {P : Program} {Kp : AH → Prop} {a : A} {H : AH} {K : A → Prop}
@[go_sem] theorem drawES_nil (st : List PS) : drawES P Kp st [] a H K = K a := by cases st <;> rfl
@[go_sem] theorem drawES_ok (st : List PS) (d : Option Nat) (m : MOp) (ms : List MO) : drawES P Kp (.ok :: st) (⟨d, none, m⟩ :: ms) a H K = qmop P m a H (fun v => drawES P Kp st ms (a.putD d v) H K) := rfl
@[go_sem] theorem drawES_pan (st : List PS) (m : MO) (ms : List MO) : drawES P Kp (.pan :: st) (m :: ms) a H K = (panE P Kp m a H ∧ drawES P Kp st ms (a.putD m.dst Imp) H K) := rfl
@[go_sem] theorem drawES_bad (st : List PS) (m : MO) (ms : List MO) : drawES P Kp (.bad :: st) (m :: ms) a H K = ((m.looks.any fun t => isImp (a.get t)) = true ∧ drawES P Kp st ms (a.putD m.dst Imp) H K) := rfl
@[go_sem] theorem panE_tap (d : Option Nat) (t : Nat) (x : Opd) : panE P Kp ⟨d, none, .tap t x⟩ a H = (need (a.ev x) (panK t) ∧ ∀ H', H.le H' → Kp H') := by simp [panE]
@[go_sem] theorem panE_call (d : Option Nat) (f : Nat) (xs : List Opd) : panE P Kp ⟨d, none, .call f xs⟩ a H = need (a.evs xs) (fun vs => ∀ H', H.le H' → ACalls P f vs H' (fun o H'' => o = .pan ∧ Kp H'')) := by simp [panE]
@[go_sem] theorem panK_iface (t u : Nat) (v : V) : panK t (.iface u v) = (u ≠ t) := rfl
@[go_sem] theorem panK_nil (t : Nat) : panK t .nilIface = True := rfl
end
end Go.Vm
