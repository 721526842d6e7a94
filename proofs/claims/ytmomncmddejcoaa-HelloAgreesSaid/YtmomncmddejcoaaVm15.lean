/- A region that draws its order: whatever order is drawn. -/
import Derived.Test.YtmomncmddejcoaaVm14
set_option linter.unusedVariables false
set_option linter.unusedSimpArgs false
namespace Go.Vm

/-- Whether operation j waits for operation i, through others too. -/
def depB (ops : Array Oper) : Nat → Nat → Nat → Bool
  | 0, _, _ => false
  | n + 1, i, j => match ops[j]? with
    | some o => o.after.any fun e => Region.binds .any e && (e.on == i || depB ops n i e.on)
    | none => false

/-- Whether an operation looks at, or writes, what another one writes. -/
def confB (ms : List MO) (i j : Nat) : Bool :=
  match ms[i]?, ms[j]? with
  | some mi, some mj => match mj.dst with
    | some t => mi.looks.contains t || mi.dst == some t
    | none => false
  | _, _ => false

def drawOk (ops : Array Oper) (ms : List MO) (p : Nat) : Bool :=
  (List.range ops.size).all fun j =>
    (match ops[j]? with | some o => o.after.all (fun e => !Region.binds .any e || decide (e.on < j)) | none => true) &&
    (List.range ops.size).all fun i =>
      if i < p ∧ j < p then i == j || !confB ms i j || (if j < i then depB ops ops.size j i else depB ops ops.size i j)
      else if i < j ∧ p ≤ j then depB ops ops.size i j else true

structure DrawOk (ops : Array Oper) (ms : List MO) (p : Nat) : Prop where
  back : ∀ j o, ops[j]? = some o → ∀ e ∈ o.after, Region.binds .any e = true → e.on < j
  conf : ∀ i j, i < p → j < p → i < ops.size → j < ops.size → i ≠ j → confB ms i j = true → (j < i → depB ops ops.size j i = true) ∧ (i < j → depB ops ops.size i j = true)
  tail : ∀ i j, i < j → p ≤ j → j < ops.size → depB ops ops.size i j = true

theorem drawOk_spec {ops : Array Oper} {ms : List MO} {p : Nat} (h : drawOk ops ms p = true) : DrawOk ops ms p := by
  simp only [drawOk, List.all_eq_true, List.mem_range, Bool.and_eq_true] at h
  refine ⟨fun j o hj e he hb => ?_, fun i j hi hj hi' hj' hne hc => ?_, fun i j hij hp hj => ?_⟩
  · have hlt : j < ops.size := by
      by_cases hl : j < ops.size
      · exact hl
      · rw [Array.getElem?_eq_none (by omega)] at hj; cases hj
    have := (h j hlt).1
    rw [hj] at this
    simp only [Array.all_eq_true'] at this
    have := this e he
    simpa [hb] using this
  · have := (h j hj').2 i hi'
    rw [if_pos ⟨hi, hj⟩] at this
    simp only [hc, Bool.or_eq_true, beq_iff_eq, hne, false_or, Bool.not_true] at this
    constructor
    · intro hlt; simpa [hlt] using this
    · intro hlt; have hn : ¬ j < i := by omega
      simpa [hn] using this
  · have := (h j hj).2 i (by omega)
    rw [if_neg (by omega), if_pos ⟨hij, hp⟩] at this
    exact this

def Closed (ops : Array Oper) (listed : Array Bool) : Prop :=
  ∀ j o, ops[j]? = some o → listed.getD j false = true → ∀ e ∈ o.after, Region.binds .any e = true → listed.getD e.on false = true

theorem dep_listed {ops : Array Oper} {listed : Array Bool} (hc : Closed ops listed) : ∀ (n i j : Nat), depB ops n i j = true → (∀ o, ops[j]? = some o → ∀ e ∈ o.after, Region.binds .any e = true → listed.getD e.on false = true) → listed.getD i false = true
  | 0, _, _, h, _ => by simp [depB] at h
  | n + 1, i, j, h, hj => by
    simp only [depB] at h
    split at h
    · rename_i o ho
      rw [Array.any_eq_true'] at h
      obtain ⟨e, he, h⟩ := h
      rw [Bool.and_eq_true, Bool.or_eq_true] at h
      have hl := hj o ho e he h.1
      rcases h.2 with h2 | h2
      · rw [← (beq_iff_eq.1 h2)]; exact hl
      · exact dep_listed hc n i e.on h2 (fun o' ho' => hc e.on o' ho' hl)
    · cases h

def cntN (listed : Array Bool) : Nat → Nat
  | 0 => 0
  | n + 1 => cntN listed n + if listed.getD n true = false then 1 else 0

theorem cnt_set {listed : Array Bool} {i : Nat} (hi : listed.getD i true = false) : ∀ n, cntN (listed.setIfInBounds i true) n + (if i < n then 1 else 0) = cntN listed n
  | 0 => by simp [cntN]
  | n + 1 => by
    have hlt : i < listed.size := by
      by_cases h : i < listed.size
      · exact h
      · simp [Array.getElem?_eq_none (Nat.le_of_not_lt h)] at hi
    have ih := cnt_set hi n
    simp only [cntN]
    by_cases e : i = n
    · subst e
      have h1 : (listed.setIfInBounds i true).getD i true = true := by simp [hlt]
      rw [if_neg (by omega)] at ih
      rw [if_neg (by rw [h1]; simp), if_pos hi, if_pos (by omega)]
      omega
    · rw [getD_set_ne true e]
      generalize (if listed.getD n true = false then 1 else 0) = c
      by_cases h2 : i < n
      · rw [if_pos h2] at ih; rw [if_pos (by omega)]; omega
      · rw [if_neg h2] at ih; rw [if_neg (by omega)]; omega

theorem cnt_pos {listed : Array Bool} {i n : Nat} (hi : listed.getD i true = false) (h : i < n) : 0 < cntN listed n := by
  have := cnt_set hi n
  rw [if_pos h] at this
  omega

theorem getD_iff {listed : Array Bool} {j : Nat} (h : j < listed.size) : listed.getD j true = listed.getD j false := by simp [h]

/-- The first that has not come up may come up. -/
theorem min_ready {ops : Array Oper} {listed : Array Bool} (hs : listed.size = ops.size) (hb : ∀ j o, ops[j]? = some o → ∀ e ∈ o.after, Region.binds .any e = true → e.on < j) : ∀ (k : Nat), k < ops.size → listed.getD k true = false → ∃ i, i ∈ Region.ready .any ops listed := by
  intro k
  induction k using Nat.strongRecOn with
  | _ k ih =>
    intro hk hu
    by_cases h : ∃ j, j < k ∧ listed.getD j true = false
    · obtain ⟨j, hj, hju⟩ := h
      exact ih j hj (by omega) hju
    · refine ⟨k, mem_ready.2 ⟨hu, _, Array.getElem?_eq_getElem hk, fun e he hbd => ?_⟩⟩
      have hlt := hb k _ (Array.getElem?_eq_getElem hk) e he hbd
      have : ¬ listed.getD e.on true = false := fun h' => h ⟨e.on, hlt, h'⟩
      rw [getD_iff (by omega)] at this
      simpa using this

def buildA : List MO → List V → Nat → (Nat → Bool) → A → A
  | m :: ms, v :: vs, k, L, a => buildA ms vs (k + 1) L (if L k = true then a.putD m.dst v else a)
  | _, _, _, _, a => a

theorem buildA_get (L : Nat → Bool) (t : Nat) : ∀ (ms : List MO) (vs : List V) (k : Nat) (a : A), (buildA ms vs k L a).get t = lookV ms vs k L t (a.get t)
  | [], _, _, _ => rfl
  | _ :: _, [], _, _ => rfl
  | m :: ms, v :: vs, k, a => by
    simp only [buildA, lookV]
    rw [buildA_get L t ms vs (k + 1)]
    congr 1
    by_cases h : L k = true
    · simp [h, putD_get]
    · simp [h]

section
variable {P : Program} {imm : Nat → Bool} {N : Nat} {ops : Array Oper} {ms : List MO} {p : Nat} {K : A → AH → Prop} {Kp : AH → Prop}

theorem mosOf_get : ∀ {os : List Oper} {ms : List MO}, mosOf P imm N ops os = some ms → os.length = ms.length ∧ ∀ (i : Nat) o, os[i]? = some o → ∃ m, ms[i]? = some m ∧ moOf P imm N ops o = some m
  | [], ms, h => by cases h; exact ⟨rfl, fun i o h => by simp at h⟩
  | o :: os, ms, h => by
    simp only [mosOf] at h
    split at h
    · rename_i m ms' h1 h2
      cases h
      obtain ⟨k1, k2⟩ := mosOf_get h2
      refine ⟨by simp [k1], fun i o' h => ?_⟩
      cases i with
      | zero => simp at h; subst h; exact ⟨m, rfl, h1⟩
      | succ i => simpa using k2 i o' (by simpa using h)
    · cases h

theorem tail_any (hm : mosOf P imm N ops ops.toList = some ms) (hd : DrawOk ops ms p) {s0 : St} {d : List Deferred} : ∀ (fuel k : Nat) (listed : Array Bool) (a : A) (H : AH) (s : St) (act : Act), listed.size = ops.size → (∀ j, j < k → j < ops.size → listed.getD j false = true) → (∀ j, k ≤ j → j < ops.size → listed.getD j true = false) → p ≤ k → ops.size - k ≤ fuel →
    awOps P (ms.drop k) a H K Kp → act.tmps.size = N → HRel s H → ARel s a act → Ext s0 s → act.defers = d → wpAny P .any ops (RegQ s0 d N K Kp) fuel listed act s.w := by
  obtain ⟨hlen, hget⟩ := mosOf_get hm
  simp only [Array.length_toList] at hlen
  have done : ∀ (k : Nat) (listed : Array Bool) (a : A) (H : AH) (s : St) (act : Act), listed.size = ops.size → (∀ j, j < k → j < ops.size → listed.getD j false = true) → ops.size ≤ k → awOps P (ms.drop k) a H K Kp → act.tmps.size = N → HRel s H → ARel s a act → Ext s0 s → act.defers = d → Region.ready .any ops listed = [] ∧ RegQ s0 d N K Kp .normal act s.w := by
    intro k listed a H s act hs hl hk h hn hr ha hx hdf
    rw [List.drop_of_length_le (by omega)] at h
    refine ⟨?_, .inl ⟨rfl, s, a, H, rfl, hx, hr, ha, hdf, hn, h⟩⟩
    apply List.eq_nil_iff_forall_not_mem.2
    intro i hi
    obtain ⟨hu, o, ho, _⟩ := mem_ready.1 hi
    have hlt : i < ops.size := by
      by_cases hl : i < ops.size
      · exact hl
      · rw [Array.getElem?_eq_none (by omega)] at ho; cases ho
    rw [getD_iff (by omega), hl i (by omega) hlt] at hu
    cases hu
  intro fuel
  induction fuel with
  | zero => intro k listed a H s act hs hl hu hp hf h hn hr ha hx hdf; exact done k listed a H s act hs hl (by omega) h hn hr ha hx hdf
  | succ fuel ih =>
    intro k listed a H s act hs hl hu hp hf h hn hr ha hx hdf
    by_cases hk : ops.size ≤ k
    · obtain ⟨h1, h2⟩ := done k listed a H s act hs hl hk h hn hr ha hx hdf
      exact ⟨fun _ => h2, fun i hi => by rw [h1] at hi; cases hi⟩
    · have hk' : k < ops.size := by omega
      refine ⟨fun h0 => ?_, fun i hi => ?_⟩
      · obtain ⟨i, hi⟩ := min_ready hs hd.back k hk' (hu k (Nat.le_refl _) hk')
        rw [h0] at hi; cases hi
      · obtain ⟨hiu, o, ho, hall⟩ := mem_ready.1 hi
        have hlt : i < ops.size := by
          by_cases hl : i < ops.size
          · exact hl
          · rw [Array.getElem?_eq_none (by omega)] at ho; cases ho
        have hki : k ≤ i := by
          by_cases hc : k ≤ i
          · exact hc
          · rw [getD_iff (by omega), hl i (by omega) hlt] at hiu; cases hiu
        have hclosed : Closed ops listed := by
          intro j oj hj hjl e he hb
          have hlj : j < ops.size := by
            by_cases hl : j < ops.size
            · exact hl
            · rw [Array.getElem?_eq_none (by omega)] at hj; cases hj
          have hjk : j < k := by
            by_cases hc : j < k
            · exact hc
            · have := hu j (by omega) hlj; rw [getD_iff (by omega), hjl] at this; cases this
          have := hd.back j oj hj e he hb
          exact hl e.on (by omega) (by omega)
        have hik : i = k := by
          by_cases hc : i = k
          · exact hc
          · have hdep := hd.tail k i (by omega) (by omega) hlt
            have := dep_listed hclosed _ k i hdep (fun o' ho' => by rw [ho] at ho'; cases ho'; exact hall)
            have h2 := hu k (Nat.le_refl _) hk'
            rw [getD_iff (by omega), this] at h2; cases h2
        subst hik
        obtain ⟨m, hm1, hm2⟩ := hget i o (by simpa using ho)
        have hdrop : ms.drop i = m :: ms.drop (i + 1) := by
          rw [List.drop_eq_getElem_cons (by omega)]
          congr 1
          rw [List.getElem?_eq_getElem (by omega)] at hm1
          exact Option.some.inj hm1
        rw [hdrop] at h
        have hst : stepE P m a H (fun a H => awOps P (ms.drop (i + 1)) a H K Kp) Kp := h
        have := step_sound (K := K) hm2 ho hst hn hr ha hx
        rw [hdf] at this
        refine wpOp_mono ?_ this
        rintro act' w' ⟨s', a', H', rfl, hx', hr', ha', hd', hn', k'⟩
        refine ih (i + 1) _ a' H' s' act' (by simpa using hs) (fun j hj hjs => ?_) (fun j hj hjs => ?_) (by omega) (by omega) k' hn' hr' ha' hx' hd'
        · by_cases e : j = i
          · subst e; simp [hs, hjs]
          · exact getD_set_true (hl j (by omega) hjs)
        · rw [getD_set_ne true (by omega)]; exact hu j (by omega) hjs

theorem pre_any (hm : mosOf P imm N ops ops.toList = some ms) (hd : DrawOk ops ms p) (hpn : p ≤ ops.size) {H : AH} {vs : List V} {a ap : A} (hrun : Run P H (ms.take p) vs a ap) (htail : awOps P (ms.drop p) ap H K Kp) {s0 : St} {d : List Deferred} : ∀ (fuel : Nat) (listed : Array Bool) (s : St) (act : Act), listed.size = ops.size → Closed ops listed → cntN listed ops.size ≤ fuel → (∀ j, p ≤ j → j < ops.size → listed.getD j true = false) →
    act.tmps.size = N → HRel s H → ARel s (buildA (ms.take p) vs 0 (fun j => listed.getD j false) a) act → Ext s0 s → act.defers = d → wpAny P .any ops (RegQ s0 d N K Kp) fuel listed act s.w := by
  obtain ⟨hlen, hget⟩ := mosOf_get hm
  simp only [Array.length_toList] at hlen
  intro fuel
  -- all have come up: the tail
  have full : ∀ (fuel : Nat) (listed : Array Bool) (s : St) (act : Act), listed.size = ops.size → (∀ j, j < p → listed.getD j false = true) → cntN listed ops.size ≤ fuel → (∀ j, p ≤ j → j < ops.size → listed.getD j true = false) → act.tmps.size = N → HRel s H → ARel s (buildA (ms.take p) vs 0 (fun j => listed.getD j false) a) act → Ext s0 s → act.defers = d → wpAny P .any ops (RegQ s0 d N K Kp) fuel listed act s.w := by
    intro fuel listed s act hs hl hf hu hn hr ha hx hdf
    have hcnt : ∀ n, n ≤ ops.size → p ≤ n → cntN listed n = n - p := by
      intro n
      induction n with
      | zero => intro _ _; simp [cntN]
      | succ n ih =>
        intro h1 h2
        simp only [cntN]
        by_cases hc : p ≤ n
        · rw [ih (by omega) hc, if_pos (hu n hc (by omega))]; omega
        · have hpn' : p = n + 1 := by omega
          have hz : ∀ m, m ≤ n → cntN listed m = 0 := by
            intro m
            induction m with
            | zero => intro _; rfl
            | succ m ihm => intro hm; simp only [cntN]; rw [ihm (by omega), if_neg (by rw [getD_iff (by omega), hl m (by omega)]; simp)]
          rw [hz n (Nat.le_refl _), if_neg (by rw [getD_iff (by omega), hl n (by omega)]; simp)]
          omega
    refine tail_any hm hd fuel p listed ap H s act hs (fun j hj _ => hl j hj) hu (Nat.le_refl _) ?_ htail hn hr (ha.sub fun t v ht => ?_) hx hdf
    · rw [← hcnt ops.size (Nat.le_refl _) hpn]; exact hf
    · rw [buildA_get, lookV_congr (L' := fun _ => true) _ _ _ _ (fun j mj hj _ => ?_), ← run_get hrun 0 t]
      · exact ht
      · have : j < p := by
          have := (List.getElem?_eq_some_iff.1 hj).1
          rw [List.length_take] at this; omega
        simp only [Nat.zero_add]
        exact hl j this
  induction fuel with
  | zero =>
    intro listed s act hs hcl hf hu hn hr ha hx hdf
    refine full 0 listed s act hs (fun j hj => ?_) hf hu hn hr ha hx hdf
    by_cases h : listed.getD j false = true
    · exact h
    · have := cnt_pos (n := ops.size) (listed := listed) (i := j) (by rw [getD_iff (by omega)]; simpa using h) (by omega)
      omega
  | succ fuel ih =>
    intro listed s act hs hcl hf hu hn hr ha hx hdf
    by_cases hall : ∀ j, j < p → listed.getD j false = true
    · exact full (fuel + 1) listed s act hs hall hf hu hn hr ha hx hdf
    · have hex : ∃ j, j < p ∧ listed.getD j false = false := by
        apply Classical.byContradiction
        intro hne
        exact hall fun j hj => by
          by_cases h : listed.getD j false = true
          · exact h
          · exact absurd ⟨j, hj, by simpa using h⟩ hne
      obtain ⟨q, hq, hqu⟩ := hex
      refine ⟨fun h0 => ?_, fun i hi => ?_⟩
      · obtain ⟨i, hi⟩ := min_ready hs hd.back q (by omega) (by rw [getD_iff (by omega)]; exact hqu)
        rw [h0] at hi; cases hi
      · obtain ⟨hiu, o, ho, hadj⟩ := mem_ready.1 hi
        have hlt : i < ops.size := by
          by_cases hl : i < ops.size
          · exact hl
          · rw [Array.getElem?_eq_none (by omega)] at ho; cases ho
        have hiu' : listed.getD i false = false := by rw [← getD_iff (by omega)]; exact hiu
        have hip : i < p := by
          by_cases hc : i < p
          · exact hc
          · have hdep := hd.tail q i (by omega) (by omega) hlt
            have := dep_listed hcl _ q i hdep (fun o' ho' => by rw [ho] at ho'; cases ho'; exact hadj)
            rw [this] at hqu; cases hqu
        obtain ⟨m, hm1, hm2⟩ := hget i o (by simpa using ho)
        have hmt : (ms.take p)[i]? = some m := by rw [List.getElem?_take, if_pos hip]; exact hm1
        obtain ⟨ai, v, hv, hqf, hr1, hr2⟩ := run_at hrun hmt 0
        -- what it looks at has been written, and by no later one
        have earlier : ∀ t, (t ∈ m.looks ∨ m.dst = some t) → ∀ j mj, (ms.take p)[j]? = some mj → mj.dst = some t → j < i → listed.getD (0 + j) false = true := by
          intro t ht j mj hj hdj hji
          have hc : confB ms i j = true := by
            have hj' : ms[j]? = some mj := by rw [List.getElem?_take, if_pos (by omega)] at hj; exact hj
            simp only [confB, hm1, hj', hdj]
            rcases ht with ht | ht
            · simp [ht]
            · simp [ht]
          have := (hd.conf i j hip (by omega) hlt (by omega) (by omega) hc).1 hji
          rw [Nat.zero_add]
          exact dep_listed hcl _ j i this (fun o' ho' => by rw [ho] at ho'; cases ho'; exact hadj)
        have later : ∀ t, (t ∈ m.looks ∨ m.dst = some t) → ∀ j mj, (ms.take p)[j]? = some mj → mj.dst = some t → i ≤ j → listed.getD (0 + j) false = false := by
          intro t ht j mj hj hdj hij
          rw [Nat.zero_add]
          by_cases e : j = i
          · subst e; exact hiu'
          · have hjp : j < p := by
              have := (List.getElem?_eq_some_iff.1 hj).1
              rw [List.length_take] at this; omega
            have hc : confB ms i j = true := by
              have hj' : ms[j]? = some mj := by rw [List.getElem?_take, if_pos hjp] at hj; exact hj
              simp only [confB, hm1, hj', hdj]
              rcases ht with ht | ht
              · simp [ht]
              · simp [ht]
            have hdep := (hd.conf i j hip hjp hlt (by omega) (by omega) hc).2 (by omega)
            by_cases h : listed.getD j false = true
            · have := dep_listed hcl _ i j hdep (fun o' ho' => hcl j o' ho' h)
              rw [hiu'] at this; cases this
            · simpa using h
        have hag : Agree m.looks ai (buildA (ms.take p) vs 0 (fun j => listed.getD j false) a) := by
          intro t ht
          rw [buildA_get]
          exact hr1 t _ (earlier t (.inl ht)) (later t (.inl ht))
        have hst := hqf _ H hag (AH.le_refl H) (fun a' H' => a' = (buildA (ms.take p) vs 0 (fun j => listed.getD j false) a).putD m.dst v ∧ H' = H) Kp ⟨rfl, rfl⟩
        have := step_sound (K := K) hm2 ho hst hn hr ha hx
        rw [hdf] at this
        refine wpOp_mono ?_ this
        rintro act' w' ⟨s', a', H', rfl, hx', hr', ha', hd', hn', rfl, rfl⟩
        refine ih _ s' act' (by simpa using hs) ?_ ?_ (fun j hj hjs => ?_) hn' hr' (ha'.sub fun t u ht => ?_) hx' hd'
        · intro j oj hj hjl e he hb
          by_cases e1 : j = i
          · subst e1
            rw [ho] at hj; cases hj
            exact getD_set_true (hadj e he hb)
          · rw [getD_set_ne false (by omega)] at hjl
            exact getD_set_true (hcl j oj hj hjl e he hb)
        · have := cnt_set hiu ops.size
          rw [if_pos hlt] at this; omega
        · rw [getD_set_ne true (by omega)]; exact hu j hj hjs
        · rw [buildA_get] at ht
          rw [putD_get, buildA_get]
          by_cases e : m.dst = some t
          · rw [if_pos e]
            rw [← ht]
            exact (hr2 t _ e (by simp [hs, hlt]) (fun j mj hj hdj hij => by
              have := later t (.inr e) j mj hj hdj (by omega)
              rw [getD_set_ne false (by omega)]; exact this)).symm
          · rw [if_neg e]
            rw [← ht]
            apply lookV_congr
            intro j mj hj hdj
            by_cases e1 : j = i
            · subst e1; rw [hmt] at hj; cases hj; exact absurd hdj e
            · simp only [Nat.zero_add]
              rw [getD_set_ne false (by omega)]

theorem aw_draw {id : Nat} {lv : List Nat} {Q : AExit → A → AH → Prop} {a : A} {H : AH} (hm : mosOf P imm N ops ops.toList = some ms) (hd : drawOk ops ms p = true) (hpn : p ≤ ops.size) (hf : P.follows .mixedOrders = true)
    (h : drawE P (ms.take p) a H (fun a' => awOps P (ms.drop p) a' H (regK lv Q) (regP Q))) : AW P N (.region id ops true) Q a H := by
  intro s act hn hr ha
  obtain ⟨vs, ap, hrun, htail⟩ := drawE_run h
  have conv : ∀ e act' w', RegQ s act.defers N (regK lv Q) (regP Q) e act' w' → AbsQ s act.defers N Q e act' w' := by
    rintro e act' w' (⟨rfl, s', a', H', e1, hx, hr', ha', hd, hn', k⟩ | ⟨ch, rfl, hch, h⟩)
    · exact ⟨.normal, trivial, s', _, H', e1, hx, hr', ha'.sub (A.get_only lv a'), hd, hn', k⟩
    · exact ⟨.panic, hch, h.mono (by rintro a H ⟨rfl, h⟩; exact h)⟩
  refine wp_mono (wp_region_any hf ?_) conv
  refine pre_any hm (drawOk_spec hd) hpn hrun htail ops.size (Array.replicate ops.size false) s.drew act (by simp) ?_ ?_ (fun j _ hj => by simp [hj]) hn hr.drew ?_ (St.ext_drew s) rfl
  · intro j o hj hjl
    exfalso
    by_cases hlt : j < ops.size
    · simp [hlt] at hjl
    · rw [Array.getElem?_eq_none (by omega)] at hj; cases hj
  · have : ∀ n, cntN (Array.replicate ops.size false) n ≤ n := by
      intro n
      induction n with
      | zero => simp [cntN]
      | succ n ih => simp only [cntN]; split <;> omega
    exact this _
  · refine (ha.mono (St.ext_drew s)).sub fun t v ht => ?_
    rw [buildA_get, lookV_none _ _ _ _ (fun j mj _ _ => by simp only [Array.getD_eq_getD_getElem?, Array.getElem?_replicate]; split <;> rfl)] at ht
    exact ht
end
end Go.Vm
