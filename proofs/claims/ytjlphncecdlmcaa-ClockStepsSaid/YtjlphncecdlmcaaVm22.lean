/- More rules of the walks: calls that leave more than a value; what is known may be weakened; slices that grow, beside other objects. -/
import Derived.Test.YtjlphncecdlmcaaVm21
set_option linter.unusedVariables false
set_option linter.unusedSimpArgs false
namespace Go.Vm
theorem call_ex {P : Program} {f : Nat} {vs : List V} {H : AH} {R : V → AH → Prop} {kk : V → AH → Prop} {kp : AH → Prop} (h : ACalls P f vs H (fun o H' => ∃ v, o = .ret v ∧ R v H')) (hk : ∀ v H', R v H' → kk v H') : ACalls P f vs H (outK kk kp) :=
  h.mono (by rintro o H' ⟨v, rfl, hr⟩; exact hk v H' hr)
theorem alloc_intro {H : AH} {p : Nat → Prop} (h : ∀ k, H k = none → p k) : ∀ i, H i = none → p i := h
theorem AH.le_trans {H H' H'' : AH} (h : H.le H') (k : H'.le H'') : H.le H'' := fun i o hi => k i o (h i o hi)
theorem drop_end {X Y : V} {H H' : AH} (h1 : ∀ (s : St) x, s.val X x → s.val Y x) (h2 : H.le H') : (∃ u, Out.ret X = Out.ret u ∧ ∀ (s : St) x, s.val u x → s.val Y x) ∧ H.le H' := ⟨⟨X, rfl, h1⟩, h2⟩
theorem tuple_sub {s : St} {cs ds : List V} (h : Subs s cs ds) (x : Value) (hx : s.val (.tuple cs) x) : s.val (.tuple ds) x := by
  cases hx with
  | tuple _ xs h1 => exact .tuple _ _ (vals_sub h h1)
/-! ### Looking an object up -/
theorem look_put {H : AH} {k i : Nat} {o p : AObj} (h : H i = some o) (hk : H k = none) : (H.put k p) i = some o := by
  rw [AH.put_ne]; exact h
  rintro rfl; rw [h] at hk; cases hk
theorem look_ne {H : AH} {k i : Nat} {o p : AObj} (hne : i ≠ k) (h : H i = some o) : (H.put k p) i = some o := by
  rw [AH.put_ne _ _ hne]; exact h
theorem fresh_ne {H : AH} {i k : Nat} {o : AObj} (h : H i = some o) (hk : H k = none) : i ≠ k := by rintro rfl; rw [h] at hk; cases hk
theorem fresh_en {H : AH} {i k : Nat} {o : AObj} (h : H i = some o) (hk : H k = none) : k ≠ i := by rintro rfl; rw [h] at hk; cases hk
theorem look_none {H : AH} {k i : Nat} {o p : AObj} (hi : H i = none) (hk : H k = some o) : (H.put k p) i = none := by
  rw [AH.put_ne]; exact hi
  rintro rfl; rw [hi] at hk; cases hk
theorem look_lec {H H' : AH} {i : Nat} {cs : List V} (h : H i = some (.cells cs)) (hl : H.lec H') : H' i = some (.cells cs) := hl i _ h (by intros; simp)
theorem look_le {H H' : AH} {i : Nat} {o : AObj} (h : H i = some o) (hl : H.le H') : H' i = some o := hl i _ h
theorem need_look {H : AH} {i : Nat} {o : AObj} {K : AObj → Prop} (h : H i = some o) (hk : K o) : need (H i) K := by rw [h]; exact hk
/-! ### All but one object as they were -/
def AH.leX (k : Nat) (H H' : AH) : Prop := ∀ i o, i ≠ k → H i = some o → H' i = some o
theorem leX_refl (k : Nat) (H : AH) : AH.leX k H H := fun _ _ _ h => h
theorem leX_self {k : Nat} {H H' : AH} (h : AH.leX k H H') (p : AObj) : AH.leX k H (H'.put k p) := fun i o hi ho => by rw [AH.put_ne _ _ hi]; exact h i o hi ho
theorem leX_new {k j : Nat} {H H' : AH} (h : AH.leX k H H') (hj : H' j = none) (p : AObj) : AH.leX k H (H'.put j p) := fun i o hi ho => look_put (h i o hi ho) hj
theorem leX_old {k j : Nat} {H H' : AH} (h : AH.leX k H H') (hj : H j = none) (p : AObj) : AH.leX k H (H'.put j p) := fun i o hi ho => by
  rw [AH.put_ne]; exact h i o hi ho
  rintro rfl; rw [ho] at hj; cases hj
theorem leX_le {k : Nat} {H H' H'' : AH} (h : AH.leX k H H') (hl : H'.le H'') : AH.leX k H H'' := fun i o hi ho => hl i o (h i o hi ho)
theorem put_le_of {k : Nat} {H H' : AH} {c : AObj} (h1 : H' k = some c) (h2 : AH.leX k H H') : (H.put k c).le H' := fun i o hi => by
  by_cases e : i = k
  · subst e; rw [AH.put_same] at hi; cases hi; exact h1
  · rw [AH.put_ne _ _ e] at hi; exact h2 i o e hi
/-- What a call leaves, less what is new. -/
theorem ACalls.dropG {P : Program} {f : FuncId} {vs : List V} {H G : AH} {v : V} (h : ACalls P f vs H (fun o H' => (∃ u, o = .ret u ∧ ∀ (s : St) x, s.val u x → s.val v x) ∧ G.le H')) : ACalls P f vs H (fun o H' => o = .ret v ∧ H' = G) :=
  fun s xs hr hv => (h s xs hr hv).mono fun e w p => by
    obtain ⟨s', H', o, h1, h2, h3, h4, ⟨u, rfl, h5⟩, h6⟩ := p
    cases e <;> first | exact ⟨s', G, .ret v, h1, h2, h3.weaken h6, h5 s' _ h4, rfl, rfl⟩ | exact h4.elim
/-- A call that turns one object. -/
theorem call_turn {P : Program} {f : Nat} {vs : List V} {v : V} {H G : AH} {kk : V → AH → Prop} {kp : AH → Prop} (h : ACalls P f vs H (fun o H' => o = .ret v ∧ H' = G)) (hk : kk v G) : ACalls P f vs H (outK kk kp) :=
  h.mono (by rintro o H' ⟨rfl, rfl⟩; exact hk)
/-- What is known may be weakened. -/
theorem AM.conv {P : Program} {N : Nat} {m : MC} {Q : AExit → A → AH → Prop} {a a' : A} {H H' : AH} (h : AM P N m Q a' H') (hc : ∀ s act, HRel s H → ARel s a act → HRel s H' ∧ ARel s a' act) : AM P N m Q a H :=
  fun imm lv c hm s act hn hr ha => let ⟨h1, h2⟩ := hc s act hr ha; h imm lv c hm s act hn h1 h2
inductive ASub (s : St) : A → A → Prop where
  | nil : ASub s [] []
  | cons {t : Nat} {v u : V} {a b : A} : (∀ x, s.val v x → s.val u x) → ASub s a b → ASub s ((t, v) :: a) ((t, u) :: b)
theorem ASub.get {s : St} {a b : A} (h : ASub s a b) {t : Nat} {u : V} (hu : b.get t = some u) : ∃ v, a.get t = some v ∧ ∀ x, s.val v x → s.val u x := by
  induction h with
  | nil => cases hu
  | cons h1 _ ih =>
    simp only [A.get] at hu ⊢
    split at hu
    · rename_i e; cases hu; rw [if_pos e]; exact ⟨_, rfl, h1⟩
    · rename_i e; rw [if_neg e]; exact ih hu
theorem ARel.subs {s : St} {a b : A} {act : Act} (h : ARel s a act) (hs : ASub s a b) : ARel s b act :=
  ⟨fun t u hu => let ⟨v, h1, h2⟩ := hs.get hu; let ⟨x, h3, h4⟩ := h.get t v h1; ⟨x, h3, h2 x h4⟩⟩
theorem AM.subA {P : Program} {N : Nat} {m : MC} {Q : AExit → A → AH → Prop} {a a' : A} {H : AH} (h : AM P N m Q a' H) (hs : ∀ s : St, ASub s a a') : AM P N m Q a H :=
  h.conv fun s _ hr ha => ⟨hr, ha.subs (hs s)⟩
theorem HRel.subCells {s : St} {H : AH} {k : Nat} {cs ds : List V} (hr : HRel s H) (hk : H k = some (.cells cs)) (ho : ones ds = true) (hs : Subs s cs ds) : HRel s (H.put k (.cells ds)) := by
  refine ⟨fun i o hi => ?_, fun i o hi => ?_, hr.blk, hr.tok, hr.role⟩
  · by_cases e : i = k
    · subst e
      rw [AH.put_same] at hi; cases hi
      obtain ⟨b, ys, zs, T, fr, h1, h2, h3, h0, h4, _⟩ := hr.obj i _ hk
      exact ⟨b, ys, zs, T, fr, h1, h2, h3, h0, vals_sub hs h4, ho⟩
    · rw [AH.put_ne _ _ e] at hi; exact hr.obj i o hi
  · by_cases e : i = k
    · subst e; exact hr.lt i _ hk
    · rw [AH.put_ne _ _ e] at hi; exact hr.lt i o hi
theorem AM.subC {P : Program} {N : Nat} {m : MC} {Q : AExit → A → AH → Prop} {a : A} {H : AH} {k : Nat} {cs ds : List V} (h : AM P N m Q a (H.put k (.cells ds))) (hk : H k = some (.cells cs)) (ho : ones ds = true) (hs : ∀ s : St, Subs s cs ds) : AM P N m Q a H :=
  h.conv fun s _ hr ha => ⟨hr.subCells hk ho (hs s), ha⟩
theorem put_self {H : AH} {k : Nat} {o : AObj} (h : H k = some o) : H.put k o = H := by
  funext i; simp only [AH.put]; split
  · rename_i e; subst e; exact h.symm
  · rfl

/-! ### A slice that grows, beside other objects -/
theorem AccP.get {H H' : AH} {sz : Nat} {es : List (List V)} {v : V} (h : AccP H sz es v H') {k : Nat} {o : AObj} (hk : H k = some o) : H' k = some o := h.le k o hk
theorem AccP.put {H H' : AH} {sz : Nat} {es : List (List V)} {v : V} (h : AccP H sz es v H') {k : Nat} {o : AObj} (hk : H k = some o) (p : AObj) : AccP (H.put k p) sz es v (H'.put k p) := by
  refine ⟨AH.put_le h.1 k p, h.2.imp id ?_⟩
  rintro ⟨i, hi, h2, h3⟩
  have hne : i ≠ k := by rintro rfl; rw [hk] at hi; cases hi
  exact ⟨i, by rw [AH.put_ne _ _ hne]; exact hi, h2, by rw [AH.put_ne _ _ hne]; exact h3⟩
/-- An object that came up since then may turn. -/
theorem AccP.turn {H H' : AH} {sz : Nat} {es : List (List V)} {v : V} (h : AccP H sz es v H') {k : Nat} {cs : List V} (hn : H k = none) (hk : H' k = some (.cells cs)) (p : AObj) : AccP H sz es v (H'.put k p) := by
  refine ⟨AH.le_put h.1 hn p, h.2.imp id ?_⟩
  rintro ⟨i, hi, h2, h3⟩
  have hne : i ≠ k := by rintro rfl; rw [hk] at h3; cases h3
  exact ⟨i, hi, h2, by rw [AH.put_ne _ _ hne]; exact h3⟩
/-- A later heap in which nothing has turned. -/
theorem AccP.mono {H H' H'' : AH} {sz : Nat} {es : List (List V)} {v : V} (h : AccP H sz es v H') (hl : H'.le H'') : AccP H sz es v H'' :=
  ⟨AH.le_trans h.1 hl, h.2.imp id fun ⟨i, hi, h2, h3⟩ => ⟨i, hi, h2, hl _ _ h3⟩⟩
/-- A new object beside it. -/
theorem AccP.new {H H' : AH} {sz : Nat} {es : List (List V)} {v : V} (h : AccP H sz es v H') {k : Nat} (hk : H' k = none) (p : AObj) : AccP H sz es v (H'.put k p) :=
  h.mono (AH.le_put (AH.le_refl _) hk p)
/-- Held against what there was earlier. -/
theorem AccP.base {H0 H H' : AH} {sz : Nat} {es : List (List V)} {v : V} (h : AccP H sz es v H') (hl : H0.le H) : AccP H0 sz es v H' :=
  ⟨AH.le_trans hl h.1, h.2.imp id fun ⟨i, hi, h2, h3⟩ => ⟨i, none_of_le hl hi, h2, h3⟩⟩
theorem AccP.lec {H H' : AH} {sz : Nat} {es : List (List V)} {v : V} (h : AccP H sz es v H') : H.lec H' := AH.lec_of_le h.le
theorem vapp_tight' {H : AH} {sz b : Nat} {es fs : List (List V)} {K : V → AH → Prop} (hb : (es.length + fs.length) * b ≤ 140737488355328)
    (hk : ∀ v2 H2, AccP H sz (es ++ fs) v2 H2 → K v2 H2) (hne : min es.length 1 ≤ fs.length := by first | omega | (simp only [List.length_cons, List.length_nil]; omega)) : Go.Vm.vapp H sz b fs K (.sl sz es .tight) :=
  ⟨⟨rfl, hne, hb⟩, fun i hi => hk _ _ (by rw [← List.length_append]; exact AccP.fresh (AH.le_refl _) hi)⟩
theorem vapp_nil' {H : AH} {sz b : Nat} {fs : List (List V)} {K : V → AH → Prop} (hb : fs.length * b ≤ 140737488355328)
    (hk : ∀ v2 H2, AccP H sz fs v2 H2 → K v2 H2) : Go.Vm.vapp H sz b fs K .nilSl :=
  ⟨hb, fun i hi => hk _ _ (AccP.fresh (AH.le_refl _) hi)⟩
/-- Of a slice that grows what is asked of slices. -/
theorem AccP.elems {H H' : AH} {sz : Nat} {es : List (List V)} {v : V} (h : AccP H sz es v H') : Go.Vm.elems sz v = some es := by
  rcases h with ⟨_, ⟨rfl, rfl⟩ | ⟨i, _, rfl, _⟩⟩ <;> simp [Go.Vm.elems]
theorem need_elems {H H' G : AH} {sz : Nat} {es : List (List V)} {v : V} {k : List (List V) → Prop} (h : AccP H sz es v H') (hk : k es) : need (Go.Vm.elemsH G sz v) k := by
  have e : Go.Vm.elemsH G sz v = Go.Vm.elems sz v := by rcases h with ⟨_, ⟨_, rfl⟩ | ⟨_, _, rfl, _⟩⟩ <;> rfl
  rw [e, h.elems]; exact hk
theorem vlen_acc {H H' G : AH} {sz : Nat} {es : List (List V)} {v : V} {k : V → Prop} (h : AccP H sz es v H') (hk : k (.int .i64 es.length)) : vlen G .sl v k := by
  rcases h with ⟨_, ⟨rfl, rfl⟩ | ⟨i, _, rfl, _⟩⟩
  · exact ⟨rfl, hk⟩
  · exact ⟨rfl, hk⟩
theorem bytesOf_cells (l : List UInt8) : bytesOf (byteCells l).flatten = some l := by
  induction l with
  | nil => rfl
  | cons b l ih => simp only [byteCells, List.map_cons, List.flatten_cons, List.singleton_append, bytesOf] at ih ⊢; simp [ih]
theorem bytes_cells (l : List UInt8) (t : Tok) : vbytes (.sl 1 (byteCells l) t) = some l := bytesOf_cells l
theorem AccP.str {H H' : AH} {l : List UInt8} {v : V} (h : AccP H 1 (byteCells l) v H') : vbytes v = some l := by
  rcases h with ⟨_, ⟨h1, rfl⟩ | ⟨i, _, rfl, _⟩⟩
  · have : l = [] := by simpa [byteCells] using h1
    subst this; rfl
  · exact bytesOf_cells l
theorem need_bytes {H H' G : AH} {l : List UInt8} {v : V} {k : List UInt8 → Prop} (h : AccP H 1 (byteCells l) v H') (hk : k l) : need (vbytesH G v) k := by
  have e : vbytesH G v = vbytes v := by rcases h with ⟨_, ⟨_, rfl⟩ | ⟨_, _, rfl, _⟩⟩ <;> rfl
  rw [e, h.str]; exact hk
/-- A fresh slice, whatever its right. -/
theorem acc_pure {P : Program} {f : FuncId} {vs : List V} {H : AH} {sz : Nat} {es : List (List V)} (h : ACalls P f vs H (fun o H' => ∃ v, o = .ret v ∧ AccP H sz es v H')) : ACalls P f vs H (fun o H' => o = .ret (.sl sz es .no) ∧ H' = H) :=
  ACalls.drop (h.mono fun o H' ⟨v, ho, hacc⟩ => ⟨⟨v, ho, fun s x hx => hacc.sub s x hx⟩, hacc.le⟩)
theorem toNat_succ (i : Nat) : ((i : Int) + 1).toNat = i + 1 := by omega
end Go.Vm
