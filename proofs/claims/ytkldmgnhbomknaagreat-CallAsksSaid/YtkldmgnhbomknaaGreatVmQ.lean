/- Contracts of functions of the given program. Conditions: as each theorem says. -/
import Derived.Test.YtkldmgnhbomknaaGreatVmT
set_option linter.unusedVariables false
set_option linter.unusedSimpArgs false
/- More rules of the walks: calls that leave more than a value; what is known may be weakened; slices that grow, beside other objects. -/
namespace Go.Vm
theorem call_ex {P : Program} {f : Nat} {vs : List V} {H : AH} {R : V → AH → Prop} {kk : V → AH → Prop} {kp : AH → Prop} (h : ACalls P f vs H (fun o H' => ∃ v,o = .ret v ∧ R v H')) (hk : ∀ v H',R v H' → kk v H') : ACalls P f vs H (outK kk kp) :=
  h.mono (by rintro o H' ⟨v,rfl,hr⟩; exact hk v H' hr)
theorem alloc_intro {H : AH} {p : Nat → Prop} (h : ∀ k,H k = none → p k) : ∀ i,H i = none → p i := h
theorem AH.le_trans {H H' H'' : AH} (h : H.le H') (k : H'.le H'') : H.le H'' := fun i o hi => k i o (h i o hi)
theorem drop_end {X Y : V} {H H' : AH} (h1 : ∀ (s : St) x,s.val X x → s.val Y x) (h2 : H.le H') : (∃ u,Out.ret X = Out.ret u ∧ ∀ (s : St) x,s.val u x → s.val Y x) ∧ H.le H' := ⟨⟨X,rfl,h1⟩,h2⟩
theorem tuple_sub {s : St} {cs ds : List V} (h : Subs s cs ds) (x : Value) (hx : s.val (.tuple cs) x) : s.val (.tuple ds) x := by
  cases hx with
  | tuple _ xs h1 => exact .tuple _ _ (vals_sub h h1)
/-! ### Looking an object up -/
theorem look_put {H : AH} {k i : Nat} {o p : AObj} (h : H i = some o) (hk : H k = none) : (H.put k p) i = some o := by
  rw [AH.put_ne]; exact h
  rintro rfl; rw [h] at hk; cases hk
theorem look_ne {H : AH} {k i : Nat} {o p : AObj} (hne : i ≠ k) (h : H i = some o) : (H.put k p) i = some o := by
  rw [AH.put_ne _ _ hne]; exact h
theorem fresh_ne {H : AH} {i k : Nat} {o : AObj} (h : H i = some o) (hk : H k = none) : i ≠ k := by rintro rfl; rw [h] at hk; cases hk
theorem look_lec {H H' : AH} {i : Nat} {cs : List V} (h : H i = some (.cells cs)) (hl : H.lec H') : H' i = some (.cells cs) := hl i _ h (by intros; simp)
theorem look_le {H H' : AH} {i : Nat} {o : AObj} (h : H i = some o) (hl : H.le H') : H' i = some o := hl i _ h
theorem need_look {H : AH} {i : Nat} {o : AObj} {K : AObj → Prop} (h : H i = some o) (hk : K o) : need (H i) K := by rw [h]; exact hk
/-! ### All but one object as they were -/
def AH.leX (k : Nat) (H H' : AH) : Prop := ∀ i o,i ≠ k → H i = some o → H' i = some o
theorem leX_refl (k : Nat) (H : AH) : AH.leX k H H := fun _ _ _ h => h
theorem leX_self {k : Nat} {H H' : AH} (h : AH.leX k H H') (p : AObj) : AH.leX k H (H'.put k p) := fun i o hi ho => by rw [AH.put_ne _ _ hi]; exact h i o hi ho
theorem leX_old {k j : Nat} {H H' : AH} (h : AH.leX k H H') (hj : H j = none) (p : AObj) : AH.leX k H (H'.put j p) := fun i o hi ho => by
  rw [AH.put_ne]; exact h i o hi ho
  rintro rfl; rw [ho] at hj; cases hj
theorem put_le_of {k : Nat} {H H' : AH} {c : AObj} (h1 : H' k = some c) (h2 : AH.leX k H H') : (H.put k c).le H' := fun i o hi => by
  by_cases e : i = k
  · subst e; rw [AH.put_same] at hi; cases hi; exact h1
  · rw [AH.put_ne _ _ e] at hi; exact h2 i o e hi
theorem ACalls.dropG {P : Program} {f : FuncId} {vs : List V} {H G : AH} {v : V} (h : ACalls P f vs H (fun o H' => (∃ u,o = .ret u ∧ ∀ (s : St) x,s.val u x → s.val v x) ∧ G.le H')) : ACalls P f vs H (fun o H' => o = .ret v ∧ H' = G) :=
  fun s xs hr hv => (h s xs hr hv).mono fun e w p => by
    obtain ⟨s',H',o,h1,h2,h3,h4,⟨u,rfl,h5⟩,h6⟩ := p
    cases e <;> first | exact ⟨s',G,.ret v,h1,h2,h3.weaken h6,h5 s' _ h4,rfl,rfl⟩ | exact h4.elim
theorem call_turn {P : Program} {f : Nat} {vs : List V} {v : V} {H G : AH} {kk : V → AH → Prop} {kp : AH → Prop} (h : ACalls P f vs H (fun o H' => o = .ret v ∧ H' = G)) (hk : kk v G) : ACalls P f vs H (outK kk kp) :=
  h.mono (by rintro o H' ⟨rfl,rfl⟩; exact hk)
theorem AM.conv {P : Program} {N : Nat} {m : MC} {Q : AExit → A → AH → Prop} {a a' : A} {H H' : AH} (h : AM P N m Q a' H') (hc : ∀ s act,HRel s H → ARel s a act → HRel s H' ∧ ARel s a' act) : AM P N m Q a H :=
  fun imm lv c hm s act hn hr ha => let ⟨h1,h2⟩ := hc s act hr ha; h imm lv c hm s act hn h1 h2
inductive ASub (s : St) : A → A → Prop where
  | nil : ASub s [] []
  | cons {t : Nat} {v u : V} {a b : A} : (∀ x,s.val v x → s.val u x) → ASub s a b → ASub s ((t,v) :: a) ((t,u) :: b)
theorem ASub.get {s : St} {a b : A} (h : ASub s a b) {t : Nat} {u : V} (hu : b.get t = some u) : ∃ v,a.get t = some v ∧ ∀ x,s.val v x → s.val u x := by
  induction h with
  | nil => cases hu
  | cons h1 _ ih =>
    simp only [A.get] at hu ⊢
    split at hu
    · rename_i e; cases hu; rw [if_pos e]; exact ⟨_,rfl,h1⟩
    · rename_i e; rw [if_neg e]; exact ih hu
theorem ARel.subs {s : St} {a b : A} {act : Act} (h : ARel s a act) (hs : ASub s a b) : ARel s b act :=
  ⟨fun t u hu => let ⟨v,h1,h2⟩ := hs.get hu; let ⟨x,h3,h4⟩ := h.get t v h1; ⟨x,h3,h2 x h4⟩⟩
theorem HRel.subCells {s : St} {H : AH} {k : Nat} {cs ds : List V} (hr : HRel s H) (hk : H k = some (.cells cs)) (ho : ones ds = true) (hs : Subs s cs ds) : HRel s (H.put k (.cells ds)) := by
  refine ⟨fun i o hi => ?_,fun i o hi => ?_,hr.blk,hr.tok,hr.role⟩
  · by_cases e : i = k
    · subst e
      rw [AH.put_same] at hi; cases hi
      obtain ⟨b,ys,zs,T,fr,h1,h2,h3,h0,h4,_⟩ := hr.obj i _ hk
      exact ⟨b,ys,zs,T,fr,h1,h2,h3,h0,vals_sub hs h4,ho⟩
    · rw [AH.put_ne _ _ e] at hi; exact hr.obj i o hi
  · by_cases e : i = k
    · subst e; exact hr.lt i _ hk
    · rw [AH.put_ne _ _ e] at hi; exact hr.lt i o hi
theorem AM.subC {P : Program} {N : Nat} {m : MC} {Q : AExit → A → AH → Prop} {a : A} {H : AH} {k : Nat} {cs ds : List V} (h : AM P N m Q a (H.put k (.cells ds))) (hk : H k = some (.cells cs)) (ho : ones ds = true) (hs : ∀ s : St,Subs s cs ds) : AM P N m Q a H :=
  h.conv fun s _ hr ha => ⟨hr.subCells hk ho (hs s),ha⟩
theorem put_self {H : AH} {k : Nat} {o : AObj} (h : H k = some o) : H.put k o = H := by
  funext i; simp only [AH.put]; split
  · rename_i e; subst e; exact h.symm
  · rfl
/-! ### A slice that grows, beside other objects -/
theorem AccP.get {H H' : AH} {sz : Nat} {es : List (List V)} {v : V} (h : AccP H sz es v H') {k : Nat} {o : AObj} (hk : H k = some o) : H' k = some o := h.le k o hk
theorem AccP.put {H H' : AH} {sz : Nat} {es : List (List V)} {v : V} (h : AccP H sz es v H') {k : Nat} {o : AObj} (hk : H k = some o) (p : AObj) : AccP (H.put k p) sz es v (H'.put k p) := by
  refine ⟨AH.put_le h.1 k p,h.2.imp id ?_⟩
  rintro ⟨i,hi,h2,h3⟩
  have hne : i ≠ k := by rintro rfl; rw [hk] at hi; cases hi
  exact ⟨i,by rw [AH.put_ne _ _ hne]; exact hi,h2,by rw [AH.put_ne _ _ hne]; exact h3⟩
theorem AccP.turn {H H' : AH} {sz : Nat} {es : List (List V)} {v : V} (h : AccP H sz es v H') {k : Nat} {cs : List V} (hn : H k = none) (hk : H' k = some (.cells cs)) (p : AObj) : AccP H sz es v (H'.put k p) := by
  refine ⟨AH.le_put h.1 hn p,h.2.imp id ?_⟩
  rintro ⟨i,hi,h2,h3⟩
  have hne : i ≠ k := by rintro rfl; rw [hk] at h3; cases h3
  exact ⟨i,hi,h2,by rw [AH.put_ne _ _ hne]; exact h3⟩
theorem AccP.mono {H H' H'' : AH} {sz : Nat} {es : List (List V)} {v : V} (h : AccP H sz es v H') (hl : H'.le H'') : AccP H sz es v H'' :=
  ⟨AH.le_trans h.1 hl,h.2.imp id fun ⟨i,hi,h2,h3⟩ => ⟨i,hi,h2,hl _ _ h3⟩⟩
theorem AccP.new {H H' : AH} {sz : Nat} {es : List (List V)} {v : V} (h : AccP H sz es v H') {k : Nat} (hk : H' k = none) (p : AObj) : AccP H sz es v (H'.put k p) :=
  h.mono (AH.le_put (AH.le_refl _) hk p)
theorem AccP.base {H0 H H' : AH} {sz : Nat} {es : List (List V)} {v : V} (h : AccP H sz es v H') (hl : H0.le H) : AccP H0 sz es v H' :=
  ⟨AH.le_trans hl h.1,h.2.imp id fun ⟨i,hi,h2,h3⟩ => ⟨i,none_of_le hl hi,h2,h3⟩⟩
theorem AccP.lec {H H' : AH} {sz : Nat} {es : List (List V)} {v : V} (h : AccP H sz es v H') : H.lec H' := AH.lec_of_le h.le
theorem AccP.elems {H H' : AH} {sz : Nat} {es : List (List V)} {v : V} (h : AccP H sz es v H') : Go.Vm.elems sz v = some es := by
  rcases h with ⟨_,⟨rfl,rfl⟩ | ⟨i,_,rfl,_⟩⟩ <;> simp [Go.Vm.elems]
theorem need_elems {H H' G : AH} {sz : Nat} {es : List (List V)} {v : V} {k : List (List V) → Prop} (h : AccP H sz es v H') (hk : k es) : need (Go.Vm.elemsH G sz v) k := by
  have e : Go.Vm.elemsH G sz v = Go.Vm.elems sz v := by rcases h with ⟨_,⟨_,rfl⟩ | ⟨_,_,rfl,_⟩⟩ <;> rfl
  rw [e,h.elems]; exact hk
theorem vlen_acc {H H' G : AH} {sz : Nat} {es : List (List V)} {v : V} {k : V → Prop} (h : AccP H sz es v H') (hk : k (.int .i64 es.length)) : vlen G .sl v k := by
  rcases h with ⟨_,⟨rfl,rfl⟩ | ⟨i,_,rfl,_⟩⟩
  · exact ⟨rfl,hk⟩
  · exact ⟨rfl,hk⟩
theorem bytesOf_cells (l : List UInt8) : bytesOf (byteCells l).flatten = some l := by
  induction l with
  | nil => rfl
  | cons b l ih => simp only [byteCells,List.map_cons,List.flatten_cons,List.singleton_append,bytesOf] at ih ⊢; simp [ih]
theorem bytes_cells (l : List UInt8) (t : Tok) : vbytes (.sl 1 (byteCells l) t) = some l := bytesOf_cells l
theorem AccP.str {H H' : AH} {l : List UInt8} {v : V} (h : AccP H 1 (byteCells l) v H') : vbytes v = some l := by
  rcases h with ⟨_,⟨h1,rfl⟩ | ⟨i,_,rfl,_⟩⟩
  · have : l = [] := by simpa [byteCells] using h1
    subst this; rfl
  · exact bytesOf_cells l
theorem need_bytes {H H' G : AH} {l : List UInt8} {v : V} {k : List UInt8 → Prop} (h : AccP H 1 (byteCells l) v H') (hk : k l) : need (vbytesH G v) k := by
  have e : vbytesH G v = vbytes v := by rcases h with ⟨_,⟨_,rfl⟩ | ⟨_,_,rfl,_⟩⟩ <;> rfl
  rw [e,h.str]; exact hk
theorem acc_pure {P : Program} {f : FuncId} {vs : List V} {H : AH} {sz : Nat} {es : List (List V)} (h : ACalls P f vs H (fun o H' => ∃ v,o = .ret v ∧ AccP H sz es v H')) : ACalls P f vs H (fun o H' => o = .ret (.sl sz es .no) ∧ H' = H) :=
  ACalls.drop (h.mono fun o H' ⟨v,ho,hacc⟩ => ⟨⟨v,ho,fun s x hx => hacc.sub s x hx⟩,hacc.le⟩)
theorem toNat_succ (i : Nat) : ((i : Int) + 1).toNat = i + 1 := by omega
end Go.Vm
/- Objects that nobody writes any more become values. -/
namespace Go.Vm
def AH.del (H : AH) (k : Nat) : AH := fun i => if i = k then none else H i
theorem AH.del_ne (H : AH) {k i : Nat} (h : i ≠ k) : (H.del k) i = H i := by simp [AH.del,h]
theorem AH.le_del {H H' : AH} (h : H.le H') {k : Nat} (hk : H k = none) : H.le (H'.del k) := fun i o hi => by
  rw [AH.del_ne]; exact h i o hi
  rintro rfl; rw [hk] at hi; cases hi
def St.loose (s : St) (b : Nat) : St := { s with role := fun c => if c = b then none else s.role c }
theorem St.ext_loose {s : St} {b : Nat} : Ext s (s.loose b) := by
  refine ⟨rfl,rfl,rfl,⟨rfl,fun _ => by first | exact Nat.le_refl _ | exact Nat.le_succ _⟩,Nat.le_refl _,fun c hc h => ⟨?_,rfl⟩,fun c k e hc h => ⟨?_,fun _ _ => rfl⟩,fun _ _ h => h,fun _ st h => ⟨st,h,.inl rfl⟩,Nat.le_refl _⟩
  · simp only [St.loose]; split <;> simp [h]
  · simp only [St.loose]; split
    · exact .inl rfl
    · exact .inr ⟨e,Nat.le_refl _,h⟩
theorem HRel.loose {s : St} {H : AH} (hr : HRel s H) {k b : Nat} (hb : s.role b = some (k,0)) : HRel (s.loose b) (H.del k) := by
  refine ⟨fun i o hi => ?_,fun i o hi => ?_,hr.blk,hr.tok,fun c i e he => ?_⟩
  · by_cases e : i = k
    · subst e; simp [AH.del] at hi
    · rw [AH.del_ne _ e] at hi
      refine ORel.keep St.ext_loose (fun c e' he => ⟨?_,rfl⟩) rfl (hr.obj i o hi)
      simp only [St.loose]
      rw [if_neg]
      rintro rfl; rw [hb] at he; cases he; exact e rfl
  · by_cases e : i = k
    · subst e; simp [AH.del] at hi
    · rw [AH.del_ne _ e] at hi; exact hr.lt i o hi
  · simp only [St.loose] at he ⊢
    split at he
    · cases he
    · exact hr.role c i e he
def Froze (s : St) (k : Nat) (cs : List V) : Prop :=
  ∀ sz off n,off + n * sz ≤ cs.length → ∀ x,s.val (.msl k sz off n) x → s.val (.sl sz (chop sz n (cs.drop off)) .no) x
theorem HRel.freeze {s : St} {H : AH} (hr : HRel s H) {k : Nat} {cs : List V} (hk : H k = some (.cells cs)) : ∃ s',s'.w = s.w ∧ Ext s s' ∧ HRel s' (H.del k) ∧ Froze s' k cs := by
  obtain ⟨b,ys,zs,T,fr,h1,h2,h3,h4,h5,h6⟩ := hr.obj k _ hk
  have hx : Ext s (s.loose b) := St.ext_loose
  refine ⟨s.loose b,rfl,hx,hr.loose h2,fun sz off n hle x hv => ?_⟩
  obtain ⟨b',o,cap,g1,g2,g3,rfl⟩ := inv_msl hv
  rw [hx.blk k b h1] at g1; cases g1
  obtain ⟨c1,c2,c3⟩ := chop_flat sz n (cs.drop off) (by rw [List.length_drop]; omega)
  have hyl := vals_length h5
  have hrole : ∀ k' e,(s.loose b).role b = some (k',e) → False := by intro k' e he; simp [St.loose] at he
  rcases Nat.eq_zero_or_pos n with rfl | hpos
  · exact .slEmp sz .no _ cap trivial
  · obtain rfl : o = off := by omega
    have hels := els_of_cells (s := s.loose b) (b := b) (sz := sz) h3 (chop sz n (cs.drop o)) o c3 (by rw [c1]; exact ones_take (ones_drop h6 _) _) (by
      rw [c1,c2]
      have := vals_part (h5.mono hx) o (n * sz)
      have e : ((ys ++ zs).toList.drop o).take (n * sz) = (ys.toList.drop o).take (n * sz) := by
        rw [Array.toList_append,List.drop_append_of_le_length (by simp at hyl ⊢; omega),List.take_append_of_le_length (by simp at hyl ⊢; omega)]
      rw [e]; exact this) (fun k' e he => (hrole k' e he).elim)
    have := Holds.sl sz (chop sz n (cs.drop o)) .no b o cap hels (by rw [c2]; exact g2) trivial
    rw [c2] at this
    exact this
theorem AM.freeze {P : Program} {N : Nat} {m : MC} {Q : AExit → A → AH → Prop} {a a' : A} {H : AH} {k : Nat} {cs : List V} (hk : H k = some (.cells cs)) (hs : ∀ s : St,Froze s k cs → ASub s a a') (h : AM P N m Q a' (H.del k)) : AM P N m Q a H :=
  fun imm lv c hm s act hn hr ha => by
    obtain ⟨s',h1,h2,h3,h4⟩ := hr.freeze hk
    have := h imm lv c hm s' act hn h3 ((ha.mono h2).subs (hs s' h4))
    rw [← h1]
    exact wp_mono this fun _ _ _ h => h.of_ext h2
theorem ACalls.freeze {P : Program} {f : FuncId} {vs : List V} {H : AH} {Q : Out → AH → Prop} {R : V → AH → Prop} (h : ACalls P f vs H Q)
    (hq : ∀ o H',Q o H' → ∃ v,o = .ret v ∧ (R v H' ∨ ∃ k cs v',H' k = some (.cells cs) ∧ (∀ s : St,Froze s k cs → ∀ x,s.val v x → s.val v' x) ∧ R v' (H'.del k))) : ACalls P f vs H (fun o H' => ∃ v,o = .ret v ∧ R v H') :=
  fun s xs hr hv => (h s xs hr hv).mono fun e w p => by
    obtain ⟨s',H',o,rfl,h2,h3,h4,h5⟩ := p
    obtain ⟨v,rfl,h6 | ⟨k,cs,v',k1,k2,k3⟩⟩ := hq o H' h5
    · exact ⟨s',H',.ret v,rfl,h2,h3,h4,v,rfl,h6⟩
    · obtain ⟨s2,g1,g2,g3,g4⟩ := h3.freeze k1
      cases e with
      | returned x => exact ⟨s2,_,.ret v',g1,h2.trans g2,g3,k2 s2 g4 _ (Holds.mono g2 h4),v',rfl,k3⟩
      | panicked c => exact h4.elim
      | outgrown => exact h4.elim
end Go.Vm
/- Small laws of lists as slices. -/
namespace Go.Vm
theorem byteCells_length (l : List UInt8) : (byteCells l).length = l.length := by simp [byteCells]
theorem byteCells_get (l : List UInt8) (i : Nat) : (byteCells l)[i]? = (l[i]?).map fun b => [.int .u8 b.toNat] := by simp [byteCells]
theorem byteCells_take (l : List UInt8) (n : Nat) : (byteCells l).take n = byteCells (l.take n) := by simp [byteCells]
theorem byteCells_drop (l : List UInt8) (n : Nat) : (byteCells l).drop n = byteCells (l.drop n) := by simp [byteCells]
theorem byteCells_append (l m : List UInt8) : byteCells (l ++ m) = byteCells l ++ byteCells m := by simp [byteCells]
theorem end_same {X : V} {H : AH} : (∃ u,Out.ret X = Out.ret u ∧ ∀ (s : St) (x : Value),s.val u x → s.val X x) ∧ H.le H := drop_end (fun _ _ h => h) (AH.le_refl _)
theorem end_le {X : V} {H H' : AH} (h : H.le H') : (∃ u,Out.ret X = Out.ret u ∧ ∀ (s : St) (x : Value),s.val u x → s.val X x) ∧ H.le H' := drop_end (fun _ _ h => h) h
theorem qcall_at {P : Program} {f : Nat} {vs : List V} {v : V} {H : AH} {k : V → Prop} (h : ∀ H',H.lec H' → ACalls P f vs H' (fun o H'' => o = .ret v ∧ H'' = H')) (hk : k v) : qcall P f vs H k := ⟨v,h,hk⟩
theorem call_at {P : Program} {f : Nat} {vs : List V} {v : V} {H : AH} {kk : V → AH → Prop} {kp : AH → Prop} (h : ∀ H',H.lec H' → ACalls P f vs H' (fun o H'' => o = .ret v ∧ H'' = H')) (hk : kk v H) : ACalls P f vs H (outK kk kp) :=
  (h H (AH.lec_refl H)).mono (by rintro o H' ⟨rfl,rfl⟩; exact hk)
theorem end_eq {X Y : V} {H H' : AH} (h : Y = X) (hl : H.le H') : (∃ u,Out.ret Y = Out.ret u ∧ ∀ (s : St) (x : Value),s.val u x → s.val X x) ∧ H.le H' := by subst h; exact end_le hl
end Go.Vm
