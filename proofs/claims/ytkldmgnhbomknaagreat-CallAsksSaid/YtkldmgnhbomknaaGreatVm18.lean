/- Small laws for the walks: lists as slices, numbers that stay in their bounds. -/
import Derived.Test.YtkldmgnhbomknaaGreatVm17
set_option linter.unusedVariables false
set_option linter.unusedSimpArgs false
namespace Go.Vm
theorem wrap_id (n : Int) (h1 : -9223372036854775808 ≤ n) (h2 : n < 9223372036854775808) : IntKind.i64.wrap n = n := by
  unfold IntKind.wrap; simp [IntKind.bits,IntKind.signed]; omega
@[go_sem] theorem cast0 : ((0 : Nat) : Int) = 0 := rfl
@[go_sem] theorem cast1 : ((1 : Nat) : Int) = 1 := rfl
@[go_sem] theorem cast2 : ((2 : Nat) : Int) = 2 := rfl
def intsE (l : List Int) : List (List V) := l.map fun n => [.int .i64 n]
def strsE (l : List (List UInt8)) : List (List V) := l.map fun s => [.str s]
theorem strsE_get (l : List (List UInt8)) (i : Nat) : (strsE l)[i]? = (l[i]?).map fun s => [.str s] := by simp [strsE]
theorem strsE_length (l : List (List UInt8)) : (strsE l).length = l.length := by simp [strsE]
theorem intsE_get (l : List Int) (i : Nat) : (intsE l)[i]? = (l[i]?).map fun s => [.int .i64 s] := by simp [intsE]
theorem intsE_length (l : List Int) : (intsE l).length = l.length := by simp [intsE]
theorem get_of_lt {α : Type} {l : List α} {i : Nat} (h : i < l.length) : l[i]? = some (l[i]'h) := List.getElem?_eq_getElem h
def idx {α : Type} [DecidableEq α] (x : α) : List α → Int → Int
  | [],_ => -1
  | y :: l,i => if x = y then i else idx x l (i + 1)
inductive Subs (s : St) : List V → List V → Prop where
  | nil : Subs s [] []
  | cons {v u : V} {vs us : List V} : (∀ x,s.val v x → s.val u x) → Subs s vs us → Subs s (v :: vs) (u :: us)
theorem vals_sub {s : St} : ∀ {vs us : List V} {xs : List Value},Subs s vs us → s.vals vs xs → s.vals us xs
  | _,_,_,.nil,h => h
  | _,_,_,.cons h1 h2,.cons _ _ _ _ k1 k2 => .cons _ _ _ _ (h1 _ k1) (vals_sub h2 k2)
theorem agg_sub {s : St} {cs ds : List V} (ho : ones ds = true) (h : Subs s cs ds) (x : Value) (hx : s.val (.agg cs) x) : s.val (.agg ds) x := by
  cases hx with
  | agg _ xs h1 h2 => exact .agg _ _ ho (vals_sub h h2)
theorem ACalls.sub {P : Program} {f : FuncId} {vs us : List V} {H : AH} {Q : Out → AH → Prop} (h : ∀ s : St,Subs s vs us) (k : ACalls P f us H Q) : ACalls P f vs H Q :=
  fun s xs hr hv => k s xs hr (vals_sub (h s) hv)
theorem ACalls.drop {P : Program} {f : FuncId} {vs : List V} {H : AH} {v : V} (h : ACalls P f vs H (fun o H' => (∃ u,o = .ret u ∧ ∀ (s : St) x,s.val u x → s.val v x) ∧ H.le H')) : ACalls P f vs H (fun o H' => o = .ret v ∧ H' = H) :=
  fun s xs hr hv => (h s xs hr hv).mono fun e w p => by
    obtain ⟨s',H',o,h1,h2,h3,h4,⟨u,rfl,h5⟩,h6⟩ := p
    cases e <;> first | exact ⟨s',H,.ret v,h1,h2,h3.weaken h6,h5 s' _ h4,rfl,rfl⟩ | exact h4.elim
theorem none_of_le {H H' : AH} (h : H.le H') {i : Nat} (hi : H' i = none) : H i = none := by
  cases e : H i with
  | none => rfl
  | some o => rw [h i o e] at hi; cases hi
theorem no_sub {s : St} {sz : Nat} {es : List (List V)} {t : Tok} (x : Value) (h : s.val (.sl sz es t) x) : s.val (.sl sz es .no) x := by
  cases h with
  | slNil _ _ h => exact .slNil _ _ trivial
  | slEmp _ _ a cap h => exact .slEmp _ _ a cap trivial
  | sl _ _ _ b o cap h1 h2 h3 => exact .sl _ _ _ b o cap h1 h2 trivial
theorem nil_no {s : St} {sz : Nat} (x : Value) (h : s.val .nilSl x) : s.val (.sl sz [] .no) x := by
  cases h; exact .slNil _ _ trivial
def AccP (H : AH) (sz : Nat) (es : List (List V)) (v : V) (H' : AH) : Prop :=
  H.le H' ∧ ((es = [] ∧ v = .nilSl) ∨ ∃ k,H k = none ∧ v = .sl sz es (.id k) ∧ H' k = some (.top sz es.length))
theorem AccP.sub {H : AH} {sz : Nat} {es : List (List V)} {v : V} {H' : AH} (h : AccP H sz es v H') (s : St) (x : Value) (hx : s.val v x) : s.val (.sl sz es .no) x := by
  rcases h with ⟨_,⟨rfl,rfl⟩ | ⟨k,_,rfl,_⟩⟩
  · exact nil_no _ hx
  · exact no_sub _ hx
theorem AccP.le {H : AH} {sz : Nat} {es : List (List V)} {v : V} {H' : AH} (h : AccP H sz es v H') : H.le H' := h.1
theorem AccP.fresh {H H' : AH} {sz : Nat} {es : List (List V)} {k : Nat} (h : H.le H') (hn : H' k = none) : AccP H sz es (.sl sz es (.id k)) (H'.put k (.top sz es.length)) :=
  ⟨AH.le_put h (none_of_le h hn) _,.inr ⟨k,none_of_le h hn,rfl,AH.put_same _ _ _⟩⟩
theorem vapp_accL {H H' : AH} {sz b : Nat} {es fs : List (List V)} {v : V} {K : V → AH → Prop} (h : AccP H sz es v H') (hb : (es.length + fs.length) * b ≤ 140737488355328)
    (hk : ∀ v2 H2,AccP H sz (es ++ fs) v2 H2 → H'.lec H2 → K v2 H2) : vapp H' sz b fs K v := by
  rcases h with ⟨hl,⟨rfl,rfl⟩ | ⟨k,hn,rfl,ht⟩⟩
  · exact ⟨by simpa using hb,fun i hi => hk _ _ (AccP.fresh hl hi) (AH.lec_put (AH.lec_refl _) hi _)⟩
  · simp only [vapp,ht,need_some]
    refine ⟨⟨trivial,trivial,trivial,hb⟩,hk _ _ ⟨AH.le_put hl hn _,.inr ⟨k,hn,rfl,by rw [AH.put_same,List.length_append]⟩⟩ (AH.lec_put_top (AH.lec_refl _) ht _)⟩
theorem vapp_acc {H H' : AH} {sz b : Nat} {es fs : List (List V)} {v : V} {K : V → AH → Prop} (h : AccP H sz es v H') (hb : (es.length + fs.length) * b ≤ 140737488355328)
    (hk : ∀ v2 H2,AccP H sz (es ++ fs) v2 H2 → K v2 H2) : vapp H' sz b fs K v := vapp_accL h hb fun v2 H2 h _ => hk v2 H2 h
theorem AccP.nil (H : AH) (sz : Nat) : AccP H sz [] .nilSl H := ⟨AH.le_refl _,.inl ⟨rfl,rfl⟩⟩
end Go.Vm
