/- Plain laws of hellos as messages. -/
import Derived.Test.YtcfeafpjkcmdiaaGreatDoorM3
set_option linter.unusedVariables false
set_option linter.unusedSimpArgs false
namespace Go.Vm
/-- A slice that grows by appending, or one without room. -/
def AccG (H : AH) (sz : Nat) (es : List (List V)) (v : V) (H' : AH) : Prop := AccP H sz es v H' ∨ (v = .sl sz es .tight ∧ H.le H')
theorem AccG.le {H : AH} {sz : Nat} {es : List (List V)} {v : V} {H' : AH} (h : AccG H sz es v H') : H.le H' := by
  rcases h with h | h
  · exact h.le
  · exact h.2
theorem AccG.sub {H : AH} {sz : Nat} {es : List (List V)} {v : V} {H' : AH} (h : AccG H sz es v H') (s : St) (x : Value) (hx : s.val v x) : s.val (.sl sz es .no) x := by
  rcases h with h | ⟨rfl, _⟩
  · exact h.sub s x hx
  · exact no_sub x hx
theorem AccG.new {H H' : AH} {sz : Nat} {es : List (List V)} {v : V} (h : AccG H sz es v H') {k : Nat} (hk : H' k = none) (p : AObj) : AccG H sz es v (H'.put k p) := by
  rcases h with h | ⟨h1, h2⟩
  · exact .inl (h.new hk p)
  · exact .inr ⟨h1, AH.le_put h2 (none_of_le h2 hk) _⟩
theorem vapp_accG {H H' : AH} {sz b : Nat} {es fs : List (List V)} {v : V} {K : V → AH → Prop} (h : AccG H sz es v H') (hb : (es.length + fs.length) * b ≤ 140737488355328)
    (hk : ∀ v2 H2, AccP H sz (es ++ fs) v2 H2 → H'.lec H2 → K v2 H2) : vapp H' sz b fs K v := by
  rcases h with h | ⟨rfl, hl⟩
  · exact vapp_accL h hb hk
  · exact ⟨⟨rfl, hb⟩, fun i hi => hk _ _ (by rw [← List.length_append]; exact AccP.fresh hl hi) (AH.lec_put (AH.lec_refl _) hi _)⟩
theorem row_sub {s : St} {cs ds : List V} (h : Subs s cs ds) : ∀ {b o : Nat}, ones ds = true → Holds s (.row b o cs) → Holds s (.row b o ds) := by
  induction h with
  | nil => intro b o _ _; exact .rowNil b o
  | cons h1 _ ih =>
    intro b o ho hr
    rw [ones_cons, Bool.and_eq_true] at ho
    cases hr with
    | rowCons _ _ _ y _ hone hi hv hr => exact .rowCons b o _ y _ ho.1 hi (h1 y hv) (ih ho.2 hr)
inductive ESubs (s : St) : List (List V) → List (List V) → Prop where
  | nil : ESubs s [] []
  | cons {c d : List V} {es fs : List (List V)} : Subs s c d → ones d = true → c.length = d.length → ESubs s es fs → ESubs s (c :: es) (d :: fs)
theorem ESubs.refl {s : St} : ∀ {es : List (List V)}, (∀ e ∈ es, ones e = true) → ESubs s es es
  | [], _ => .nil
  | e :: es, h => .cons (by
      have : ∀ c : List V, Subs s c c := by
        intro c
        induction c with
        | nil => exact .nil
        | cons x c ih => exact .cons (fun _ h => h) ih
      exact this e) (h e (by simp)) rfl (ESubs.refl fun x hx => h x (by simp [hx]))
theorem ESubs.length {s : St} {es fs : List (List V)} (h : ESubs s es fs) : es.length = fs.length := by
  induction h with
  | nil => rfl
  | cons _ _ _ _ ih => simp [ih]
theorem els_sub {s : St} {es fs : List (List V)} (h : ESubs s es fs) : ∀ {b o sz : Nat}, Holds s (.els b o sz es) → Holds s (.els b o sz fs) := by
  induction h with
  | nil => intro b o sz _; exact .elsNil b o sz
  | cons h1 ho hl _ ih =>
    intro b o sz he
    cases he with
    | elsCons _ _ _ _ _ hc hr hs => exact .elsCons b o sz _ _ (by rw [← hl]; exact hc) (row_sub h1 ho hr) (ih hs)
theorem sl_sub {s : St} {sz : Nat} {es fs : List (List V)} {t : Tok} (h : ESubs s es fs) (x : Value) (hx : s.val (.sl sz es t) x) : s.val (.sl sz fs .no) x := by
  cases hx with
  | slNil _ _ ht => cases h; exact .slNil _ _ trivial
  | slEmp _ _ a cap ht => cases h; exact .slEmp _ _ a cap trivial
  | sl _ _ _ b o cap h1 h2 h3 => rw [h.length]; exact .sl _ _ _ b o cap (els_sub h h1) (by rw [← h.length]; exact h2) trivial
theorem sl_subT {s : St} {sz : Nat} {es fs : List (List V)} {t : Tok} (h : ESubs s es fs) (x : Value) (hx : s.val (.sl sz es t) x) : s.val (.sl sz fs t) x := by
  cases hx with
  | slNil _ _ ht => cases h; exact .slNil _ _ ht
  | slEmp _ _ a cap ht => cases h; exact .slEmp _ _ a cap ht
  | sl _ _ _ b o cap h1 h2 h3 => rw [h.length] at h2 h3 ⊢; exact .sl _ _ _ b o cap (els_sub h h1) h2 h3
theorem AccP.one {H H' : AH} {sz : Nat} {es : List (List V)} {v : V} (h : AccP H sz es v H') : v.flat = true ∧ v.cells = [v] := by
  rcases h with ⟨_, ⟨_, rfl⟩ | ⟨i, _, rfl, _⟩⟩ <;> exact ⟨rfl, rfl⟩
theorem store_acc {H0 G H' : AH} {sz i off : Nat} {es : List (List V)} {v : V} {cs : List V} {k : V → AH → Prop} (h : AccP H0 sz es v G) (ho : off + 1 ≤ cs.length) (hk : k unitV (H'.put i (.cells (cs.set off v)))) : storeC H' 1 i off v k (.cells cs) := by
  obtain ⟨h1, h2⟩ := h.one
  simp only [storeC, h1, h2, over]
  exact ⟨⟨trivial, rfl, ho⟩, hk⟩
def u64sE (l : List Nat) : List (List V) := l.map fun (n : Nat) => [V.int .u64 (n : Int)]
def blobsE (l : List (List UInt8)) : List (List V) := l.map fun b => [.sl 1 (byteCells b) .no]
theorem u64sE_get (l : List Nat) (i : Nat) : (u64sE l)[i]? = (l[i]?).map fun (n : Nat) => [V.int .u64 (n : Int)] := by simp [u64sE]
theorem u64sE_length (l : List Nat) : (u64sE l).length = l.length := by simp [u64sE]
theorem u64sE_append (l m : List Nat) : u64sE (l ++ m) = u64sE l ++ u64sE m := by simp [u64sE]
theorem blobsE_get (l : List (List UInt8)) (i : Nat) : (blobsE l)[i]? = (l[i]?).map fun b => [.sl 1 (byteCells b) .no] := by simp [blobsE]
theorem blobsE_length (l : List (List UInt8)) : (blobsE l).length = l.length := by simp [blobsE]
theorem blobsE_append (l m : List (List UInt8)) : blobsE (l ++ m) = blobsE l ++ blobsE m := by simp [blobsE]
/-- All numbers that bytes are. -/
def allL : Nat → List Nat → Nat → List UInt8 → List Nat × Nat × Int
  | 0, acc, at_, _ => (acc, at_, 0)
  | m + 1, acc, at_, r => if r = [] then (acc, at_, 0) else
    let x := readS r
    if x.2.2 ≠ 0 then ([], at_, x.2.2) else allL m (acc ++ [x.1]) (at_ + x.2.1) (r.drop x.2.1)
def allS (b : List UInt8) : List Nat × Nat × Int := allL b.length [] 0 b
theorem allL_vb : ∀ (ns : List Nat) (n : Nat) (acc : List Nat) (p : Nat), (∀ x ∈ ns, x < 18446744073709551616) → (ns.flatMap vb).length ≤ n → allL n acc p (ns.flatMap vb) = (acc ++ ns, p + (ns.flatMap vb).length, 0)
  | [], n, acc, p, _, _ => by cases n <;> simp [allL]
  | x :: ns, n, acc, p, ho, hn => by
    have hx := ho x (by simp)
    have hpos := vb_pos x
    simp only [List.flatMap_cons, List.length_append] at hn ⊢
    obtain ⟨m, rfl⟩ : ∃ m, n = m + 1 := ⟨n - 1, by omega⟩
    simp only [allL]
    rw [if_neg (by intro e; have := congrArg List.length e; rw [List.length_append, List.length_nil] at this; omega), read_vb hx]
    simp only [ne_eq, not_true_eq_false, if_false]
    rw [List.drop_left, allL_vb ns m (acc ++ [x]) _ (fun y hy => ho y (by simp [hy])) (by omega)]
    simp; omega
theorem allS_vb (ns : List Nat) (h : ∀ x ∈ ns, x < 18446744073709551616) : allS (ns.flatMap vb) = (ns, (ns.flatMap vb).length, 0) := by
  have := allL_vb ns _ [] 0 h (Nat.le_refl _)
  simpa [allS] using this
theorem allL_le : ∀ (n : Nat) (acc : List Nat) (p : Nat) (r : List UInt8), (∀ x ∈ acc, x < 18446744073709551616) → (allL n acc p r).1.length ≤ acc.length + r.length ∧ ∀ x ∈ (allL n acc p r).1, x < 18446744073709551616
  | 0, acc, p, r, h => ⟨by simp [allL], h⟩
  | n + 1, acc, p, r, h => by
    simp only [allL]
    split
    · exact ⟨by simp, h⟩
    · split
      · exact ⟨by simp, by simp⟩
      · rename_i hz
        have hc := read_cases r
        obtain ⟨h1, h2⟩ := allL_le n (acc ++ [(readS r).1]) (p + (readS r).2.1) (r.drop (readS r).2.1) (by
          intro x hx
          rcases List.mem_append.1 hx with hx | hx
          · exact h x hx
          · rw [List.mem_singleton] at hx; subst hx; omega)
        refine ⟨?_, h2⟩
        rw [List.length_append, List.length_drop, List.length_singleton] at h1
        omega
/-- All bytes of a tag. -/
def manyT (l : List Fld) (tag : Int) : List (List UInt8) := (l.filter fun f => decide (f.tag = tag) && f.by_).map (·.b)
def blobT (l : List Fld) (tag : Int) : List UInt8 := match manyT l tag with | [] => [] | b :: _ => b
end Go.Vm
