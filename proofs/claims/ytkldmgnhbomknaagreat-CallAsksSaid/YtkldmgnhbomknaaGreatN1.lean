/- Plain laws of hellos as messages. -/
import Derived.Test.YtkldmgnhbomknaaGreatMMB
set_option linter.unusedVariables false
set_option linter.unusedSimpArgs false
namespace Go.Vm
def AccG (H : AH) (sz : Nat) (es : List (List V)) (v : V) (H' : AH) : Prop := AccP H sz es v H' ∨ (v = .sl sz es .tight ∧ H.le H')
theorem AccG.le {H : AH} {sz : Nat} {es : List (List V)} {v : V} {H' : AH} (h : AccG H sz es v H') : H.le H' := by
  rcases h with h | h
  · exact h.le
  · exact h.2
theorem AccG.sub {H : AH} {sz : Nat} {es : List (List V)} {v : V} {H' : AH} (h : AccG H sz es v H') (s : St) (x : Value) (hx : s.val v x) : s.val (.sl sz es .no) x := by
  rcases h with h | ⟨rfl,_⟩
  · exact h.sub s x hx
  · exact no_sub x hx
theorem AccG.new {H H' : AH} {sz : Nat} {es : List (List V)} {v : V} (h : AccG H sz es v H') {k : Nat} (hk : H' k = none) (p : AObj) : AccG H sz es v (H'.put k p) := by
  rcases h with h | ⟨h1,h2⟩
  · exact .inl (h.new hk p)
  · exact .inr ⟨h1,AH.le_put h2 (none_of_le h2 hk) _⟩
inductive ESubs (s : St) : List (List V) → List (List V) → Prop where
  | nil : ESubs s [] []
  | cons {c d : List V} {es fs : List (List V)} : Subs s c d → ones d = true → c.length = d.length → ESubs s es fs → ESubs s (c :: es) (d :: fs)
theorem ESubs.refl {s : St} : ∀ {es : List (List V)},(∀ e ∈ es,ones e = true) → ESubs s es es
  | [],_ => .nil
  | e :: es,h => .cons (by
      have : ∀ c : List V,Subs s c c := by
        intro c
        induction c with
        | nil => exact .nil
        | cons x c ih => exact .cons (fun _ h => h) ih
      exact this e) (h e (by simp)) rfl (ESubs.refl fun x hx => h x (by simp [hx]))
theorem ESubs.length {s : St} {es fs : List (List V)} (h : ESubs s es fs) : es.length = fs.length := by
  induction h with
  | nil => rfl
  | cons _ _ _ _ ih => simp [ih]
theorem AccP.one {H H' : AH} {sz : Nat} {es : List (List V)} {v : V} (h : AccP H sz es v H') : v.flat = true ∧ v.cells = [v] := by
  rcases h with ⟨_,⟨_,rfl⟩ | ⟨i,_,rfl,_⟩⟩ <;> exact ⟨rfl,rfl⟩
theorem store_acc {H0 G H' : AH} {sz i off : Nat} {es : List (List V)} {v : V} {cs : List V} {k : V → AH → Prop} (h : AccP H0 sz es v G) (ho : off + 1 ≤ cs.length) (hk : k unitV (H'.put i (.cells (cs.set off v)))) : storeC H' 1 i off v k (.cells cs) := by
  obtain ⟨h1,h2⟩ := h.one
  simp only [storeC,h1,h2,over]
  exact ⟨⟨trivial,rfl,ho⟩,hk⟩
def u64sE (l : List Nat) : List (List V) := l.map fun (n : Nat) => [V.int .u64 (n : Int)]
def blobsE (l : List (List UInt8)) : List (List V) := l.map fun b => [.sl 1 (byteCells b) .no]
theorem u64sE_get (l : List Nat) (i : Nat) : (u64sE l)[i]? = (l[i]?).map fun (n : Nat) => [V.int .u64 (n : Int)] := by simp [u64sE]
theorem u64sE_length (l : List Nat) : (u64sE l).length = l.length := by simp [u64sE]
theorem blobsE_get (l : List (List UInt8)) (i : Nat) : (blobsE l)[i]? = (l[i]?).map fun b => [.sl 1 (byteCells b) .no] := by simp [blobsE]
theorem blobsE_length (l : List (List UInt8)) : (blobsE l).length = l.length := by simp [blobsE]
theorem blobsE_append (l m : List (List UInt8)) : blobsE (l ++ m) = blobsE l ++ blobsE m := by simp [blobsE]
def manyT (l : List Fld) (tag : Int) : List (List UInt8) := (l.filter fun f => decide (f.tag = tag) && f.by_).map (·.b)
def blobT (l : List Fld) (tag : Int) : List UInt8 := match manyT l tag with | [] => [] | b :: _ => b
end Go.Vm
