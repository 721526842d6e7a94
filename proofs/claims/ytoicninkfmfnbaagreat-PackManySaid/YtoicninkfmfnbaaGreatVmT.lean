/- Of the walks of this seat: contracts of functions of the given program, proved over the abstract values of the texts Vm. Conditions: as each theorem says. -/
import Derived.Test.YtoicninkfmfnbaaGreatVm18
import Derived.ChangeArms
import Derived.ChangeSlices
import Derived.WideShapes
import Derived.Carry
set_option linter.unusedVariables false
set_option linter.unusedSimpArgs false
/- From a contract to a row: the first state, and what is left behind. -/
namespace Go.Vm
open Go.RowKit
def St.start (w : World) : St := ⟨w, fun _ => none, fun _ => none, fun _ => none, 0, false⟩
theorem HRel.start (w : World) : HRel (St.start w) (fun _ => none) :=
  ⟨fun _ _ h => (nomatch h), fun _ _ h => (nomatch h), fun _ _ h => (nomatch h), fun _ _ h => (nomatch h), fun _ _ _ h => (nomatch h)⟩
def ghost : AH := AH.put (fun _ => none) 0 .nodr
def St.startG (w : World) : St := ⟨w, fun _ => none, fun _ => none, fun _ => none, 1, false⟩
theorem HRel.startG (w : World) : HRel (St.startG w) ghost := by
  refine ⟨fun k o h => ?_, fun k o h => ?_, fun _ _ h => (nomatch h), fun _ _ h => (nomatch h), fun _ _ _ h => (nomatch h)⟩
  · unfold ghost at h
    by_cases e : k = 0
    · subst e; rw [AH.put_same] at h; cases h; exact rfl
    · rw [AH.put_ne _ _ e] at h; cases h
  · unfold ghost at h
    by_cases e : k = 0
    · subst e; exact Nat.one_pos
    · rw [AH.put_ne _ _ e] at h; cases h
theorem start_ext (w : World) : Ext (St.start w) (St.startG w) :=
  ⟨rfl, rfl, rfl, ⟨rfl, fun _ => Nat.le_refl _⟩, Nat.le_refl _, fun _ _ h => ⟨h, rfl⟩, fun _ _ e _ h => (nomatch h), fun _ _ h => h, fun _ st h => (nomatch h), Nat.zero_le _⟩
theorem row_ofG {P : Program} {f : FuncId} {vs : List V} {xs : List Value} {w : World} (h : ACalls P f vs ghost (fun o H' => o = .ret (.bool true) ∧ H' = ghost)) (hv : (St.start w).vals vs xs) :
    Calls P f xs.toArray w (fun e w' => e = .returned (.bool true) ∧ Below w.heap.size w w') := by
  refine (h (St.startG w) xs (HRel.startG w) (Holds.mono (start_ext w) hv)).mono fun e w' p => ?_
  obtain ⟨s', H', o, rfl, hx, _, ho, rfl, _⟩ := p
  cases e with
  | returned x =>
    have := val_bool ho
    subst this
    exact ⟨rfl, hx.os, hx.tape, hx.output, hx.size, fun k hk => (hx.froz k hk rfl).2⟩
  | panicked c => exact ho.elim
  | outgrown => exact ho.elim
theorem start_str (w : World) (a : ByteArray) : (St.start w).val (.str a.data.toList) (.string a) := by
  have := Holds.str (s := St.start w) a.data.toList
  simpa using this
end Go.Vm
/- What a row's arguments stand for: readings, opened to abstract values in a world of which all is held fast. -/
namespace Go.Vm
theorem row_start {w : World} : ∀ (vs : List V) (cs : List Value) (b o : Nat), ones vs = true → (St.start w).vals vs cs → (∀ i y, cs[i]? = some y → w.cell? ⟨b, o + i, none⟩ = some y) → Holds (St.start w) (.row b o vs)
  | [], _, b, o, _, _, _ => .rowNil b o
  | v :: vs, cs, b, o, h1, h2, h3 => by
    cases h2 with
    | cons _ x _ xs k1 k2 =>
      simp only [ones, List.all_cons, Bool.and_eq_true] at h1
      refine .rowCons b o v x vs h1.1 ⟨(show w.cell? ⟨b, o, none⟩ = some x by simpa using h3 0 x rfl), fun k e h => (nomatch h)⟩ k1 (row_start vs xs b (o + 1) h1.2 k2 fun i y hy => ?_)
      have := h3 (i + 1) y (by simpa using hy)
      rw [show o + 1 + i = o + (i + 1) by omega]
      exact this
theorem els_start {w : World} (sz : Nat) : ∀ (es : List (List V)) (b o : Nat), (∀ (j : Nat) (e : List V), es[j]? = some e → e.length = sz ∧ Holds (St.start w) (.row b (o + j * sz) e)) → Holds (St.start w) (.els b o sz es)
  | [], b, o, _ => .elsNil b o sz
  | e :: es, b, o, h => by
    obtain ⟨h1, h2⟩ := h 0 e rfl
    refine .elsCons b o sz e es h1 (by simpa using h2) (els_start sz es b (o + sz) fun j e' he => ?_)
    obtain ⟨k1, k2⟩ := h (j + 1) e' (by simpa using he)
    refine ⟨k1, ?_⟩
    rw [show o + sz + j * sz = o + (j + 1) * sz by rw [Nat.succ_mul]; omega]
    exact k2
theorem add_none (b o n : Nat) : Addr.add ⟨b, o, none⟩ n = ⟨b, o + n, none⟩ := by
  unfold Addr.add
  split
  · rename_i h; subst h; rfl
  · rfl
theorem strs_of : ∀ (es : List (List V)), (∀ c ∈ es, ∃ s : List UInt8, c = [.str s] ∧ s.length ≤ maxLen) → ∃ l, es = strsE l ∧ ∀ s ∈ l, s.length ≤ maxLen
  | [], _ => ⟨[], rfl, fun s hs => (nomatch hs)⟩
  | c :: es, h => by
    obtain ⟨n, rfl, hn⟩ := h c (by simp)
    obtain ⟨l, rfl, hl⟩ := strs_of es (fun c hc => h c (by simp [hc]))
    refine ⟨n :: l, rfl, fun s hs => ?_⟩
    rcases List.mem_cons.1 hs with rfl | hs
    · exact hn
    · exact hl s hs
section
variable {H : Type} {enc : TypeId × Value → H} {P : Program} {w : World} {base : Nat} {spare : Nat → Bool} {held : Bool} {t e : TypeId} {fuel : Nat} {cs : List Value} {x : DataW H × List MemPlace}
end
end Go.Vm
/- What a row's arguments stand for, of any types of plain data: truths, numbers, texts, slices and structs of them, recursive ones too. -/
namespace Go.Vm
open Go.RowKit
def rd (P : Program) : Nat → TypeId → List V → Prop
  | 0, _, _ => False
  | n + 1, T, vs => match P.underlying T with
    | some .bool => ∃ b, vs = [.bool b]
    | some (.int k) => ∃ m, vs = [.int k m] ∧ (Lit.int k m).wf = true
    | some .string => ∃ s : List UInt8, vs = [.str s] ∧ s.length ≤ maxLen
    | some (.slice e) => ∃ es : List (List V), vs = [.sl (P.cellsOf e) es .no] ∧ es.length ≤ maxLen ∧ ∀ c ∈ es, rd P n e c
    | some (.struct fs) => vs.length = P.cellsOf T ∧ ∀ f ∈ fs.toList, rd P n f.type ((vs.drop f.offset).take (P.cellsOf f.type))
    | _ => False
def laidF (P : Program) : Nat → List Field → Option Nat
  | o, [] => some o
  | o, f :: fs => if f.offset = o then laidF P (o + P.cellsOf f.type) fs else none
def plainT (P : Program) (ts : List TypeId) : Bool :=
  ts.all fun T => match P.underlying T with
    | some .bool | some (.int _) | some .string => P.cellsOf T == 1
    | some (.slice e) => P.cellsOf T == 1 && (ts.contains e && decide (0 < P.cellsOf e))
    | some (.struct fs) => fs.toList.all (fun f => ts.contains f.type) && laidF P 0 fs.toList == some (P.cellsOf T)
    | _ => false
theorem laidF_le {P : Program} : ∀ (fs : List Field) (o tot : Nat), laidF P o fs = some tot → o ≤ tot
  | [], o, tot, h => by cases h; exact Nat.le_refl _
  | f :: fs, o, tot, h => by
    simp only [laidF] at h
    split at h
    · have := laidF_le fs _ _ h; omega
    · cases h
theorem laidF_off {P : Program} : ∀ (fs : List Field) (o tot : Nat), laidF P o fs = some tot → ∀ f ∈ fs, o ≤ f.offset
  | [], o, tot, h => fun f hf => (nomatch hf)
  | f :: fs, o, tot, h => by
    simp only [laidF] at h
    split at h
    · rename_i e
      intro g hg
      rcases List.mem_cons.1 hg with rfl | hg
      · omega
      · have := laidF_off fs _ _ h g hg; omega
    · cases h
theorem fields_start {P : Program} {s : St} {cs : List Value} {tot : Nat} {R : TypeId → List V → Prop} : ∀ (fs : List Field) (o : Nat), laidF P o fs = some tot → cs.length = tot →
    (∀ f ∈ fs, ((cs.drop f.offset).take (P.cellsOf f.type)).length = P.cellsOf f.type → ∃ vs, vs.length = P.cellsOf f.type ∧ ones vs = true ∧ s.vals vs ((cs.drop f.offset).take (P.cellsOf f.type)) ∧ R f.type vs) →
    ∃ vs, vs.length = tot - o ∧ ones vs = true ∧ s.vals vs (cs.drop o) ∧ ∀ f ∈ fs, R f.type ((vs.drop (f.offset - o)).take (P.cellsOf f.type))
  | [], o, hl, hc, _ => by
    cases hl
    exact ⟨[], by simp, rfl, by rw [List.drop_eq_nil_of_le (by omega)]; exact .nil, fun f hf => (nomatch hf)⟩
  | f :: fs, o, hl, hc, h => by
    simp only [laidF] at hl
    split at hl
    · rename_i e
      have hle := laidF_le fs _ _ hl
      obtain ⟨vs, l1, o1, v1, r1⟩ := h f (by simp) (by simp; omega)
      obtain ⟨us, l2, o2, v2, r2⟩ := fields_start fs _ hl hc (fun g hg => h g (by simp [hg]))
      refine ⟨vs ++ us, by simp; omega, ones_append o1 o2, ?_, ?_⟩
      · have := vals_append v1 v2
        rw [e, ← List.drop_drop, List.take_append_drop] at this
        exact this
      · intro g hg
        rcases List.mem_cons.1 hg with rfl | hg
        · rw [show g.offset - o = 0 by omega, List.drop_zero, List.take_left' l1]; exact r1
        · have ho := laidF_off fs _ _ hl g hg
          have : (vs ++ us).drop (g.offset - o) = us.drop (g.offset - (o + P.cellsOf f.type)) := by
            rw [List.drop_append, List.drop_eq_nil_of_le (by omega), List.nil_append]
            congr 1; omega
          rw [this]; exact r2 g hg
    · cases hl
theorem slice_startN {H : Type} {enc : TypeId × Value → H} {P : Program} {w : World} {base : Nat} {spare : Nat → Bool} {held : Bool} {t e : TypeId} {sz fuel : Nat} {cs : List Value} {x : DataW H × List MemPlace} (ht : P.underlying t = some (.slice e)) (hsz : P.cellsOf e = sz) (h0 : 0 < sz) (R : List V → Prop)
    (hopen : ∀ n cs x, fuel = n + 1 → DataW.trod enc P w base spare held n e cs = some x → cs.length = sz → ∃ vs, vs.length = sz ∧ ones vs = true ∧ (St.start w).vals vs cs ∧ R vs)
    (h : DataW.trod enc P w base spare held fuel t cs = some x) : ∃ es : List (List V), es.length ≤ maxLen ∧ (∀ c ∈ es, R c) ∧ ∃ v, cs = [v] ∧ (St.start w).val (.sl sz es .no) v := by
  rcases DataW.trod_slice ht h with ⟨rfl, _⟩ | ⟨a, len, cap, elems, rest, n, hn, rfl, _, hb, hl, hm, hlen, hel, _, _⟩
  · exact ⟨[], Nat.zero_le _, fun c hc => (nomatch hc), _, rfl, .slNil _ _ trivial⟩
  · by_cases hz : len = 0
    · subst hz
      exact ⟨[], Nat.zero_le _, fun c hc => (nomatch hc), _, rfl, .slEmp _ _ _ _ trivial⟩
    · have each : ∀ i, i < len → ∃ vs cs', vs.length = sz ∧ ones vs = true ∧ (St.start w).vals vs cs' ∧ R vs ∧ cs'.length = sz ∧ ∀ k, k < sz → w.cell? ((a.add (i * sz)).add k) = cs'[k]? := by
        intro i hi
        have h1 := hel i hi
        rw [hsz, List.getElem?_eq_getElem (by omega), Option.bind_eq_some_iff] at h1
        obtain ⟨cs', h2, h3⟩ := h1
        obtain ⟨_, k2, k3⟩ := World.cells?_some h2
        obtain ⟨vs, g1, g2, g3, g4⟩ := hopen n cs' _ hn h3 k2
        exact ⟨vs, cs', g1, g2, g3, g4, k2, k3⟩
      have hspot : a.spot = none := by
        obtain ⟨_, cs', _, _, _, _, k2, k3⟩ := each 0 (by omega)
        have := k3 0 h0
        rw [List.getElem?_eq_getElem (by omega)] at this
        simp only [Nat.zero_mul, Addr.add, if_true, World.cell?] at this
        split at this
        · cases hs : a.spot with
          | none => rfl
          | some q => rw [hs] at this; simp at this
        · cases this
      obtain ⟨b, o, sp⟩ := a
      simp only at hspot
      subst hspot
      refine ⟨(List.range len).map (fun i => if h : i < len then Classical.choose (each i h) else []), by simp; omega, ?_, _, rfl, ?_⟩
      · intro c hc
        simp only [List.mem_map, List.mem_range] at hc
        obtain ⟨i, hi, rfl⟩ := hc
        rw [dif_pos hi]
        obtain ⟨_, _, _, _, g, _⟩ := Classical.choose_spec (each i hi)
        exact g
      · have hl2 : ((List.range len).map (fun i => if h : i < len then Classical.choose (each i h) else [])).length = len := by simp
        have := Holds.sl (s := St.start w) sz ((List.range len).map (fun i => if h : i < len then Classical.choose (each i h) else [])) .no b o cap (els_start sz _ b o ?_) (by rw [hl2]; exact hl) trivial
        · rw [hl2] at this; exact this
        · intro j e he
          simp only [List.getElem?_map, Option.map_eq_some_iff] at he
          obtain ⟨i, hi, rfl⟩ := he
          obtain ⟨hj, rfl⟩ := List.getElem?_eq_some_iff.1 hi
          simp only [List.length_range] at hj
          simp only [List.getElem_range]
          rw [dif_pos hj]
          obtain ⟨cs', g1, g2, g3, _, g5, g6⟩ := Classical.choose_spec (each j hj)
          refine ⟨g1, row_start _ cs' b _ g2 g3 fun i y hy => ?_⟩
          have hi' : i < sz := by have := (List.getElem?_eq_some_iff.1 hy).1; omega
          have := g6 i hi'
          rw [add_none, add_none] at this
          rw [this]; exact hy
theorem rd_of {H : Type} {enc : TypeId × Value → H} {P : Program} {w : World} {base : Nat} {spare : Nat → Bool} {held : Bool} {ts : List TypeId} (hts : plainT P ts = true) : ∀ (fuel : Nat) (T : TypeId) (cs : List Value) (x : DataW H × List MemPlace), T ∈ ts →
    DataW.trod enc P w base spare held fuel T cs = some x → cs.length = P.cellsOf T → ∃ vs, vs.length = P.cellsOf T ∧ ones vs = true ∧ (St.start w).vals vs cs ∧ rd P fuel T vs
  | 0, T, cs, x, _, h, _ => by simp [DataW.trod] at h
  | n + 1, T, cs, x, hT, h, hc => by
    have hp := List.all_eq_true.1 hts T hT
    cases hu : P.underlying T with
    | none => rw [hu] at hp; simp at hp
    | some u =>
      rw [hu] at hp
      cases u with
      | bool =>
        obtain ⟨b, rfl, _⟩ := DataW.trod_bool hu h
        exact ⟨[.bool b], by simpa using hc, rfl, .cons _ _ _ _ (.bool _) .nil, by simp [rd, hu]⟩
      | int k =>
        obtain ⟨m, rfl, _, hw⟩ := DataW.trod_int hu h
        exact ⟨[.int k m], by simpa using hc, rfl, .cons _ _ _ _ (.int _ _) .nil, by simp [rd, hu, hw]⟩
      | string =>
        obtain ⟨m, rfl, _, hm⟩ := DataW.trod_string hu h
        exact ⟨[.str m.data.toList], by simpa using hc, rfl, .cons _ _ _ _ (start_str w m) .nil, by simp only [rd, hu]; exact ⟨_, rfl, by rw [Array.length_toList]; exact hm⟩⟩
      | slice e =>
        simp only [Bool.and_eq_true, beq_iff_eq, decide_eq_true_eq, List.contains_iff_mem] at hp
        obtain ⟨es, h1, h2, v, rfl, h3⟩ := slice_startN hu rfl hp.2.2 (rd P n e) (fun m cs' x' hm ht hl => by
          obtain rfl : m = n := by omega
          exact rd_of hts m e cs' x' hp.2.1 ht hl) h
        exact ⟨[.sl (P.cellsOf e) es .no], by simpa using hc, rfl, .cons _ _ _ _ h3 .nil, by simp only [rd, hu]; exact ⟨es, rfl, h1, h2⟩⟩
      | struct fs =>
        simp only [Bool.and_eq_true, beq_iff_eq, List.all_eq_true, List.contains_iff_mem] at hp
        obtain ⟨xs, m, hm, _, hl, hxs, hall⟩ := DataW.trod_struct hu h
        obtain rfl : m = n := by omega
        obtain ⟨vs, g1, g2, g3, g4⟩ := fields_start (s := St.start w) (R := rd P m) fs.toList 0 hp.2 hc (fun f hf hlen => by
          obtain ⟨i, hi, hfi⟩ := List.mem_iff_getElem.1 hf
          have hi' : i < fs.size := by simpa using hi
          have he := hall i f (by rw [Array.getElem?_eq_getElem hi']; simpa using hfi)
          rw [List.getElem?_eq_getElem (by omega)] at he
          exact rd_of hts m f.type _ _ (hp.1 f hf) he hlen)
        exact ⟨vs, by simpa using g1, g2, by simpa using g3, by simp only [rd, hu]; exact ⟨by simpa using g1, by simpa using g4⟩⟩
      | _ => simp at hp
theorem arg_slice {H : Type} {enc : TypeId × Value → H} {P : Program} {w : World} {r : Reach} {b0 base : Nat} {spare : Nat → Bool} {held : Bool} {T e : TypeId} {v : Value} {d : DataW H} {ps : List MemPlace} {ts : List TypeId} (hts : plainT P ts = true) (hT : T ∈ ts) (hu : P.underlying T = some (.slice e))
    (hval : Value.okWide P w r b0 T v) (h : DataW.Trod enc P w base spare held T v d ps) : ∃ es : List (List V), es.length ≤ maxLen ∧ (∀ c ∈ es, ∃ n, rd P n e c) ∧ (St.start w).val (.sl (P.cellsOf e) es .no) v := by
  obtain ⟨a, len, cap, rfl⟩ := Go.WideShapes.okWide_slice hu hval
  obtain ⟨n, h⟩ := h
  have hp := List.all_eq_true.1 hts T hT
  rw [hu] at hp
  simp only [Bool.and_eq_true, beq_iff_eq] at hp
  obtain ⟨vs, _, _, h3, h4⟩ := rd_of hts n T _ _ hT h (by simp [Value.cells, hp.1])
  cases n with
  | zero => exact h4.elim
  | succ n =>
    simp only [rd, hu] at h4
    obtain ⟨es, rfl, h5, h6⟩ := h4
    refine ⟨es, h5, fun c hc => ⟨n, h6 c hc⟩, ?_⟩
    simp only [Value.cells] at h3
    cases h3 with
    | cons _ _ _ _ k1 _ => exact k1
/-! ### Taking readings apart -/
section
variable {P : Program} {n : Nat} {T e : TypeId} {vs : List V}
theorem rd_int {k : IntKind} (hu : P.underlying T = some (.int k)) (h : rd P n T vs) : ∃ m, vs = [.int k m] ∧ (Lit.int k m).wf = true := by
  cases n with
  | zero => exact h.elim
  | succ n => simp only [rd, hu] at h; exact h
end
theorem map_of {α : Type} (f : α → List V) (Q : α → Prop) : ∀ (es : List (List V)), (∀ c ∈ es, ∃ x, c = f x ∧ Q x) → ∃ l : List α, es = l.map f ∧ ∀ x ∈ l, Q x
  | [], _ => ⟨[], rfl, fun x hx => (nomatch hx)⟩
  | c :: es, h => by
    obtain ⟨x, rfl, hx⟩ := h c (by simp)
    obtain ⟨l, rfl, hl⟩ := map_of f Q es (fun c hc => h c (by simp [hc]))
    refine ⟨x :: l, rfl, fun y hy => ?_⟩
    rcases List.mem_cons.1 hy with rfl | hy
    · exact hx
    · exact hl y hy
theorem wf_i64 {n : Int} (h : (Lit.int .i64 n).wf = true) : -9223372036854775808 ≤ n ∧ n < 9223372036854775808 := by
  simp [Lit.wf, IntKind.min, IntKind.max, IntKind.bits, IntKind.signed] at h; omega
theorem wf_u8 {n : Int} (h : (Lit.int .u8 n).wf = true) : 0 ≤ n ∧ n < 256 := by
  simp [Lit.wf, IntKind.min, IntKind.max, IntKind.bits, IntKind.signed] at h; omega
end Go.Vm
