/- What a row's arguments stand for, with what the row says of their bytes. -/
import Derived.Test.YtkldmgnhbomknaaGreatVmT
import Derived.SizedLaws
set_option linter.unusedVariables false
set_option linter.unusedSimpArgs false
namespace Go.Vm
open Go.RowKit
theorem wAll_mem {H : Type} {P : Program} {e : TypeId} : ∀ {l : List (DataW H)} {d : DataW H},d ∈ l → ∀ n ∈ d.weights P e,n ∈ DataW.weightsAll P e l
  | x :: l,d,h,n,hn => by
    rw [DataW.weightsAll,List.mem_append]
    rcases List.mem_cons.1 h with rfl | h
    · exact .inl hn
    · exact .inr (wAll_mem h n hn)
theorem wEach_mem {H : Type} {P : Program} : ∀ {ts : List TypeId} {ds : List (DataW H)} {j : Nat} {t : TypeId} {d : DataW H},ts[j]? = some t → ds[j]? = some d → ∀ n ∈ d.weights P t,n ∈ DataW.weightsEach P ts ds
  | [],_,j,t,d,h,_,n,hn => by simp at h
  | _ :: _,[],j,t,d,_,h,n,hn => by simp at h
  | a :: ts,b :: ds,0,t,d,h1,h2,n,hn => by
    simp only [List.getElem?_cons_zero,Option.some.injEq] at h1 h2
    subst h1 h2
    rw [DataW.weightsEach,List.mem_append]; exact .inl hn
  | a :: ts,b :: ds,j + 1,t,d,h1,h2,n,hn => by
    rw [DataW.weightsEach,List.mem_append]
    exact .inr (wEach_mem (by simpa using h1) (by simpa using h2) n hn)
def rdB (P : Program) : Nat → TypeId → List V → Prop
  | 0,_,_ => False
  | n + 1,T,vs => match P.underlying T with
    | some .bool => ∃ b,vs = [.bool b]
    | some (.int k) => ∃ m,vs = [.int k m] ∧ (Lit.int k m).wf = true
    | some .string => ∃ s : List UInt8,vs = [.str s] ∧ s.length ≤ reachBytes
    | some (.slice e) => ∃ es : List (List V),vs = [.sl (P.cellsOf e) es .no] ∧ es.length * P.bytesOf e ≤ reachBytes ∧ ∀ c ∈ es,rdB P n e c
    | some (.struct fs) => vs.length = P.cellsOf T ∧ ∀ f ∈ fs.toList,rdB P n f.type ((vs.drop f.offset).take (P.cellsOf f.type))
    | _ => False
theorem slice_startB {H : Type} {enc : TypeId × Value → H} {P : Program} {w : World} {base : Nat} {spare : Nat → Bool} {held : Bool} {t e : TypeId} {sz fuel : Nat} {cs : List Value} {x : DataW H × List MemPlace} (ht : P.underlying t = some (.slice e)) (hsz : P.cellsOf e = sz) (h0 : 0 < sz) (R : List V → Prop)
    (hw : ∀ n ∈ x.1.weights P t,n ≤ reachBytes) (hopen : ∀ n cs x,fuel = n + 1 → DataW.trod enc P w base spare held n e cs = some x → (∀ n ∈ x.1.weights P e,n ≤ reachBytes) → cs.length = sz → ∃ vs,vs.length = sz ∧ ones vs = true ∧ (St.start w).vals vs cs ∧ R vs)
    (h : DataW.trod enc P w base spare held fuel t cs = some x) : ∃ es : List (List V),es.length * P.bytesOf e ≤ reachBytes ∧ (∀ c ∈ es,R c) ∧ ∃ v,cs = [v] ∧ (St.start w).val (.sl sz es .no) v := by
  rcases DataW.trod_slice ht h with ⟨rfl,_⟩ | ⟨a,len,cap,elems,rest,n,hn,rfl,hxe,hb,hl,hm,hlen,hel,_,_⟩
  · exact ⟨[],by rw [List.length_nil,Nat.zero_mul]; exact Nat.zero_le _,fun c hc => (nomatch hc),_,rfl,.slNil _ _ trivial⟩
  · by_cases hz : len = 0
    · subst hz
      exact ⟨[],by rw [List.length_nil,Nat.zero_mul]; exact Nat.zero_le _,fun c hc => (nomatch hc),_,rfl,.slEmp _ _ _ _ trivial⟩
    · have hwl : (elems.length + rest.length) * P.bytesOf e ≤ reachBytes := by
        refine hw _ ?_
        rw [hxe,DataW.weights,ht]
        simp
      have hwe : ∀ q ∈ elems,∀ n ∈ q.1.weights P e,n ≤ reachBytes := by
        intro q hq n hn
        refine hw _ ?_
        rw [hxe,DataW.weights,ht]
        simp only [List.mem_cons,List.mem_append]
        exact .inr (.inl (wAll_mem (List.mem_map.2 ⟨q,hq,rfl⟩) n hn))
      have each : ∀ i,i < len → ∃ vs cs',vs.length = sz ∧ ones vs = true ∧ (St.start w).vals vs cs' ∧ R vs ∧ cs'.length = sz ∧ ∀ k,k < sz → w.cell? ((a.add (i * sz)).add k) = cs'[k]? := by
        intro i hi
        have h1 := hel i hi
        rw [hsz,List.getElem?_eq_getElem (by omega),Option.bind_eq_some_iff] at h1
        obtain ⟨cs',h2,h3⟩ := h1
        obtain ⟨_,k2,k3⟩ := World.cells?_some h2
        obtain ⟨vs,g1,g2,g3,g4⟩ := hopen n cs' _ hn h3 (hwe _ (List.getElem_mem (by omega))) k2
        exact ⟨vs,cs',g1,g2,g3,g4,k2,k3⟩
      have hspot : a.spot = none := by
        obtain ⟨_,cs',_,_,_,_,k2,k3⟩ := each 0 (by omega)
        have := k3 0 h0
        rw [List.getElem?_eq_getElem (by omega)] at this
        simp only [Nat.zero_mul,Addr.add,if_true,World.cell?] at this
        split at this
        · cases hs : a.spot with
          | none => rfl
          | some q => rw [hs] at this; simp at this
        · cases this
      obtain ⟨b,o,sp⟩ := a
      simp only at hspot
      subst hspot
      refine ⟨(List.range len).map (fun i => if h : i < len then Classical.choose (each i h) else []),by rw [List.length_map,List.length_range]; refine Nat.le_trans (Nat.mul_le_mul_right _ ?_) hwl; omega,?_,_,rfl,?_⟩
      · intro c hc
        simp only [List.mem_map,List.mem_range] at hc
        obtain ⟨i,hi,rfl⟩ := hc
        rw [dif_pos hi]
        obtain ⟨_,_,_,_,g,_⟩ := Classical.choose_spec (each i hi)
        exact g
      · have hl2 : ((List.range len).map (fun i => if h : i < len then Classical.choose (each i h) else [])).length = len := by simp
        have := Holds.sl (s := St.start w) sz ((List.range len).map (fun i => if h : i < len then Classical.choose (each i h) else [])) .no b o cap (els_start sz _ b o ?_) (by rw [hl2]; exact hl) trivial
        · rw [hl2] at this; exact this
        · intro j e he
          simp only [List.getElem?_map,Option.map_eq_some_iff] at he
          obtain ⟨i,hi,rfl⟩ := he
          obtain ⟨hj,rfl⟩ := List.getElem?_eq_some_iff.1 hi
          simp only [List.length_range] at hj
          simp only [List.getElem_range]
          rw [dif_pos hj]
          obtain ⟨cs',g1,g2,g3,_,g5,g6⟩ := Classical.choose_spec (each j hj)
          refine ⟨g1,row_start _ cs' b _ g2 g3 fun i y hy => ?_⟩
          have hi' : i < sz := by have := (List.getElem?_eq_some_iff.1 hy).1; omega
          have := g6 i hi'
          rw [add_none,add_none] at this
          rw [this]; exact hy
theorem rdB_of {H : Type} {enc : TypeId × Value → H} {P : Program} {w : World} {base : Nat} {spare : Nat → Bool} {held : Bool} {ts : List TypeId} (hts : plainT P ts = true) : ∀ (fuel : Nat) (T : TypeId) (cs : List Value) (x : DataW H × List MemPlace),T ∈ ts →
    DataW.trod enc P w base spare held fuel T cs = some x → (∀ n ∈ x.1.weights P T,n ≤ reachBytes) → cs.length = P.cellsOf T → ∃ vs,vs.length = P.cellsOf T ∧ ones vs = true ∧ (St.start w).vals vs cs ∧ rdB P fuel T vs
  | 0,T,cs,x,_,h,_,_ => by simp [DataW.trod] at h
  | n + 1,T,cs,x,hT,h,hw,hc => by
    have hp := List.all_eq_true.1 hts T hT
    cases hu : P.underlying T with
    | none => rw [hu] at hp; simp at hp
    | some u =>
      rw [hu] at hp
      cases u with
      | bool =>
        obtain ⟨b,rfl,_⟩ := DataW.trod_bool hu h
        exact ⟨[.bool b],by simpa using hc,rfl,.cons _ _ _ _ (.bool _) .nil,by simp [rdB,hu]⟩
      | int k =>
        obtain ⟨m,rfl,_,hw⟩ := DataW.trod_int hu h
        exact ⟨[.int k m],by simpa using hc,rfl,.cons _ _ _ _ (.int _ _) .nil,by simp [rdB,hu,hw]⟩
      | string =>
        obtain ⟨m,rfl,hxe,hm⟩ := DataW.trod_string hu h
        exact ⟨[.str m.data.toList],by simpa using hc,rfl,.cons _ _ _ _ (start_str w m) .nil,by simp only [rdB,hu]; exact ⟨_,rfl,hw _ (by rw [hxe,DataW.weights]; simp)⟩⟩
      | slice e =>
        simp only [Bool.and_eq_true,beq_iff_eq,decide_eq_true_eq,List.contains_iff_mem] at hp
        obtain ⟨es,h1,h2,v,rfl,h3⟩ := slice_startB hu rfl hp.2.2 (rdB P n e) hw (fun m cs' x' hm ht hw' hl => by
          obtain rfl : m = n := by omega
          exact rdB_of hts m e cs' x' hp.2.1 ht hw' hl) h
        exact ⟨[.sl (P.cellsOf e) es .no],by simpa using hc,rfl,.cons _ _ _ _ h3 .nil,by simp only [rdB,hu]; exact ⟨es,rfl,h1,h2⟩⟩
      | struct fs =>
        simp only [Bool.and_eq_true,beq_iff_eq,List.all_eq_true,List.contains_iff_mem] at hp
        obtain ⟨xs,m,hm,hxe,hl,hxs,hall⟩ := DataW.trod_struct hu h
        obtain rfl : m = n := by omega
        obtain ⟨vs,g1,g2,g3,g4⟩ := fields_start (s := St.start w) (R := rdB P m) fs.toList 0 hp.2 hc (fun f hf hlen => by
          obtain ⟨i,hi,hfi⟩ := List.mem_iff_getElem.1 hf
          have hi' : i < fs.size := by simpa using hi
          have he := hall i f (by rw [Array.getElem?_eq_getElem hi']; simpa using hfi)
          rw [List.getElem?_eq_getElem (by omega)] at he
          refine rdB_of hts m f.type _ _ (hp.1 f hf) he (fun q hq => hw q ?_) hlen
          rw [hxe,DataW.weights,hu]
          refine wEach_mem (j := i) (t := f.type) (d := (xs[i]'(by omega)).1) ?_ ?_ q hq
          · rw [List.getElem?_map,List.getElem?_eq_getElem hi,hfi]; rfl
          · rw [List.getElem?_map,List.getElem?_eq_getElem (by omega)]; rfl)
        exact ⟨vs,by simpa using g1,g2,by simpa using g3,by simp only [rdB,hu]; exact ⟨by simpa using g1,by simpa using g4⟩⟩
      | _ => simp at hp
theorem argB_struct {H : Type} {enc : TypeId × Value → H} {P : Program} {w : World} {r : Reach} {b0 base : Nat} {spare : Nat → Bool} {held : Bool} {T : TypeId} {v : Value} {d : DataW H} {ps : List MemPlace} {ts : List TypeId} {fs : Array Field} (hts : plainT P ts = true) (hT : T ∈ ts) (hu : P.underlying T = some (.struct fs))
    (hval : Value.okWide P w r b0 T v) (h : DataW.Trod enc P w base spare held T v d ps) (hw : ∀ n ∈ d.weights P T,n ≤ reachBytes) : ∃ vs n,rdB P n T vs ∧ (St.start w).val (.agg vs) v := by
  obtain ⟨cs,rfl,hc⟩ := Go.WideShapes.okWide_struct hu hval
  obtain ⟨n,h⟩ := h
  obtain ⟨vs,_,h2,h3,h4⟩ := rdB_of hts n T _ _ hT h hw (by simpa [Value.cells] using hc)
  exact ⟨vs,n,h4,.agg vs cs.toList h2 (by simpa [Value.cells] using h3)⟩
section
variable {P : Program} {n : Nat} {T e : TypeId} {vs : List V}
theorem rdB_slice (hu : P.underlying T = some (.slice e)) (h : rdB P n T vs) : ∃ es,vs = [.sl (P.cellsOf e) es .no] ∧ es.length * P.bytesOf e ≤ reachBytes ∧ ∀ c ∈ es,∃ m,m < n ∧ rdB P m e c := by
  cases n with
  | zero => exact h.elim
  | succ n => simp only [rdB,hu] at h; obtain ⟨es,h1,h2,h3⟩ := h; exact ⟨es,h1,h2,fun c hc => ⟨n,Nat.lt_succ_self n,h3 c hc⟩⟩
theorem rdB_int {k : IntKind} (hu : P.underlying T = some (.int k)) (h : rdB P n T vs) : ∃ m,vs = [.int k m] ∧ (Lit.int k m).wf = true := by
  cases n with
  | zero => exact h.elim
  | succ n => simp only [rdB,hu] at h; exact h
theorem rdB_bool (hu : P.underlying T = some .bool) (h : rdB P n T vs) : ∃ b,vs = [.bool b] := by
  cases n with
  | zero => exact h.elim
  | succ n => simp only [rdB,hu] at h; exact h
theorem rdB_str (hu : P.underlying T = some .string) (h : rdB P n T vs) : ∃ s : List UInt8,vs = [.str s] ∧ s.length ≤ reachBytes := by
  cases n with
  | zero => exact h.elim
  | succ n => simp only [rdB,hu] at h; exact h
theorem rdB_struct {fs : Array Field} (hu : P.underlying T = some (.struct fs)) (h : rdB P n T vs) : ∃ m,m < n ∧ vs.length = P.cellsOf T ∧ ∀ f ∈ fs.toList,rdB P m f.type ((vs.drop f.offset).take (P.cellsOf f.type)) := by
  cases n with
  | zero => exact h.elim
  | succ n => simp only [rdB,hu] at h; exact ⟨n,Nat.lt_succ_self n,h⟩
end
end Go.Vm
