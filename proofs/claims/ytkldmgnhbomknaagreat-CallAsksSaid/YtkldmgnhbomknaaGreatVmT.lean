/- Contracts of functions of the given program. Conditions: as each theorem says. -/
import Derived.Test.YtkldmgnhbomknaaGreatVm18
import Derived.ChangeArms
import Derived.ChangeSlices
import Derived.WideShapes
import Derived.Carry
set_option linter.unusedVariables false
set_option linter.unusedSimpArgs false
/- From a contract to a row: the first state, and what is left behind. -/
namespace Go.Vm
open Go.RowKit
def St.start (w : World) : St := ⟨w,fun _ => none,fun _ => none,fun _ => none,0,false⟩
theorem HRel.start (w : World) : HRel (St.start w) (fun _ => none) :=
  ⟨fun _ _ h => (nomatch h),fun _ _ h => (nomatch h),fun _ _ h => (nomatch h),fun _ _ h => (nomatch h),fun _ _ _ h => (nomatch h)⟩
def ghost : AH := AH.put (fun _ => none) 0 .nodr
def St.startG (w : World) : St := ⟨w,fun _ => none,fun _ => none,fun _ => none,1,false⟩
theorem HRel.startG (w : World) : HRel (St.startG w) ghost := by
  refine ⟨fun k o h => ?_,fun k o h => ?_,fun _ _ h => (nomatch h),fun _ _ h => (nomatch h),fun _ _ _ h => (nomatch h)⟩
  · unfold ghost at h
    by_cases e : k = 0
    · subst e; rw [AH.put_same] at h; cases h; exact rfl
    · rw [AH.put_ne _ _ e] at h; cases h
  · unfold ghost at h
    by_cases e : k = 0
    · subst e; exact Nat.one_pos
    · rw [AH.put_ne _ _ e] at h; cases h
theorem start_ext (w : World) : Ext (St.start w) (St.startG w) :=
  ⟨rfl,rfl,rfl,⟨rfl,fun _ => Nat.le_refl _⟩,Nat.le_refl _,fun _ _ h => ⟨h,rfl⟩,fun _ _ e _ h => (nomatch h),fun _ _ h => h,fun _ st h => (nomatch h),Nat.zero_le _⟩
theorem row_ofG {P : Program} {f : FuncId} {vs : List V} {xs : List Value} {w : World} (h : ACalls P f vs ghost (fun o H' => o = .ret (.bool true) ∧ H' = ghost)) (hv : (St.start w).vals vs xs) :
    Calls P f xs.toArray w (fun e w' => e = .returned (.bool true) ∧ Below w.heap.size w w') := by
  refine (h (St.startG w) xs (HRel.startG w) (Holds.mono (start_ext w) hv)).mono fun e w' p => ?_
  obtain ⟨s',H',o,rfl,hx,_,ho,rfl,_⟩ := p
  cases e with
  | returned x =>
    have := val_bool ho
    subst this
    exact ⟨rfl,hx.os,hx.tape,hx.output,hx.size,fun k hk => (hx.froz k hk rfl).2⟩
  | panicked c => exact ho.elim
  | outgrown => exact ho.elim
theorem start_str (w : World) (a : ByteArray) : (St.start w).val (.str a.data.toList) (.string a) := by
  have := Holds.str (s := St.start w) a.data.toList
  simpa using this
end Go.Vm
/- What a row's arguments stand for: readings, opened to abstract values in a world of which all is held fast. -/
namespace Go.Vm
theorem row_start {w : World} : ∀ (vs : List V) (cs : List Value) (b o : Nat),ones vs = true → (St.start w).vals vs cs → (∀ i y,cs[i]? = some y → w.cell? ⟨b,o + i,none⟩ = some y) → Holds (St.start w) (.row b o vs)
  | [],_,b,o,_,_,_ => .rowNil b o
  | v :: vs,cs,b,o,h1,h2,h3 => by
    cases h2 with
    | cons _ x _ xs k1 k2 =>
      simp only [ones,List.all_cons,Bool.and_eq_true] at h1
      refine .rowCons b o v x vs h1.1 ⟨(show w.cell? ⟨b,o,none⟩ = some x by simpa using h3 0 x rfl),fun k e h => (nomatch h)⟩ k1 (row_start vs xs b (o + 1) h1.2 k2 fun i y hy => ?_)
      have := h3 (i + 1) y (by simpa using hy)
      rw [show o + 1 + i = o + (i + 1) by omega]
      exact this
theorem els_start {w : World} (sz : Nat) : ∀ (es : List (List V)) (b o : Nat),(∀ (j : Nat) (e : List V),es[j]? = some e → e.length = sz ∧ Holds (St.start w) (.row b (o + j * sz) e)) → Holds (St.start w) (.els b o sz es)
  | [],b,o,_ => .elsNil b o sz
  | e :: es,b,o,h => by
    obtain ⟨h1,h2⟩ := h 0 e rfl
    refine .elsCons b o sz e es h1 (by simpa using h2) (els_start sz es b (o + sz) fun j e' he => ?_)
    obtain ⟨k1,k2⟩ := h (j + 1) e' (by simpa using he)
    refine ⟨k1,?_⟩
    rw [show o + sz + j * sz = o + (j + 1) * sz by rw [Nat.succ_mul]; omega]
    exact k2
theorem add_none (b o n : Nat) : Addr.add ⟨b,o,none⟩ n = ⟨b,o + n,none⟩ := by
  unfold Addr.add
  split
  · rename_i h; subst h; rfl
  · rfl
theorem strs_of : ∀ (es : List (List V)),(∀ c ∈ es,∃ s : List UInt8,c = [.str s] ∧ s.length ≤ maxLen) → ∃ l,es = strsE l ∧ ∀ s ∈ l,s.length ≤ maxLen
  | [],_ => ⟨[],rfl,fun s hs => (nomatch hs)⟩
  | c :: es,h => by
    obtain ⟨n,rfl,hn⟩ := h c (by simp)
    obtain ⟨l,rfl,hl⟩ := strs_of es (fun c hc => h c (by simp [hc]))
    refine ⟨n :: l,rfl,fun s hs => ?_⟩
    rcases List.mem_cons.1 hs with rfl | hs
    · exact hn
    · exact hl s hs
section
variable {H : Type} {enc : TypeId × Value → H} {P : Program} {w : World} {base : Nat} {spare : Nat → Bool} {held : Bool} {t e : TypeId} {fuel : Nat} {cs : List Value} {x : DataW H × List MemPlace}
end
end Go.Vm
/- What a row's arguments stand for, of any types of plain data: truths, numbers, texts, slices and structs of them, recursive ones too. -/
namespace Go.Vm
open Go.RowKit
def rd (P : Program) : Nat → TypeId → List V → Prop
  | 0,_,_ => False
  | n + 1,T,vs => match P.underlying T with
    | some .bool => ∃ b,vs = [.bool b]
    | some (.int k) => ∃ m,vs = [.int k m] ∧ (Lit.int k m).wf = true
    | some .string => ∃ s : List UInt8,vs = [.str s] ∧ s.length ≤ maxLen
    | some (.slice e) => ∃ es : List (List V),vs = [.sl (P.cellsOf e) es .no] ∧ es.length ≤ maxLen ∧ ∀ c ∈ es,rd P n e c
    | some (.struct fs) => vs.length = P.cellsOf T ∧ ∀ f ∈ fs.toList,rd P n f.type ((vs.drop f.offset).take (P.cellsOf f.type))
    | _ => False
def laidF (P : Program) : Nat → List Field → Option Nat
  | o,[] => some o
  | o,f :: fs => if f.offset = o then laidF P (o + P.cellsOf f.type) fs else none
def plainT (P : Program) (ts : List TypeId) : Bool :=
  ts.all fun T => match P.underlying T with
    | some .bool | some (.int _) | some .string => P.cellsOf T == 1
    | some (.slice e) => P.cellsOf T == 1 && (ts.contains e && decide (0 < P.cellsOf e))
    | some (.struct fs) => fs.toList.all (fun f => ts.contains f.type) && laidF P 0 fs.toList == some (P.cellsOf T)
    | _ => false
theorem laidF_le {P : Program} : ∀ (fs : List Field) (o tot : Nat),laidF P o fs = some tot → o ≤ tot
  | [],o,tot,h => by cases h; exact Nat.le_refl _
  | f :: fs,o,tot,h => by
    simp only [laidF] at h
    split at h
    · have := laidF_le fs _ _ h; omega
    · cases h
theorem laidF_off {P : Program} : ∀ (fs : List Field) (o tot : Nat),laidF P o fs = some tot → ∀ f ∈ fs,o ≤ f.offset
  | [],o,tot,h => fun f hf => (nomatch hf)
  | f :: fs,o,tot,h => by
    simp only [laidF] at h
    split at h
    · rename_i e
      intro g hg
      rcases List.mem_cons.1 hg with rfl | hg
      · omega
      · have := laidF_off fs _ _ h g hg; omega
    · cases h
theorem fields_start {P : Program} {s : St} {cs : List Value} {tot : Nat} {R : TypeId → List V → Prop} : ∀ (fs : List Field) (o : Nat),laidF P o fs = some tot → cs.length = tot →
    (∀ f ∈ fs,((cs.drop f.offset).take (P.cellsOf f.type)).length = P.cellsOf f.type → ∃ vs,vs.length = P.cellsOf f.type ∧ ones vs = true ∧ s.vals vs ((cs.drop f.offset).take (P.cellsOf f.type)) ∧ R f.type vs) →
    ∃ vs,vs.length = tot - o ∧ ones vs = true ∧ s.vals vs (cs.drop o) ∧ ∀ f ∈ fs,R f.type ((vs.drop (f.offset - o)).take (P.cellsOf f.type))
  | [],o,hl,hc,_ => by
    cases hl
    exact ⟨[],by simp,rfl,by rw [List.drop_eq_nil_of_le (by omega)]; exact .nil,fun f hf => (nomatch hf)⟩
  | f :: fs,o,hl,hc,h => by
    simp only [laidF] at hl
    split at hl
    · rename_i e
      have hle := laidF_le fs _ _ hl
      obtain ⟨vs,l1,o1,v1,r1⟩ := h f (by simp) (by simp; omega)
      obtain ⟨us,l2,o2,v2,r2⟩ := fields_start fs _ hl hc (fun g hg => h g (by simp [hg]))
      refine ⟨vs ++ us,by simp; omega,ones_append o1 o2,?_,?_⟩
      · have := vals_append v1 v2
        rw [e,← List.drop_drop,List.take_append_drop] at this
        exact this
      · intro g hg
        rcases List.mem_cons.1 hg with rfl | hg
        · rw [show g.offset - o = 0 by omega,List.drop_zero,List.take_left' l1]; exact r1
        · have ho := laidF_off fs _ _ hl g hg
          have : (vs ++ us).drop (g.offset - o) = us.drop (g.offset - (o + P.cellsOf f.type)) := by
            rw [List.drop_append,List.drop_eq_nil_of_le (by omega),List.nil_append]
            congr 1; omega
          rw [this]; exact r2 g hg
    · cases hl
/-! ### Taking readings apart -/
section
variable {P : Program} {n : Nat} {T e : TypeId} {vs : List V}
end
theorem wf_i64 {n : Int} (h : (Lit.int .i64 n).wf = true) : -9223372036854775808 ≤ n ∧ n < 9223372036854775808 := by
  simp [Lit.wf,IntKind.min,IntKind.max,IntKind.bits,IntKind.signed] at h; omega
theorem wf_u8 {n : Int} (h : (Lit.int .u8 n).wf = true) : 0 ≤ n ∧ n < 256 := by
  simp [Lit.wf,IntKind.min,IntKind.max,IntKind.bits,IntKind.signed] at h; omega
end Go.Vm
