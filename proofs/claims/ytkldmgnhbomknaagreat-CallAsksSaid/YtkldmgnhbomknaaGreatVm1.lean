/- The abstract values of the walks: what they stand for in a world, and how that lasts. -/
import Derived.WalkKit
import Derived.Below
set_option linter.unusedVariables false
set_option linter.unusedSimpArgs false
namespace Go.Vm
inductive Tok where
  | no
  | tight
  | id (k : Nat)
  deriving DecidableEq
inductive V where
  | bool (b : Bool)
  | int (k : IntKind) (n : Int)
  | float (k : FloatKind) (bits : Nat)
  | complex (k : FloatKind) (re im : Nat)
  | str (s : List UInt8)
  | nilPtr
  | ptr (k off : Nat)
  | rptr (cs : List V) (off : Nat)
  | nilSl
  | sl (sz : Nat) (es : List (List V)) (t : Tok)
  | msl (k sz off n : Nat)
  /-- A slice that is a numbered object's own,and grows. -/
  | gsl (k sz n : Nat)
  | nilMap
  | map (k : Nat)
  | mapv (es : List (V × V))
  | func (fn : Fn) (first cap : List V)
  | nilFunc
  | iface (t : Nat) (v : V)
  | nilIface
  | agg (cs : List V)
  | tuple (vs : List V)
def V.one : V → Bool
  | .agg _ | .tuple _ => false
  | _ => true
def ones (cs : List V) : Bool := cs.all V.one
structure TS where
  n : Nat
  v : Value
structure St where
  w : World
  blk : Nat → Option Nat
  tok : Nat → Option TS
  role : Nat → Option (Nat × Nat)
  nx : Nat
  /-- whether draws are told -/
  dr : Bool
def St.imm (s : St) (b o : Nat) (y : Value) : Prop :=
  s.w.cell? ⟨b,o,none⟩ = some y ∧ ∀ k e,s.role b = some (k,e) → o < e
def TokOk (s : St) (t : Tok) (n : Nat) (v : Value) (cap : Nat) : Prop :=
  match t with
  | .no => True
  | .tight => cap = n
  | .id k => ∃ st,s.tok k = some st ∧ n ≤ st.n ∧ (n = st.n → v = st.v)
inductive Item where
  | val (v : V) (x : Value)
  | vals (vs : List V) (xs : List Value)
  | row (b o : Nat) (cs : List V)
  | els (b o sz : Nat) (es : List (List V))
  | ents (es : List (V × V)) (ms : List MapEntry)
inductive Holds (s : St) : Item → Prop where
  | bool (b : Bool) : Holds s (.val (.bool b) (.bool b))
  | int (k : IntKind) (n : Int) : Holds s (.val (.int k n) (.int k n))
  | float (k : FloatKind) (n : Nat) : Holds s (.val (.float k n) (.float k n))
  | complex (k : FloatKind) (a b : Nat) : Holds s (.val (.complex k a b) (.complex k a b))
  | str (x : List UInt8) : Holds s (.val (.str x) (.string ⟨x.toArray⟩))
  | nilPtr : Holds s (.val .nilPtr (.pointer none))
  | ptr (k off b : Nat) : s.blk k = some b → Holds s (.val (.ptr k off) (.pointer (some ⟨b,off,none⟩)))
  | rptr (cs : List V) (off b o : Nat) : Holds s (.row b o cs) → Holds s (.val (.rptr cs off) (.pointer (some ⟨b,o + off,none⟩)))
  | nilSl : Holds s (.val .nilSl (.slice none 0 0))
  | slNil (sz : Nat) (t : Tok) : TokOk s t 0 (.slice none 0 0) 0 → Holds s (.val (.sl sz [] t) (.slice none 0 0))
  | slEmp (sz : Nat) (t : Tok) (a : Addr) (cap : Nat) : TokOk s t 0 (.slice (some a) 0 cap) cap → Holds s (.val (.sl sz [] t) (.slice (some a) 0 cap))
  | sl (sz : Nat) (es : List (List V)) (t : Tok) (b o cap : Nat) : Holds s (.els b o sz es) → es.length ≤ cap → TokOk s t es.length (.slice (some ⟨b,o,none⟩) es.length cap) cap →
      Holds s (.val (.sl sz es t) (.slice (some ⟨b,o,none⟩) es.length cap))
  | msl (k sz off n b o cap : Nat) : s.blk k = some b → n ≤ cap → (n = 0 ∨ o = off) → Holds s (.val (.msl k sz off n) (.slice (some ⟨b,o,none⟩) n cap))
  | gsl (k sz n : Nat) (a : Option Addr) (cap : Nat) : TokOk s (.id k) n (.slice a n cap) cap → Holds s (.val (.gsl k sz n) (.slice a n cap))
  | nilMap : Holds s (.val .nilMap (.map none))
  | map (k b : Nat) : s.blk k = some b → Holds s (.val (.map k) (.map (some b)))
  | mapv (es : List (V × V)) (b : Nat) (ms : Array MapEntry) (clock : Nat) : b < s.w.heap.size → s.role b = none → s.w.heap[b]? = some (.map ms clock) → Holds s (.ents es ms.toList) → (∀ m ∈ ms.toList,m.born < clock) → (ms.toList.map (·.born)).Nodup →
      Holds s (.val (.mapv es) (.map (some b)))
  | func (fn : Fn) (first cap : List V) (xs ys : List Value) : Holds s (.vals first xs) → Holds s (.vals cap ys) → Holds s (.val (.func fn first cap) (.func fn xs.toArray ys.toArray))
  | nilFunc : Holds s (.val .nilFunc .nilFunc)
  | iface (t : Nat) (v : V) (x : Value) : Holds s (.val v x) → Holds s (.val (.iface t v) (.iface t x))
  | nilIface : Holds s (.val .nilIface .nilIface)
  | agg (cs : List V) (xs : List Value) : ones cs = true → Holds s (.vals cs xs) → Holds s (.val (.agg cs) (.agg xs.toArray))
  | tuple (cs : List V) (xs : List Value) : Holds s (.vals cs xs) → Holds s (.val (.tuple cs) (.tuple xs.toArray))
  | nil : Holds s (.vals [] [])
  | cons (v : V) (x : Value) (vs : List V) (xs : List Value) : Holds s (.val v x) → Holds s (.vals vs xs) → Holds s (.vals (v :: vs) (x :: xs))
  | rowNil (b o : Nat) : Holds s (.row b o [])
  | rowCons (b o : Nat) (c : V) (y : Value) (cs : List V) : c.one = true → s.imm b o y → Holds s (.val c y) → Holds s (.row b (o + 1) cs) → Holds s (.row b o (c :: cs))
  | elsNil (b o sz : Nat) : Holds s (.els b o sz [])
  | elsCons (b o sz : Nat) (c : List V) (es : List (List V)) : c.length = sz → Holds s (.row b o c) → Holds s (.els b (o + sz) sz es) → Holds s (.els b o sz (c :: es))
  | entsNil : Holds s (.ents [] [])
  | entsCons (k v : V) (m : MapEntry) (es : List (V × V)) (ms : List MapEntry) : Holds s (.val k m.key) → Holds s (.val v m.val) → Holds s (.ents es ms) → Holds s (.ents ((k,v) :: es) (m :: ms))
structure Ext (s s' : St) : Prop where
  os : s'.w.os = s.w.os
  tape : s'.w.tape = s.w.tape
  output : s'.w.output = s.w.output
  drawn : s'.dr = s.dr ∧ (s.dr = true → s.w.drawn ≤ s'.w.drawn)
  size : s.w.heap.size ≤ s'.w.heap.size
  froz : ∀ b,b < s.w.heap.size → s.role b = none → s'.role b = none ∧ s'.w.heap[b]? = s.w.heap[b]?
  own : ∀ b k e,b < s.w.heap.size → s.role b = some (k,e) → (s'.role b = none ∨ ∃ e',e ≤ e' ∧ s'.role b = some (k,e')) ∧ ∀ o,o < e → s'.w.cell? ⟨b,o,none⟩ = s.w.cell? ⟨b,o,none⟩
  blk : ∀ k b,s.blk k = some b → s'.blk k = some b
  tok : ∀ k st,s.tok k = some st → ∃ st',s'.tok k = some st' ∧ (st' = st ∨ st.n < st'.n)
  nx : s.nx ≤ s'.nx
theorem Ext.refl (s : St) : Ext s s :=
  ⟨rfl,rfl,rfl,⟨rfl,fun _ => by first | exact Nat.le_refl _ | exact Nat.le_succ _⟩,Nat.le_refl _,fun _ _ h => ⟨h,rfl⟩,fun _ _ e _ h => ⟨.inr ⟨e,Nat.le_refl _,h⟩,fun _ _ => rfl⟩,fun _ _ h => h,fun _ st h => ⟨st,h,.inl rfl⟩,Nat.le_refl _⟩
theorem cell_of_block {w w' : World} {b : Nat} (h : w'.heap[b]? = w.heap[b]?) (o : Nat) : w'.cell? ⟨b,o,none⟩ = w.cell? ⟨b,o,none⟩ := by
  simp only [World.cell?,h]
theorem Ext.trans {s s' s'' : St} (h : Ext s s') (k : Ext s' s'') : Ext s s'' := by
  refine ⟨k.os.trans h.os,k.tape.trans h.tape,k.output.trans h.output,⟨k.drawn.1.trans h.drawn.1,fun e => Nat.le_trans (h.drawn.2 e) (k.drawn.2 (h.drawn.1.trans e))⟩,Nat.le_trans h.size k.size,?_,?_,fun i b hb => k.blk i b (h.blk i b hb),?_,Nat.le_trans h.nx k.nx⟩
  · intro b hb hr
    obtain ⟨h1,h2⟩ := h.froz b hb hr
    obtain ⟨k1,k2⟩ := k.froz b (Nat.lt_of_lt_of_le hb h.size) h1
    exact ⟨k1,k2.trans h2⟩
  · intro b i e hb hr
    obtain ⟨h1,h2⟩ := h.own b i e hb hr
    have hb' := Nat.lt_of_lt_of_le hb h.size
    rcases h1 with h1 | ⟨e',he,h1⟩
    · obtain ⟨k1,k2⟩ := k.froz b hb' h1
      exact ⟨.inl k1,fun o ho => (cell_of_block k2 o).trans (h2 o ho)⟩
    · obtain ⟨k1,k2⟩ := k.own b i e' hb' h1
      refine ⟨?_,fun o ho => (k2 o (by omega)).trans (h2 o ho)⟩
      rcases k1 with k1 | ⟨e'',he',k1⟩
      · exact .inl k1
      · exact .inr ⟨e'',by omega,k1⟩
  · intro i st hi
    obtain ⟨st',h1,h2⟩ := h.tok i st hi
    obtain ⟨st'',k1,k2⟩ := k.tok i st' h1
    refine ⟨st'',k1,?_⟩
    rcases h2 with rfl | h2 <;> rcases k2 with rfl | k2
    · exact .inl rfl
    · exact .inr k2
    · exact .inr h2
    · exact .inr (by omega)
theorem cell_block_lt {w : World} {b o : Nat} {y : Value} (h : w.cell? ⟨b,o,none⟩ = some y) : b < w.heap.size := by
  unfold World.cell? at h
  by_cases hb : b < w.heap.size
  · exact hb
  · simp [Array.getElem?_eq_none (Nat.le_of_not_lt hb)] at h
theorem Ext.imm {s s' : St} (h : Ext s s') {b o : Nat} {y : Value} (hi : s.imm b o y) : s'.imm b o y := by
  obtain ⟨h1,h2⟩ := hi
  have hb := cell_block_lt h1
  cases hr : s.role b with
  | none =>
    obtain ⟨k1,k2⟩ := h.froz b hb hr
    exact ⟨(cell_of_block k2 o).trans h1,fun k e he => by rw [k1] at he; cases he⟩
  | some p =>
    obtain ⟨k,e⟩ := p
    have ho := h2 k e hr
    obtain ⟨k1,k2⟩ := h.own b k e hb hr
    refine ⟨(k2 o ho).trans h1,fun k' e' he => ?_⟩
    rcases k1 with k1 | ⟨e'',he',k1⟩
    · rw [k1] at he; cases he
    · rw [k1] at he; cases he; omega
theorem Ext.tokOk {s s' : St} (h : Ext s s') {t : Tok} {n : Nat} {v : Value} {cap : Nat} (ht : TokOk s t n v cap) : TokOk s' t n v cap := by
  cases t with
  | no => trivial
  | tight => exact ht
  | id k =>
    obtain ⟨st,h1,h2,h3⟩ := ht
    obtain ⟨st',k1,k2⟩ := h.tok k st h1
    rcases k2 with rfl | k2
    · exact ⟨_,k1,h2,h3⟩
    · exact ⟨_,k1,by omega,fun e => absurd e (by omega)⟩
theorem Holds.mono {s s' : St} (h : Ext s s') {i : Item} (hi : Holds s i) : Holds s' i := by
  induction hi with
  | bool b => exact .bool b
  | int k n => exact .int k n
  | float k n => exact .float k n
  | complex k a b => exact .complex k a b
  | str x => exact .str x
  | nilPtr => exact .nilPtr
  | ptr k off b hb => exact .ptr k off b (h.blk k b hb)
  | rptr cs off b o _ ih => exact .rptr cs off b o ih
  | nilSl => exact .nilSl
  | slNil sz t ht => exact .slNil sz t (h.tokOk ht)
  | slEmp sz t a cap ht => exact .slEmp sz t a cap (h.tokOk ht)
  | sl sz es t b o cap _ hc ht ih => exact .sl sz es t b o cap ih hc (h.tokOk ht)
  | msl k sz off n b o cap hb hc ho => exact .msl k sz off n b o cap (h.blk k b hb) hc ho
  | gsl k sz n a cap ht => exact .gsl k sz n a cap (h.tokOk ht)
  | nilMap => exact .nilMap
  | map k b hb => exact .map k b (h.blk k b hb)
  | mapv es b ms clock hb hr hh _ h5 h6 ih =>
    obtain ⟨k1,k2⟩ := h.froz b hb hr
    exact .mapv es b ms clock (Nat.lt_of_lt_of_le hb h.size) k1 (k2.trans hh) ih h5 h6
  | func fn f c xs ys _ _ ih1 ih2 => exact .func fn f c xs ys ih1 ih2
  | nilFunc => exact .nilFunc
  | iface t v x _ ih => exact .iface t v x ih
  | nilIface => exact .nilIface
  | agg cs xs h1 _ ih => exact .agg cs xs h1 ih
  | tuple cs xs _ ih => exact .tuple cs xs ih
  | nil => exact .nil
  | cons v x vs xs _ _ ih1 ih2 => exact .cons v x vs xs ih1 ih2
  | rowNil b o => exact .rowNil b o
  | rowCons b o c y cs h1 hi _ _ ih1 ih2 => exact .rowCons b o c y cs h1 (h.imm hi) ih1 ih2
  | elsNil b o sz => exact .elsNil b o sz
  | elsCons b o sz c es hl _ _ ih1 ih2 => exact .elsCons b o sz c es hl ih1 ih2
  | entsNil => exact .entsNil
  | entsCons k v m es ms _ _ _ ih1 ih2 ih3 => exact .entsCons k v m es ms ih1 ih2 ih3
/-! ### Taking apart -/
abbrev St.val (s : St) (v : V) (x : Value) : Prop := Holds s (.val v x)
abbrev St.vals (s : St) (vs : List V) (xs : List Value) : Prop := Holds s (.vals vs xs)
theorem vals_length {s : St} {vs : List V} {xs : List Value} (h : s.vals vs xs) : xs.length = vs.length := by
  induction vs generalizing xs with
  | nil => cases h; rfl
  | cons v vs ih => cases h with | cons _ _ _ _ _ h2 => simp [ih h2]
theorem vals_get {s : St} {vs : List V} {xs : List Value} (h : s.vals vs xs) {i : Nat} {v : V} (hv : vs[i]? = some v) : ∃ x,xs[i]? = some x ∧ s.val v x := by
  induction vs generalizing xs i with
  | nil => simp at hv
  | cons u vs ih =>
    cases h with
    | cons _ x _ xs h1 h2 =>
      cases i with
      | zero => simp at hv; subst hv; exact ⟨x,rfl,h1⟩
      | succ i => simp at hv; obtain ⟨y,hy,h⟩ := ih h2 hv; exact ⟨y,by simpa using hy,h⟩
theorem els_get {s : St} {b o sz : Nat} {es : List (List V)} (h : Holds s (.els b o sz es)) {i : Nat} {c : List V} (hc : es[i]? = some c) : c.length = sz ∧ Holds s (.row b (o + i * sz) c) := by
  induction es generalizing o i with
  | nil => simp at hc
  | cons u vs ih =>
    cases h with
    | elsCons _ _ _ _ _ h0 h1 h2 =>
      cases i with
      | zero => simp at hc; subst hc; exact ⟨h0,by simpa using h1⟩
      | succ i =>
        simp at hc
        obtain ⟨z,h⟩ := ih h2 hc
        exact ⟨z,by rw [show o + (i + 1) * sz = o + sz + i * sz by rw [Nat.add_mul]; omega]; exact h⟩
theorem els_drop {s : St} {b o sz : Nat} {es : List (List V)} (h : Holds s (.els b o sz es)) (i : Nat) (hi : i ≤ es.length) : Holds s (.els b (o + i * sz) sz (es.drop i)) := by
  induction es generalizing o i with
  | nil => simp at hi; subst hi; simpa using h
  | cons u vs ih =>
    cases i with
    | zero => simpa using h
    | succ i =>
      cases h with
      | elsCons _ _ _ _ _ h0 h1 h2 =>
        have := ih h2 i (by simpa using hi)
        rw [show o + (i + 1) * sz = o + sz + i * sz by rw [Nat.add_mul]; omega]
        simpa using this
theorem els_take {s : St} {b o sz : Nat} {es : List (List V)} (h : Holds s (.els b o sz es)) (i : Nat) : Holds s (.els b o sz (es.take i)) := by
  induction es generalizing o i with
  | nil => simpa using h
  | cons u vs ih =>
    cases i with
    | zero => simpa using Holds.elsNil b o sz
    | succ i =>
      cases h with
      | elsCons _ _ _ _ _ h0 h1 h2 =>
        simpa using Holds.elsCons b o sz u (vs.take i) h0 h1 (ih h2 i)
theorem els_append {s : St} {b o sz : Nat} {es fs : List (List V)} (h : Holds s (.els b o sz es)) (k : Holds s (.els b (o + es.length * sz) sz fs)) : Holds s (.els b o sz (es ++ fs)) := by
  induction es generalizing o with
  | nil => simpa using k
  | cons u vs ih =>
    cases h with
    | elsCons _ _ _ _ _ h0 h1 h2 =>
      refine .elsCons b o sz u (vs ++ fs) h0 h1 (ih h2 ?_)
      rw [show o + sz + vs.length * sz = o + (u :: vs).length * sz by simp [Nat.add_mul]; omega]
      exact k
theorem vals_append {s : St} {vs us : List V} {xs ys : List Value} (h : s.vals vs xs) (k : s.vals us ys) : s.vals (vs ++ us) (xs ++ ys) := by
  induction vs generalizing xs with
  | nil => cases h; simpa using k
  | cons v vs ih => cases h with | cons _ _ _ _ h1 h2 => exact .cons _ _ _ _ h1 (ih h2)
theorem ones_cons (c : V) (cs : List V) : ones (c :: cs) = (c.one && ones cs) := rfl
theorem ones_take {cs : List V} (h : ones cs = true) (n : Nat) : ones (cs.take n) = true := by
  simp only [ones,List.all_eq_true] at h ⊢
  exact fun x hx => h x (List.mem_of_mem_take hx)
theorem ones_drop {cs : List V} (h : ones cs = true) (n : Nat) : ones (cs.drop n) = true := by
  simp only [ones,List.all_eq_true] at h ⊢
  exact fun x hx => h x (List.mem_of_mem_drop hx)
theorem ones_append {cs ds : List V} (h : ones cs = true) (k : ones ds = true) : ones (cs ++ ds) = true := by
  simp only [ones,List.all_append,Bool.and_eq_true] at *; exact ⟨h,k⟩
theorem row_ones {s : St} {b o : Nat} {cs : List V} (h : Holds s (.row b o cs)) : ones cs = true := by
  induction cs generalizing o with
  | nil => rfl
  | cons c cs ih => cases h with | rowCons _ _ _ _ _ h1 _ _ h2 => rw [ones_cons,h1,ih h2]; rfl
end Go.Vm
