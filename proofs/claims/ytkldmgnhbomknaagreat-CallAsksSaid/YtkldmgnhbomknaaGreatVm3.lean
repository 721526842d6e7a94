/- Steps of the state: new objects, new frozen blocks, stores; and how the machine's loads and stores run. -/
import Derived.Test.YtkldmgnhbomknaaGreatVm2
set_option linter.unusedVariables false
set_option linter.unusedSimpArgs false
namespace Go.Vm
theorem add_plain (b o n : Nat) : (⟨b,o,none⟩ : Addr).add n = ⟨b,o + n,none⟩ := by
  unfold Addr.add; split
  · rename_i h; subst h; rfl
  · rfl
def V.cells : V → List V
  | .agg cs => cs
  | v => [v]
def V.flat : V → Bool
  | .tuple _ => false
  | _ => true
theorem val_cells {s : St} {v : V} {x : Value} (h : s.val v x) : s.vals v.cells x.cells.toList := by
  cases h
  case agg cs xs _ h => simpa [V.cells,Value.cells] using h
  all_goals exact .cons _ _ _ _ (by constructor <;> assumption) .nil
theorem cells_ones {s : St} {v : V} {x : Value} (h : s.val v x) (hf : v.flat = true) : ones v.cells = true := by
  cases h <;> first | rfl | assumption | (simp [V.flat] at hf)
theorem vals_agg {s : St} {cs : List V} {xs : Array Value} (h1 : ones cs = true) (h : s.vals cs xs.toList) : s.val (.agg cs) (.agg xs) := by
  have := Holds.agg cs xs.toList h1 h
  simpa using this
/-! ### What an object's relation hangs on -/
theorem ORel.keep {s s' : St} {k : Nat} {o : AObj} (hx : Ext s s') (hs : ∀ b e,s.role b = some (k,e) → s'.role b = s.role b ∧ s'.w.heap[b]? = s.w.heap[b]?) (ht : s'.tok k = s.tok k) (h : ORel s k o) : ORel s' k o := by
  cases o with
  | cells cs =>
    obtain ⟨b,ys,zs,T,fr,h1,h2,h3,h0,h4⟩ := h
    obtain ⟨k1,k2⟩ := hs b 0 h2
    exact ⟨b,ys,zs,T,fr,hx.blk k b h1,k1.trans h2,k2.trans h3,h0,h4.1.mono hx,h4.2⟩
  | bld T e l =>
    obtain ⟨b,p,v,h1,h2,h3,h4,h5,h6,h7⟩ := h
    obtain ⟨k1,k2⟩ := hs b 0 h2
    refine ⟨b,p,v,hx.blk k b h1,k1.trans h2,k2.trans h3,h4,⟨h5.1,h5.2.imp id ?_⟩,h6,fun g hg => (hs g 0 (h7 g hg)).1.trans (h7 g hg)⟩
    rintro ⟨g,cap,cur,rfl,g1,g2,g3⟩
    exact ⟨g,cap,cur,rfl,g1,(hs g 0 (h7 g rfl)).2.trans g2,g3⟩
  | map es =>
    obtain ⟨b,ms,c,h1,h2,h3,h4,h5,h6⟩ := h
    obtain ⟨k1,k2⟩ := hs b 0 h2
    exact ⟨b,ms,c,hx.blk k b h1,k1.trans h2,k2.trans h3,h4.mono hx,h5,h6⟩
  | dead => trivial
  | nodr => exact hx.drawn.1.trans h
  | gr sz n cs =>
    obtain ⟨b,cap,ys,T,h1,h2,h3,h4,h5,h6,h7,h8⟩ := h
    obtain ⟨k1,k2⟩ := hs b 0 h2
    exact ⟨b,cap,ys,T,ht.trans h1,k1.trans h2,k2.trans h3,h4,h5,h6,h7.mono hx,h8⟩
  | iter m =>
    obtain ⟨b,h1,h2⟩ := h
    refine ⟨b,hx.blk k b h1,fun e => ?_⟩
    obtain ⟨g1,g2⟩ := h2 e
    obtain ⟨k1,k2⟩ := hs b 0 g1
    exact ⟨k1.trans g1,k2.trans g2⟩
  | mapi es j left cur =>
    obtain ⟨b,bi,ms,c,since,seen,h1,h2,h3,h4,h5,h6,g1,g2,g3,g4,g5,g6,g7,g8⟩ := h
    obtain ⟨k1,k2⟩ := hs b 0 h2
    obtain ⟨k3,k4⟩ := hs bi 0 g2
    refine ⟨b,bi,ms,c,since,seen,hx.blk k b h1,k1.trans h2,k2.trans h3,h4.mono hx,h5,h6,hx.blk j bi g1,k3.trans g2,g3,k4.trans g4,g5,g6,g7.mono hx,fun kv e => ?_⟩
    obtain ⟨sn,m,e1,e2,e3,e4⟩ := g8 kv e
    exact ⟨sn,m,e1,e2,e3.mono hx,e4.mono hx⟩
  | iterv left cur =>
    obtain ⟨b,bi,ms,c,since,seen,h1,h2,h3,h4,h5,h6,g4,g5,g6,g7,g8⟩ := h
    obtain ⟨k1,k2⟩ := hs bi 0 h2
    obtain ⟨k3,k4⟩ := hx.froz b h3 h4
    refine ⟨b,bi,ms,c,since,seen,hx.blk k bi h1,k1.trans h2,Nat.lt_of_lt_of_le h3 hx.size,k3,k4.trans h5,h6,k2.trans g4,g5,g6,g7.mono hx,fun kv e => ?_⟩
    obtain ⟨sn,m,e1,e2,e3,e4⟩ := g8 kv e
    exact ⟨sn,m,e1,e2,e3.mono hx,e4.mono hx⟩
  | top sz n =>
    obtain ⟨st,h1,h2,h3⟩ := h
    refine ⟨st,ht.trans h1,h2,?_⟩
    rcases h3 with h3 | ⟨b,o,cap,ys,T,h3,h4,h5,h6,h7⟩
    · exact .inl h3
    · obtain ⟨k1,k2⟩ := hs b _ h4
      exact .inr ⟨b,o,cap,ys,T,h3,k1.trans h4,k2.trans h5,h6,h7⟩
/-! ### A new block -/
def St.newObj (s : St) (o : Obj) : St where
  w := s.w.alloc o
  blk := fun i => if i = s.nx then some s.w.heap.size else s.blk i
  tok := s.tok
  role := fun b => if b = s.w.heap.size then some (s.nx,0) else s.role b
  nx := s.nx + 1
  dr := s.dr
theorem heap_alloc_lt {w : World} {o : Obj} {b : Nat} (h : b < w.heap.size) : (w.alloc o).heap[b]? = w.heap[b]? := by
  show (w.heap.push o)[b]? = _
  rw [Array.getElem?_push,if_neg (by omega)]
theorem heap_alloc_new {w : World} {o : Obj} : (w.alloc o).heap[w.heap.size]? = some o := by
  show (w.heap.push o)[w.heap.size]? = _
  simp
theorem St.ext_newObj {s : St} {H : AH} (hr : HRel s H) (o : Obj) : Ext s (s.newObj o) := by
  refine ⟨rfl,rfl,rfl,⟨rfl,fun _ => by first | exact Nat.le_refl _ | exact Nat.le_succ _⟩,by simp [St.newObj],?_,?_,?_,fun k st h => ⟨st,h,.inl rfl⟩,Nat.le_succ _⟩
  · intro b hb h
    exact ⟨by simp only [St.newObj]; rw [if_neg (by omega)]; exact h,heap_alloc_lt hb⟩
  · intro b k e hb h
    exact ⟨.inr ⟨e,Nat.le_refl _,by simp only [St.newObj]; rw [if_neg (by omega)]; exact h⟩,fun x _ => cell_of_block (heap_alloc_lt hb) x⟩
  · intro k b h
    simp only [St.newObj]
    rw [if_neg (by have := hr.blk k b h; omega)]
    exact h
theorem HRel.fresh {s : St} {H : AH} (hr : HRel s H) : H s.nx = none := by
  cases h : H s.nx with
  | none => rfl
  | some o => exact absurd (hr.lt _ _ h) (by omega)
theorem HRel.newObj {s : St} {H : AH} (hr : HRel s H) (o : Obj) (ao : AObj) (ho : ORel (s.newObj o) s.nx ao) : HRel (s.newObj o) (H.put s.nx ao) := by
  refine ⟨fun k p hk => ?_,fun k p hk => ?_,fun k b hb => ?_,fun k t ht => ?_,fun b k e he => ?_⟩
  · by_cases e : k = s.nx
    · subst e; rw [AH.put_same] at hk; cases hk; exact ho
    · rw [AH.put_ne _ _ e] at hk
      refine ORel.keep (St.ext_newObj hr o) (fun b e' he => ?_) rfl (hr.obj k p hk)
      have := (hr.role b k e' he).2
      exact ⟨by simp only [St.newObj]; rw [if_neg (by omega)],heap_alloc_lt this⟩
  · show k < s.nx + 1
    by_cases e : k = s.nx
    · omega
    · rw [AH.put_ne _ _ e] at hk; have := hr.lt k p hk; omega
  · show k < s.nx + 1
    simp only [St.newObj] at hb
    split at hb
    · omega
    · have := hr.blk k b hb; omega
  · show k < s.nx + 1
    have := hr.tok k t ht; omega
  · simp only [St.newObj] at he ⊢
    simp only [World.size_alloc]
    split at he
    · cases he; omega
    · have := hr.role b k e he; omega
def St.newFroz (s : St) (o : Obj) : St := { s with w := s.w.alloc o }
theorem St.ext_newFroz (s : St) (o : Obj) : Ext s (s.newFroz o) :=
  ⟨rfl,rfl,rfl,⟨rfl,fun _ => by first | exact Nat.le_refl _ | exact Nat.le_succ _⟩,by simp [St.newFroz],fun b hb h => ⟨h,heap_alloc_lt hb⟩,fun b k e hb h => ⟨.inr ⟨e,Nat.le_refl _,h⟩,fun x _ => cell_of_block (heap_alloc_lt hb) x⟩,fun _ _ h => h,fun k st h => ⟨st,h,.inl rfl⟩,Nat.le_refl _⟩
theorem HRel.newFroz {s : St} {H : AH} (hr : HRel s H) (o : Obj) : HRel (s.newFroz o) H := by
  refine ⟨fun k p hk => ?_,hr.lt,hr.blk,hr.tok,fun b k e he => ?_⟩
  · exact ORel.keep (St.ext_newFroz s o) (fun b e he => ⟨rfl,heap_alloc_lt (hr.role b k e he).2⟩) rfl (hr.obj k p hk)
  · have := hr.role b k e he
    exact ⟨this.1,by simp [St.newFroz]; omega⟩
theorem HRel.role_new {s : St} {H : AH} (hr : HRel s H) : s.role s.w.heap.size = none := by
  cases h : s.role s.w.heap.size with
  | none => rfl
  | some p => obtain ⟨k,e⟩ := p; exact absurd (hr.role _ _ _ h).2 (by omega)
theorem row_new {s : St} {H : AH} (hr : HRel s H) {cs : List V} {ys : List Value} (h : s.vals cs ys) (h1 : ones cs = true) (ws : List Value) (T : TypeId) (fr : Nat × Nat) :
    ∀ pre : List Value,Holds (s.newFroz (.cells (pre ++ ys ++ ws).toArray T fr)) (.row s.w.heap.size pre.length cs) := by
  induction cs generalizing ys with
  | nil => intro pre; exact .rowNil _ _
  | cons c cs ih =>
    intro pre
    cases h with
    | cons _ y _ ys h3 h2 =>
      rw [ones_cons,Bool.and_eq_true] at h1
      refine .rowCons _ _ c y cs h1.1 ⟨?_,fun k e he => ?_⟩ (h3.mono (St.ext_newFroz _ _)) ?_
      · unfold World.cell?
        simp only [St.newFroz]
        rw [heap_alloc_new]
        simp
      · simp only [St.newFroz] at he; rw [hr.role_new] at he; cases he
      · have := ih h2 h1.2 (pre ++ [y])
        simpa using this
/-! ### Draws -/
def St.drew (s : St) : St := { s with w := s.w.drew }
theorem St.ext_drew (s : St) : Ext s s.drew :=
  ⟨rfl,rfl,rfl,⟨rfl,fun _ => by first | exact Nat.le_refl _ | exact Nat.le_succ _⟩,Nat.le_refl _,fun _ _ h => ⟨h,rfl⟩,fun _ _ e _ h => ⟨.inr ⟨e,Nat.le_refl _,h⟩,fun _ _ => rfl⟩,fun _ _ h => h,fun _ st h => ⟨st,h,.inl rfl⟩,Nat.le_refl _⟩
theorem HRel.drew {s : St} {H : AH} (hr : HRel s H) : HRel s.drew H :=
  ⟨fun k o hk => ORel.keep (St.ext_drew s) (fun _ _ _ => ⟨rfl,rfl⟩) rfl (hr.obj k o hk),hr.lt,hr.blk,hr.tok,hr.role⟩
/-! ### Loads -/
theorem run_loadCellsFrom (P : Program) (w : World) (b o : Nat) (xs : List Value) : ∀ (i : Nat) (acc : Array Value),(∀ j y,xs[j]? = some y → w.cell? ⟨b,o + (i + j),none⟩ = some y) →
    (loadCellsFrom ⟨b,o,none⟩ i xs.length acc).run P w = .ok (acc ++ xs.toArray) w := by
  induction xs with
  | nil => intro i acc _; simp [loadCellsFrom]
  | cons x xs ih =>
    intro i acc h
    have h0 := h 0 x rfl
    simp only [List.length_cons,loadCellsFrom,Sem.run_bind,run_load,add_plain]
    rw [show o + i = o + (i + 0) by omega,h0]
    simp only [Result.andThen_ok]
    rw [ih (i + 1) (acc.push x) (fun j y hj => by have := h (j + 1) y (by simpa using hj); rw [← this]; congr 2; omega)]
    simp
structure TI (P : Program) (T : TypeId) (agg : Bool) (sz : Nat) : Prop where
  agg : ∀ w,(isAgg T).run P w = .ok agg w
  size : ∀ w,(sizeOf T).run P w = .ok sz w
theorem row_vals {s : St} {b o : Nat} {cs : List V} (h : Holds s (.row b o cs)) : ∃ ys,s.vals cs ys ∧ ys.length = cs.length ∧ ∀ j y,ys[j]? = some y → s.imm b (o + j) y := by
  induction cs generalizing o with
  | nil => exact ⟨[],.nil,rfl,fun j y hj => by simp at hj⟩
  | cons c cs ih =>
    cases h with
    | rowCons _ _ _ y _ hone h0 h1 h2 =>
      obtain ⟨ys,k1,k2,k3⟩ := ih h2
      refine ⟨y :: ys,.cons _ _ _ _ h1 k1,by simp [k2],fun j z hj => ?_⟩
      cases j with
      | zero => simp at hj; subst hj; exact h0
      | succ j => have := k3 j z (by simpa using hj); rw [show o + (j + 1) = o + 1 + j by omega]; exact this
def pickCells (agg : Bool) (sz : Nat) (cs : List V) (off : Nat) : Option V :=
  match agg with
  | true => if off + sz ≤ cs.length then some (.agg ((cs.drop off).take sz)) else none
  | false => cs[off]?
theorem run_loadVar {P : Program} {T : TypeId} {agg : Bool} {sz : Nat} (ti : TI P T agg sz) {s : St} {b o : Nat} {cs : List V} {ys : List Value} (hone : ones cs = true) (h : s.vals cs ys)
    (hc : ∀ j y,ys[j]? = some y → s.w.cell? ⟨b,o + j,none⟩ = some y) {off : Nat} {v : V} (hp : pickCells agg sz cs off = some v) :
    ∃ x,(loadVar T ⟨b,o + off,none⟩).run P s.w = .ok x s.w ∧ s.val v x := by
  have hl := vals_length h
  cases agg with
  | false =>
    obtain ⟨y,hy,hv⟩ := vals_get h hp
    refine ⟨y,?_,hv⟩
    simp only [loadVar,Sem.run_bind,ti.agg,Result.andThen_ok,Bool.false_eq_true,if_false,run_load,hc off y hy]
  | true =>
    simp only [pickCells] at hp
    split at hp
    · rename_i hle
      cases hp
      refine ⟨.agg ((ys.drop off).take sz).toArray,?_,.agg _ _ (ones_take (ones_drop hone _) _) ?_⟩
      · have hlen : ((ys.drop off).take sz).length = sz := by simp; omega
        have := run_loadCellsFrom P s.w b (o + off) ((ys.drop off).take sz) 0 #[] (fun j y hj => by
          have hj' : ys[off + j]? = some y := by
            rw [List.getElem?_take] at hj
            split at hj
            · simpa using hj
            · cases hj
          have := hc _ _ hj'
          rw [← this]; congr 2; omega)
        rw [hlen] at this
        simp only [loadVar,Sem.run_bind,ti.agg,Result.andThen_ok,if_true,ti.size,loadCells,this]
        simp
      · have hd : ∀ (n : Nat) (cs : List V) (ys : List Value),s.vals cs ys → s.vals (cs.drop n) (ys.drop n) := by
          intro n
          induction n with
          | zero => intro cs ys h; exact h
          | succ n ih => intro cs ys h; cases h with | nil => exact .nil | cons _ _ _ _ h1 h2 => exact ih _ _ h2
        have ht : ∀ (n : Nat) (cs : List V) (ys : List Value),s.vals cs ys → s.vals (cs.take n) (ys.take n) := by
          intro n
          induction n with
          | zero => intro cs ys h; exact .nil
          | succ n ih => intro cs ys h; cases h with | nil => exact .nil | cons _ _ _ _ h1 h2 => exact .cons _ _ _ _ h1 (ih _ _ h2)
        exact ht _ _ _ (hd _ _ _ h)
    · cases hp
theorem obj_cell {w : World} {b : Nat} {ys : Array Value} {T : TypeId} {fr : Nat × Nat} (h : w.heap[b]? = some (.cells ys T fr)) (o : Nat) : w.cell? ⟨b,o,none⟩ = ys[o]? := by
  simp [World.cell?,h]
/-! ### Stores into an object -/
theorem one_val {s : St} {v : V} {x : Value} (h : s.val v x) (h1 : v.one = true) : x.oneCell' = true := by
  cases h <;> first | rfl | (simp [V.one] at h1)
def over : List V → Nat → List V → List V
  | cs,_,[] => cs
  | cs,o,v :: vs => over (cs.set o v) (o + 1) vs
def overW : Array Value → Nat → List Value → Array Value
  | ys,_,[] => ys
  | ys,o,v :: vs => overW (ys.setIfInBounds o v) (o + 1) vs
theorem overW_size (ys : Array Value) (o : Nat) (xs : List Value) : (overW ys o xs).size = ys.size := by
  induction xs generalizing ys o with
  | nil => rfl
  | cons x xs ih => simp [overW,ih]
theorem ones_set {cs : List V} (h : ones cs = true) (i : Nat) {v : V} (hv : v.one = true) : ones (cs.set i v) = true := by
  simp only [ones,List.all_eq_true] at h ⊢
  intro x hx
  rcases List.mem_or_eq_of_mem_set hx with h1 | h1
  · exact h x h1
  · subst h1; exact hv
theorem ones_over {cs vs : List V} (h : ones cs = true) (o : Nat) (hv : ones vs = true) : ones (over cs o vs) = true := by
  induction vs generalizing cs o with
  | nil => exact h
  | cons v vs ih =>
    rw [ones_cons,Bool.and_eq_true] at hv
    exact ih (ones_set h o hv.1) (o + 1) hv.2
theorem vals_set {s : St} {cs : List V} {ys : List Value} (h : s.vals cs ys) (i : Nat) {v : V} {x : Value} (hv : s.val v x) : s.vals (cs.set i v) (ys.set i x) := by
  induction cs generalizing ys i with
  | nil => cases h; exact .nil
  | cons c cs ih =>
    cases h with
    | cons _ y _ ys h1 h2 =>
      cases i with
      | zero => exact .cons _ _ _ _ hv h2
      | succ i => exact .cons _ _ _ _ h1 (ih h2 i)
theorem vals_over {s : St} {cs vs : List V} {ys : Array Value} {xs : List Value} (h : s.vals cs ys.toList) (o : Nat) (hv : s.vals vs xs) : s.vals (over cs o vs) (overW ys o xs).toList := by
  induction vs generalizing cs ys o xs with
  | nil => cases hv; exact h
  | cons v vs ih =>
    cases hv with
    | cons _ x _ xs h1 h2 =>
      refine ih (o := o + 1) ?_ h2
      have := vals_set h o h1
      simpa using this
def setBlock (w : World) (b : Nat) (o : Obj) : World := { w with heap := w.heap.setIfInBounds b o }
theorem heap_setBlock_ne {w : World} {b c : Nat} {o : Obj} (h : c ≠ b) : (setBlock w b o).heap[c]? = w.heap[c]? := by
  simp [setBlock,Array.getElem?_setIfInBounds_ne (Ne.symm h)]
theorem heap_setBlock_same {w : World} {b : Nat} {o : Obj} (h : b < w.heap.size) : (setBlock w b o).heap[b]? = some o := by
  simp [setBlock,h]
theorem setCell_eq {w : World} {b : Nat} {ys : Array Value} {T : TypeId} {fr : Nat × Nat} (h : w.heap[b]? = some (.cells ys T fr)) (o : Nat) (v : Value) :
    w.setCell ⟨b,o,none⟩ v = setBlock w b (.cells (ys.setIfInBounds o v) T fr) := by
  simp only [World.setCell,setBlock]
  congr 1
  apply Array.ext_getElem?
  intro i
  rw [Array.getElem?_modify,Array.getElem?_setIfInBounds]
  by_cases e : b = i
  · subst e
    have : b < w.heap.size := by
      by_cases hb : b < w.heap.size
      · exact hb
      · rw [Array.getElem?_eq_none (by omega)] at h; cases h
    have hg : w.heap[b] = .cells ys T fr := by rw [Array.getElem?_eq_getElem this] at h; exact Option.some.inj h
    simp [this,hg]
  · simp [e]
theorem run_storeCells {P : Program} {b : Nat} {T : TypeId} {fr : Nat × Nat} (xs : List Value) : ∀ (w : World) (ys : Array Value) (o : Nat) (i : Nat),w.heap[b]? = some (.cells ys T fr) → NF fr ys.size → (∀ x ∈ xs,x.oneCell' = true) → o + i + xs.length ≤ ys.size →
    (storeCells ⟨b,o,none⟩ xs i).run P w = .ok () (setBlock w b (.cells (overW ys (o + i) xs) T fr)) := by
  induction xs with
  | nil =>
    intro w ys o i h _ _ _
    simp only [storeCells,Sem.run_pure,overW,setBlock]
    congr 1
    obtain ⟨heap,tape,drawn,os,out⟩ := w
    simp only at h ⊢
    congr 1
    apply Array.ext_getElem?
    intro j
    rw [Array.getElem?_setIfInBounds]
    split
    · rename_i e; subst e
      split
      · exact h
      · rename_i hb; rw [Array.getElem?_eq_none (by omega)] at h; cases h
    · rfl
  | cons x xs ih =>
    intro w ys o i h hnf h1 hl
    have hb : b < w.heap.size := by
      by_cases hb : b < w.heap.size
      · exact hb
      · rw [Array.getElem?_eq_none (by omega)] at h; cases h
    simp only [List.length_cons] at hl
    have hx : (w.cell? ⟨b,o + i,none⟩) = some (ys[o + i]'(by omega)) := by rw [obj_cell h,Array.getElem?_eq_getElem]
    have hfz : w.frozen? ⟨b,o + i,none⟩ = false := by
      obtain ⟨lo,hi⟩ := fr
      simp only [NF] at hnf
      simp only [World.frozen?,h,Bool.and_eq_false_iff,decide_eq_false_iff_not]
      omega
    simp only [storeCells,Sem.run_bind,add_plain]
    rw [run_store P w _ x _ (h1 x (by simp)),hx]
    simp only [hfz,Bool.false_eq_true,if_false,Result.andThen_ok]
    rw [setCell_eq h]
    rw [ih _ (ys.setIfInBounds (o + i) x) o (i + 1) (heap_setBlock_same hb) (by simpa using hnf) (fun y hy => h1 y (by simp [hy])) (by simp; omega)]
    simp only [overW,setBlock,Array.setIfInBounds_setIfInBounds]
    rw [show o + (i + 1) = o + i + 1 by omega]
theorem overW_append {ys zs : Array Value} {o : Nat} {xs : List Value} (h : o + xs.length ≤ ys.size) : overW (ys ++ zs) o xs = overW ys o xs ++ zs := by
  induction xs generalizing ys o with
  | nil => rfl
  | cons x xs ih =>
    simp only [List.length_cons] at h
    simp only [overW]
    rw [← ih (by simp; omega)]
    congr 1
    apply Array.ext_getElem?
    intro j
    simp only [Array.getElem?_setIfInBounds,Array.getElem?_append,Array.size_append,Array.size_setIfInBounds]
    by_cases e : o = j
    · subst e; rw [if_pos rfl,if_pos (by omega),if_pos (by omega),if_pos rfl,if_pos (by omega)]
    · simp only [e,if_false]
def St.write (s : St) (b : Nat) (o : Obj) : St := { s with w := setBlock s.w b o }
theorem St.ext_write {s : St} {b k : Nat} (hb : s.role b = some (k,0)) (o : Obj) : Ext s (s.write b o) := by
  refine ⟨rfl,rfl,rfl,⟨rfl,fun _ => by first | exact Nat.le_refl _ | exact Nat.le_succ _⟩,by simp [St.write,setBlock],fun c hc h => ?_,fun c i e hc h => ?_,fun _ _ h => h,fun _ st h => ⟨st,h,.inl rfl⟩,Nat.le_refl _⟩
  · have : c ≠ b := fun e => by subst e; rw [hb] at h; cases h
    exact ⟨h,heap_setBlock_ne this⟩
  · refine ⟨.inr ⟨e,Nat.le_refl _,h⟩,fun x hx => ?_⟩
    have : c ≠ b := fun e' => by subst e'; rw [hb] at h; cases h; omega
    exact cell_of_block (heap_setBlock_ne this) x
theorem HRel.write {s : St} {H : AH} (hr : HRel s H) {b k : Nat} (hb : s.role b = some (k,0)) (o : Obj) (ao : AObj) (ho : ORel (s.write b o) k ao) : HRel (s.write b o) (H.put k ao) := by
  refine ⟨fun i p hi => ?_,fun i p hi => ?_,hr.blk,hr.tok,fun c i e he => ?_⟩
  · by_cases e : i = k
    · subst e; rw [AH.put_same] at hi; cases hi; exact ho
    · rw [AH.put_ne _ _ e] at hi
      refine ORel.keep (St.ext_write hb o) (fun c e' he => ⟨rfl,?_⟩) rfl (hr.obj i p hi)
      exact heap_setBlock_ne (fun e2 => by subst e2; rw [hb] at he; cases he; exact e rfl)
  · show i < s.nx
    by_cases e : i = k
    · subst e; exact (hr.role _ _ _ hb).1
    · rw [AH.put_ne _ _ e] at hi; exact hr.lt i p hi
  · have := hr.role c i e he
    exact ⟨this.1,by simpa [St.write,setBlock] using this.2⟩
end Go.Vm
