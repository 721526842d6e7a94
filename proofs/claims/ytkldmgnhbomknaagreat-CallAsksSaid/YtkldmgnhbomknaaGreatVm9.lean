/- Appending, sound. -/
import Derived.Test.YtkldmgnhbomknaaGreatVm8
set_option linter.unusedVariables false
set_option linter.unusedSimpArgs false
namespace Go.Vm
theorem bytesT_run {P : Program} {T : TypeId} {n sz : Nat} (h : bytesT P T = some n) (hs : sizeT P T = some sz) : ∃ i,P.info? T = some i ∧ i.bytes = n ∧ i.size = sz := by
  simp only [bytesT,Option.map_eq_some_iff] at h
  obtain ⟨i,h1,rfl⟩ := h
  simp only [sizeT,h1,Option.map_some,Option.some.injEq] at hs
  exact ⟨i,h1,rfl,hs⟩
theorem run_append_new {P : Program} {T U e : TypeId} {d : TypeDesc} {i : TypeInfo} {z : Value} (ty : TypeId) (hT : P.underlying T = some (.slice e)) (hU : P.underlying U = some d) (hd : ∀ k,d ≠ .int k) (hi : P.info? e = some i) (hz : i.zero = some z) {w : World} {x : Value} {m : Nat} {olds ys : Array Value} {base : Option Addr} {n cap : Nat}
    (hl : (Builtin.lenOf x).run P w = .ok m w) (hf : (Builtin.firstCells i.size m x).run P w.drew = .ok ys w.drew) (ho : (Builtin.firstCells i.size n (.slice base n cap)).run P w.drew = .ok olds w.drew) (hg : cap < n + m) (h0 : 0 < i.bytes) (hb : (n + m) * i.bytes ≤ 140737488355328) :
    (Builtin.append_ #[T,U] ty #[.slice base n cap,x]).run P w =
      .ok (.slice (some ⟨w.heap.size,0,none⟩) (n + m) (grownCap w (n + m) cap e)) (w.drew.alloc (.cells (olds ++ ys ++ Builtin.zeroCells z.cells (grownCap w (n + m) cap e - (n + m))) e)) := by
  have hdi : (match d with | .int _ => true | _ => false) = false := by cases d <;> first | rfl | (exact absurd rfl (hd _))
  have hroom : ¬ n + m ≤ cap := by omega
  have h63 : ¬ (9223372036854775807 < (n : Int) + (m : Int)) := by
    have : n + m ≤ (n + m) * i.bytes := Nat.le_mul_of_pos_right _ h0
    omega
  have h48 : ¬ (281474976710656 < Builtin.nextslicecap (n + m) cap * i.bytes) := by
    have := growslice_fits (bytes := i.bytes) hg hb
    omega
  simp [Builtin.append_,run_underlying' hT,run_underlying' hU,sizeOf,typeInfo,zeroValue,hi,hz,hdi,hl,hroom,h63,h48,Question.forced,newRow,grownCap,ho,hf]
def St.grow (s : St) (k : Nat) (o : Obj) (e : Nat) (st : TS) : St where
  w := s.w.drew.alloc o
  blk := s.blk
  tok := fun j => if j = k then some st else s.tok j
  role := fun b => if b = s.w.heap.size then some (k,e) else s.role b
  nx := max s.nx (k + 1)
  dr := s.dr
theorem St.ext_grow {s : St} (k : Nat) (o : Obj) (e : Nat) (st : TS) (ht : ∀ st0,s.tok k = some st0 → st0.n < st.n) : Ext s (s.grow k o e st) := by
  refine ⟨rfl,rfl,rfl,⟨rfl,fun _ => by first | exact Nat.le_refl _ | exact Nat.le_succ _⟩,by simp [St.grow],fun b hb h => ⟨by simp only [St.grow]; rw [if_neg (by omega)]; exact h,heap_alloc_lt (w := s.w.drew) hb⟩,fun b i e' hb h => ⟨.inr ⟨e',Nat.le_refl _,by simp only [St.grow]; rw [if_neg (by omega)]; exact h⟩,fun x _ => cell_of_block (heap_alloc_lt (w := s.w.drew) hb) x⟩,fun _ _ h => h,?_,Nat.le_max_left _ _⟩
  intro i st0 h
  by_cases hi : i = k
  · subst hi; exact ⟨st,by simp [St.grow],.inr (ht st0 h)⟩
  · exact ⟨st0,by simp [St.grow,hi,h],.inl rfl⟩
theorem HRel.grow {s : St} {H : AH} (hr : HRel s H) (k : Nat) (o : Obj) (e : Nat) (st : TS) (ht : ∀ st0,s.tok k = some st0 → st0.n < st.n) (ao : AObj) (ho : ORel (s.grow k o e st) k ao) : HRel (s.grow k o e st) (H.put k ao) := by
  have hx := St.ext_grow k o e st ht
  refine ⟨fun i p hi => ?_,fun i p hi => ?_,fun i b hb => ?_,fun i t h => ?_,fun b i e' he => ?_⟩
  · by_cases e1 : i = k
    · subst e1; rw [AH.put_same] at hi; cases hi; exact ho
    · rw [AH.put_ne _ _ e1] at hi
      refine ORel.keep hx (fun b e' he => ?_) (by simp [St.grow,e1]) (hr.obj i p hi)
      have := (hr.role b i e' he).2
      exact ⟨by simp only [St.grow]; rw [if_neg (by omega)],heap_alloc_lt (w := s.w.drew) this⟩
  · show i < max s.nx (k + 1)
    by_cases e1 : i = k
    · omega
    · rw [AH.put_ne _ _ e1] at hi; have := hr.lt i p hi; omega
  · show i < max s.nx (k + 1)
    have := hr.blk i b hb; omega
  · show i < max s.nx (k + 1)
    simp only [St.grow] at h
    split at h
    · omega
    · have := hr.tok i t h; omega
  · simp only [St.grow] at he ⊢
    simp only [World.size_alloc,World.size_drew]
    split at he
    · cases he; omega
    · have := hr.role b i e' he; omega
def St.newTok (s : St) (st : TS) : St := { s with tok := fun i => if i = s.nx then some st else s.tok i,nx := s.nx + 1 }
theorem St.ext_newTok {s : St} {H : AH} (hr : HRel s H) (st : TS) : Ext s (s.newTok st) := by
  refine ⟨rfl,rfl,rfl,⟨rfl,fun _ => by first | exact Nat.le_refl _ | exact Nat.le_succ _⟩,Nat.le_refl _,fun b hb h => ⟨h,rfl⟩,fun b k e hb h => ⟨.inr ⟨e,Nat.le_refl _,h⟩,fun _ _ => rfl⟩,fun _ _ h => h,fun k st0 h => ⟨st0,?_,.inl rfl⟩,Nat.le_succ _⟩
  simp only [St.newTok]
  rw [if_neg (by have := hr.tok k st0 h; omega)]
  exact h
theorem HRel.newTok {s : St} {H : AH} (hr : HRel s H) (sz : Nat) (a : Option Addr) : HRel (s.newTok ⟨0,.slice a 0 0⟩) (H.put s.nx (.top sz 0)) := by
  have hx := St.ext_newTok hr ⟨0,.slice a 0 0⟩
  refine ⟨fun i p hi => ?_,fun i p hi => ?_,fun i b hb => ?_,fun i t h => ?_,fun b i e he => ?_⟩
  · by_cases e1 : i = s.nx
    · subst e1; rw [AH.put_same] at hi; cases hi
      exact ⟨⟨0,.slice a 0 0⟩,by simp [St.newTok],rfl,.inl ⟨rfl,a,rfl⟩⟩
    · rw [AH.put_ne _ _ e1] at hi
      exact ORel.keep hx (fun b e he => ⟨rfl,rfl⟩) (by simp [St.newTok,e1]) (hr.obj i p hi)
  · show i < s.nx + 1
    by_cases e1 : i = s.nx
    · omega
    · rw [AH.put_ne _ _ e1] at hi; have := hr.lt i p hi; omega
  · show i < s.nx + 1
    have := hr.blk i b hb; omega
  · show i < s.nx + 1
    simp only [St.newTok] at h
    split at h
    · omega
    · have := hr.tok i t h; omega
  · have := hr.role b i e he
    exact ⟨by show i < s.nx + 1; omega,this.2⟩
def St.fill (s : St) (k b : Nat) (o : Obj) (e : Nat) (st : TS) : St where
  w := setBlock s.w b o
  blk := s.blk
  tok := fun j => if j = k then some st else s.tok j
  role := fun c => if c = b then some (k,e) else s.role c
  nx := s.nx
  dr := s.dr
theorem overW_keep {ys : Array Value} (xs : List Value) {o j : Nat} (h : j < o) : (overW ys o xs)[j]? = ys[j]? := by
  induction xs generalizing ys o with
  | nil => rfl
  | cons x xs ih =>
    simp only [overW]
    rw [ih (by omega),Array.getElem?_setIfInBounds_ne (by omega)]
theorem overW_at {ys : Array Value} (xs : List Value) {o : Nat} (h : o + xs.length ≤ ys.size) (j : Nat) (hj : j < xs.length) : (overW ys o xs)[o + j]? = xs[j]? := by
  induction xs generalizing ys o j with
  | nil => simp at hj
  | cons x xs ih =>
    simp only [overW,List.length_cons] at *
    cases j with
    | zero =>
      rw [Nat.add_zero,overW_keep xs (by omega)]
      rw [Array.getElem?_setIfInBounds]; simp; omega
    | succ j =>
      rw [show o + (j + 1) = o + 1 + j by omega,ih (by simp; omega) j (by omega)]
      simp
theorem St.ext_fill {s : St} {k b e0 : Nat} {ys : Array Value} {T : TypeId} (hb : s.role b = some (k,e0)) (hh : s.w.heap[b]? = some (.cells ys T (0,0))) (xs : List Value) (e : Nat) (he : e0 ≤ e) (st : TS) (ht : ∀ st0,s.tok k = some st0 → st0.n < st.n) :
    Ext s (s.fill k b (.cells (overW ys e0 xs) T (0,0)) e st) := by
  have hlt : b < s.w.heap.size := by
    by_cases h : b < s.w.heap.size
    · exact h
    · rw [Array.getElem?_eq_none (by omega)] at hh; cases hh
  refine ⟨rfl,rfl,rfl,⟨rfl,fun _ => by first | exact Nat.le_refl _ | exact Nat.le_succ _⟩,by simp [St.fill,setBlock],fun c hc h => ?_,fun c i e' hc h => ?_,fun _ _ h => h,?_,Nat.le_refl _⟩
  · have hne : c ≠ b := fun e => by subst e; rw [hb] at h; cases h
    exact ⟨by simp only [St.fill]; rw [if_neg hne]; exact h,heap_setBlock_ne hne⟩
  · by_cases hne : c = b
    · subst hne
      rw [hb] at h; cases h
      refine ⟨.inr ⟨e,he,by simp [St.fill]⟩,fun x hx => ?_⟩
      rw [obj_cell hh,obj_cell (w := (s.fill k c (.cells (overW ys e0 xs) T (0,0)) e st).w) (heap_setBlock_same hlt)]
      exact overW_keep xs hx
    · exact ⟨.inr ⟨e',Nat.le_refl _,by simp only [St.fill]; rw [if_neg hne]; exact h⟩,fun x _ => cell_of_block (heap_setBlock_ne hne) x⟩
  · intro i st0 h
    by_cases hi : i = k
    · subst hi; exact ⟨st,by simp [St.fill],.inr (ht st0 h)⟩
    · exact ⟨st0,by simp [St.fill,hi,h],.inl rfl⟩
theorem HRel.fill {s : St} {H : AH} (hr : HRel s H) {k b e0 : Nat} (hb : s.role b = some (k,e0)) (o : Obj) (e : Nat) (st : TS) (hx : Ext s (s.fill k b o e st)) (ao : AObj) (ho : ORel (s.fill k b o e st) k ao) : HRel (s.fill k b o e st) (H.put k ao) := by
  have hk := hr.role b k e0 hb
  refine ⟨fun i p hi => ?_,fun i p hi => ?_,hr.blk,fun i t h => ?_,fun c i e' he => ?_⟩
  · by_cases e1 : i = k
    · subst e1; rw [AH.put_same] at hi; cases hi; exact ho
    · rw [AH.put_ne _ _ e1] at hi
      refine ORel.keep hx (fun c e' he => ?_) (by simp [St.fill,e1]) (hr.obj i p hi)
      have hne : c ≠ b := fun e2 => by subst e2; rw [hb] at he; cases he; exact e1 rfl
      exact ⟨by simp only [St.fill]; rw [if_neg hne],heap_setBlock_ne hne⟩
  · show i < s.nx
    by_cases e1 : i = k
    · subst e1; exact hk.1
    · rw [AH.put_ne _ _ e1] at hi; exact hr.lt i p hi
  · show i < s.nx
    simp only [St.fill] at h
    split at h
    · rename_i e1; subst e1; exact hk.1
    · exact hr.tok i t h
  · simp only [St.fill] at he ⊢
    have hsz : (setBlock s.w b o).heap.size = s.w.heap.size := by simp [setBlock]
    rw [hsz]
    split at he
    · rename_i e1; cases he; subst e1; exact hk
    · exact hr.role c i e' he
def Apd (P : Program) (s : St) (H : AH) (m : Sem Value) (sz : Nat) (es : List (List V)) (i : Nat) : Prop :=
  ∃ s' x,m.run P s.w = .ok x s'.w ∧ Ext s s' ∧ HRel s' (H.put i (.top sz es.length)) ∧ s'.val (.sl sz es (.id i)) x
theorem first_old {P : Program} {s : St} {b o sz : Nat} {es : List (List V)} (h : Holds s (.els b o sz es)) (cap : Nat) : ∃ ys : List Value,s.vals es.flatten ys ∧ ys.length = es.length * sz ∧ ∀ w,(∀ b o,b < s.w.heap.size → w.cell? ⟨b,o,none⟩ = s.w.cell? ⟨b,o,none⟩) → (Builtin.firstCells sz es.length (.slice (some ⟨b,o,none⟩) es.length cap)).run P w = .ok ys.toArray w := by
  obtain ⟨k1,k2⟩ := els_flatten h
  obtain ⟨ys,y1,y2,y3⟩ := row_vals k1
  refine ⟨ys,y1,by rw [y2,k2],fun w hw => ?_⟩
  simp only [Builtin.firstCells]
  have := run_loadCellsFrom P w b o ys 0 #[] (fun j y hj => by
    have := (y3 j y hj).1
    have hb := cell_block_lt this
    rw [show o + (0 + j) = o + j by omega,hw b (o + j) hb]; exact this)
  rw [y2,k2] at this
  simpa [loadCells] using this
theorem apd_new {P : Program} {T U e : TypeId} {d : TypeDesc} {sz bytes : Nat} (ty : TypeId) (hT : P.underlying T = some (.slice e)) (hU : P.underlying U = some d) (hd : ∀ k,d ≠ .int k) (hsz : sizeT P e = some sz) (hby : bytesT P e = some bytes) {zc : List V} (hzero : zeroOf P e = some zc) (hzl : zc.length = sz) (h0 : 0 < bytes)
    {s : St} {H : AH} (hr : HRel s H) {x : Value} {es fs : List (List V)} {ys : List Value} (hsrc : Src P s sz x fs ys) {base : Option Addr} {cap : Nat} {olds : List Value} (holds : s.vals es.flatten olds) (hlo : olds.length = es.length * sz) (hone : ones es.flatten = true) (hlen : ∀ c ∈ es,c.length = sz)
    (hfo : ∀ w,(∀ b o,b < s.w.heap.size → w.cell? ⟨b,o,none⟩ = s.w.cell? ⟨b,o,none⟩) → (Builtin.firstCells sz es.length (.slice base es.length cap)).run P w = .ok olds.toArray w)
    (hg : cap < es.length + fs.length) (hb : (es.length + fs.length) * bytes ≤ 140737488355328) (i : Nat) (hi : i ≤ s.nx) (ht : ∀ st0,s.tok i = some st0 → st0.n < es.length + fs.length) :
    Apd P s H (Builtin.append_ #[T,U] ty #[.slice base es.length cap,x]) sz (es ++ fs) i := by
  obtain ⟨info,i1,rfl,rfl⟩ := bytesT_run hby hsz
  have hzc := hzero
  unfold zeroOf at hzc
  rw [i1] at hzc
  simp only at hzc
  split at hzc
  case h_2 => cases hzc
  rename_i z hz
  have hzs : z.cells.size = info.size := by
    simp only [Option.map_eq_some_iff] at hzc
    obtain ⟨v,hv,rfl⟩ := hzc
    have := vals_length (val_cells (s := s) (valOf_holds hv))
    rw [← hzl,← this]; simp
  have hcell : ∀ b o,b < s.w.heap.size → (s.w.drew).cell? ⟨b,o,none⟩ = s.w.cell? ⟨b,o,none⟩ := fun _ _ _ => rfl
  have hrun := run_append_new ty hT hU hd i1 hz (hsrc.lenOf s.w) (hsrc.first fs.length s.w.drew hcell rfl) (hfo s.w.drew hcell) hg h0 hb
  let cells : Array Value := olds.toArray ++ ys.toArray ++ Builtin.zeroCells z.cells (grownCap s.w (es.length + fs.length) cap e - (es.length + fs.length))
  let v : Value := .slice (some ⟨s.w.heap.size,0,none⟩) (es.length + fs.length) (grownCap s.w (es.length + fs.length) cap e)
  let st : TS := ⟨es.length + fs.length,v⟩
  let E := (es.length + fs.length) * info.size
  have hx := St.ext_grow (s := s) i (.cells cells e (0,0)) E st ht
  have hheap : (s.grow i (.cells cells e (0,0)) E st).w.heap[s.w.heap.size]? = some (.cells cells e (0,0)) := heap_alloc_new (w := s.w.drew)
  have hge := grownCap_ge s.w (es.length + fs.length) cap e
  have hcap : cells.size = E + (grownCap s.w (es.length + fs.length) cap e - (es.length + fs.length)) * z.cells.size := by
    simp only [cells,Array.size_append,List.size_toArray,size_zeroCells,hlo,hsrc.len,E,Nat.add_mul]
  have hrole : (s.grow i (.cells cells e (0,0)) E st).role s.w.heap.size = some (i,0 + st.n * info.size) := by simp [St.grow,E,st]
  refine ⟨s.grow i (.cells cells e (0,0)) E st,v,hrun,hx,?_,?_⟩
  · rw [List.length_append]
    refine hr.grow i _ E st ht _ ⟨st,by simp [St.grow],rfl,.inr ⟨s.w.heap.size,0,_,cells,e,rfl,hrole,hheap,?_,hge⟩⟩
    rw [hcap,hzs,Nat.zero_add,← Nat.add_mul]
    exact Nat.mul_le_mul_right _ (by omega)
  · have hels : Holds (s.grow i (.cells cells e (0,0)) E st) (.els s.w.heap.size 0 info.size (es ++ fs)) := by
      refine els_of_cells hheap (es ++ fs) 0 (fun c hc => ?_) (by rw [List.flatten_append]; exact ones_append hone hsrc.ones) ?_ (fun k e' he => ?_)
      · rcases List.mem_append.1 hc with hc | hc
        · exact hlen c hc
        · exact hsrc.lens c hc
      · have hv := vals_append (holds.mono hx) (hsrc.vals.mono hx)
        rw [List.flatten_append]
        have : (cells.toList.drop 0).take ((es ++ fs).length * info.size) = olds ++ ys := by
          simp only [cells,List.drop_zero,Array.toList_append]
          rw [List.take_append_of_le_length (by simp [hlo,hsrc.len,Nat.add_mul])]
          rw [List.take_of_length_le (by simp [hlo,hsrc.len,Nat.add_mul])]
        rw [this]
        exact hv
      · rw [hrole] at he; cases he; simp [st]
    have := Holds.sl info.size (es ++ fs) (.id i) s.w.heap.size 0 (grownCap s.w (es.length + fs.length) cap e) hels (by simpa using hge) ⟨st,by simp [St.grow],by simp [st],fun _ => by simp [st,v]⟩
    rw [List.length_append] at this
    exact this
theorem apd_same {P : Program} {T U e : TypeId} {d : TypeDesc} {sz : Nat} (ty : TypeId) (hT : P.underlying T = some (.slice e)) (hU : P.underlying U = some d) (hd : ∀ k,d ≠ .int k) (hsz : sizeT P e = some sz)
    {s : St} {x : Value} {ys : List Value} (hsrc : Src P s sz x [] ys) (base : Option Addr) (n cap : Nat) (hc : n ≤ cap) (_ : True) :
    (Builtin.append_ #[T,U] ty #[.slice base n cap,x]).run P s.w = .ok (.slice base n cap) s.w := by
  have hl := hsrc.len
  simp only [List.length_nil,Nat.zero_mul] at hl
  obtain rfl := List.length_eq_zero_iff.1 hl
  have := run_append_no ty hT hU hd hsz (hsrc.lenOf s.w) (hsrc.first 0 s.w (fun _ _ _ => rfl) rfl) base n cap (by simpa using hc)
  simp only [List.length_nil] at this
  rw [this]
  cases base <;> simp [storeCells]
theorem apd_room {P : Program} {T U e : TypeId} {d : TypeDesc} {sz : Nat} (ty : TypeId) (hT : P.underlying T = some (.slice e)) (hU : P.underlying U = some d) (hd : ∀ k,d ≠ .int k) (hsz : sizeT P e = some sz)
    {s : St} {H : AH} (hr : HRel s H) {x : Value} {es fs : List (List V)} {ys : List Value} (hsrc : Src P s sz x fs ys) (hne : fs ≠ []) {b o cap : Nat} (hels : Holds s (.els b o sz es)) {i : Nat} {cur : Array Value} {R : TypeId} (hrole : s.role b = some (i,o + es.length * sz)) (hheap : s.w.heap[b]? = some (.cells cur R (0,0))) (hfit : o + cap * sz ≤ cur.size)
    (hroom : es.length + fs.length ≤ cap) (ht : ∀ st0,s.tok i = some st0 → st0.n = es.length) :
    Apd P s H (Builtin.append_ #[T,U] ty #[.slice (some ⟨b,o,none⟩) es.length cap,x]) sz (es ++ fs) i := by
  have hpos : 0 < fs.length := List.length_pos_iff.2 hne
  have hrun := run_append_no ty hT hU hd hsz (hsrc.lenOf s.w) (hsrc.first fs.length s.w (fun _ _ _ => rfl) rfl) (some ⟨b,o,none⟩) es.length cap hroom
  simp only [add_plain] at hrun
  have hone := fits_one hsrc.vals hsrc.ones
  have hle : o + es.length * sz + ys.length ≤ cur.size := by
    rw [hsrc.len,Nat.add_assoc,← Nat.add_mul]
    exact Nat.le_trans (Nat.add_le_add_left (Nat.mul_le_mul_right _ hroom) _) hfit
  rw [run_storeCells ys s.w cur (o + es.length * sz) 0 hheap (.inl (Nat.le_refl _)) hone (by simpa using hle)] at hrun
  simp only [Result.andThen_ok,Nat.add_zero] at hrun
  let v : Value := .slice (some ⟨b,o,none⟩) (es.length + fs.length) cap
  let st : TS := ⟨es.length + fs.length,v⟩
  let E := o + (es.length + fs.length) * sz
  have hE : o + es.length * sz ≤ E := by simp only [E,Nat.add_mul]; omega
  have ht' : ∀ st0,s.tok i = some st0 → st0.n < st.n := fun st0 h => by have := ht st0 h; simp only [st]; omega
  have hx := St.ext_fill hrole hheap ys E hE st ht'
  have hlt : b < s.w.heap.size := by
    by_cases h : b < s.w.heap.size
    · exact h
    · rw [Array.getElem?_eq_none (by omega)] at hheap; cases hheap
  have hh : (s.fill i b (.cells (overW cur (o + es.length * sz) ys) R (0,0)) E st).w.heap[b]? = some (.cells (overW cur (o + es.length * sz) ys) R (0,0)) := heap_setBlock_same hlt
  have hro : (s.fill i b (.cells (overW cur (o + es.length * sz) ys) R (0,0)) E st).role b = some (i,E) := by simp [St.fill]
  refine ⟨_,v,hrun,hx,?_,?_⟩
  · rw [List.length_append]
    refine hr.fill hrole _ E st hx _ ⟨st,by simp [St.fill],rfl,.inr ⟨b,o,cap,_,R,rfl,by rw [hro],hh,by rw [overW_size]; exact hfit,hroom⟩⟩
  · have h2 : Holds (s.fill i b (.cells (overW cur (o + es.length * sz) ys) R (0,0)) E st) (.els b (o + es.length * sz) sz fs) := by
      refine els_of_cells hh fs (o + es.length * sz) hsrc.lens hsrc.ones ?_ (fun k e' he => ?_)
      · have : ((overW cur (o + es.length * sz) ys).toList.drop (o + es.length * sz)).take (fs.length * sz) = ys := by
          apply List.ext_getElem?
          intro j
          rw [List.getElem?_take]
          by_cases hj : j < fs.length * sz
          · rw [if_pos hj,List.getElem?_drop,Array.getElem?_toList]
            exact overW_at ys hle j (by rw [hsrc.len]; exact hj)
          · rw [if_neg hj,List.getElem?_eq_none (by rw [hsrc.len]; omega)]
        rw [this]
        exact hsrc.vals.mono hx
      · rw [hro] at he; cases he; simp only [E,Nat.add_mul]; omega
    have := Holds.sl sz (es ++ fs) (.id i) b o cap (els_append (hels.mono hx) h2) (by simpa using hroom) ⟨st,by simp [St.fill],by simp [st],fun _ => by simp [st,v]⟩
    rw [List.length_append] at this
    exact this
theorem app_sound {P : Program} {T U e : TypeId} {d : TypeDesc} {sz bytes : Nat} (ty : TypeId) (hT : P.underlying T = some (.slice e)) (hU : P.underlying U = some d) (hd : ∀ k,d ≠ .int k) (hsz : sizeT P e = some sz) (hby : bytesT P e = some bytes) {zc : List V} (hzero : zeroOf P e = some zc) (hzl : zc.length = sz) (h0 : 0 < bytes)
    {s : St} {H : AH} (hr : HRel s H) {u v : V} {x y : Value} (hu : s.val u x) (hv : s.val v y) {fs : List (List V)} (hf : elemsH H sz v = some fs) {k : V → AH → Prop} (h : vapp H sz bytes fs k u) :
    ∃ s' z q H',(Builtin.append_ #[T,U] ty #[x,y]).run P s.w = .ok z s'.w ∧ Ext s s' ∧ HRel s' H' ∧ s'.val q z ∧ k q H' := by
  obtain ⟨ys,hsrc⟩ := src_ofH (P := P) hr hv hf
  -- a slice that has no room
  have tight : ∀ (es : List (List V)) (base : Option Addr) (olds : List Value),x = .slice base es.length es.length → True → min es.length 1 ≤ fs.length → s.vals es.flatten olds → olds.length = es.length * sz → ones es.flatten = true → (∀ c ∈ es,c.length = sz) →
      (∀ w,(∀ b o,b < s.w.heap.size → w.cell? ⟨b,o,none⟩ = s.w.cell? ⟨b,o,none⟩) → (Builtin.firstCells sz es.length (.slice base es.length es.length)).run P w = .ok olds.toArray w) →
      (fs = [] → ∀ s' : St,Ext s s' → (∃ st,s'.tok s.nx = some st ∧ st.n = es.length ∧ st.v = x) → s'.val (.sl sz es (.id s.nx)) x) →
      (es.length + fs.length) * bytes ≤ 140737488355328 → (∀ i,H i = none → k (.sl sz (es ++ fs) (.id i)) (H.put i (.top sz (es.length + fs.length)))) → ∃ s' z q H',(Builtin.append_ #[T,U] ty #[x,y]).run P s.w = .ok z s'.w ∧ Ext s s' ∧ HRel s' H' ∧ s'.val q z ∧ k q H' := by
    intro es base olds hx hsp hez holds hlo hone hlen hfo hsame hb hk
    subst hx
    have hk := hk s.nx hr.fresh
    by_cases hne : fs = []
    · subst hne
      obtain rfl : es = [] := List.length_eq_zero_iff.1 (by simp only [List.length_nil] at hez; omega)
      have hrun := apd_same ty hT hU hd hsz hsrc base 0 0 (Nat.le_refl _) hsp
      have hx := St.ext_newTok hr ⟨0,.slice base 0 0⟩
      refine ⟨s.newTok ⟨0,.slice base 0 0⟩,_,_,_,hrun,hx,hr.newTok sz base,hsame rfl _ hx ⟨⟨0,.slice base 0 0⟩,by simp [St.newTok],rfl,rfl⟩,?_⟩
      simpa using hk
    · have hpos : 0 < fs.length := List.length_pos_iff.2 hne
      obtain ⟨s',z,h1,h2,h3,h4⟩ := apd_new ty hT hU hd hsz hby hzero hzl h0 hr hsrc holds hlo hone hlen hfo (by omega) hb s.nx (Nat.le_refl _) (fun st0 h => absurd (hr.tok _ _ h) (by omega))
      rw [List.length_append] at h3
      exact ⟨s',z,_,_,h1,h2,h3,h4,hk⟩
  cases u <;> simp only [vapp] at h <;> try exact h.elim
  case nilSl =>
    obtain rfl := inv_nilSl hu
    obtain ⟨hb,hk⟩ := h
    refine tight [] none [] rfl (by simp) (Nat.zero_le _) .nil (by simp) rfl (by simp) (fun w _ => rfl) (fun _ s' _ ⟨st,a1,a2,a3⟩ => .slNil _ _ ⟨st,a1,by omega,fun _ => a3.symm⟩) (by simpa using hb) (fun i hi => by simpa using hk i hi)
  case sl z es t =>
    cases t <;> simp only at h <;> try exact h.elim
    case tight =>
      obtain ⟨⟨rfl,hez,hb⟩,hk⟩ := h
      rcases inv_sl hu with ⟨rfl,rfl,_⟩ | ⟨ad,cap,rfl,rfl,ht⟩ | ⟨b,o,cap,rfl,he,hc,ht⟩
      · exact tight [] none [] rfl (by simp) (Nat.zero_le _) .nil (by simp) rfl (by simp) (fun w _ => rfl) (fun _ s' _ ⟨st,a1,a2,a3⟩ => .slNil _ _ ⟨st,a1,by omega,fun _ => a3.symm⟩) hb hk
      · have ht' : cap = 0 := ht
        subst ht'
        exact tight [] (some ad) [] rfl (by simp) (Nat.zero_le _) .nil (by simp) rfl (by simp) (fun w _ => by simp [Builtin.firstCells,loadCells,loadCellsFrom]) (fun _ s' _ ⟨st,a1,a2,a3⟩ => .slEmp _ _ _ _ ⟨st,a1,by omega,fun _ => a3.symm⟩) hb hk
      · have ht' : cap = es.length := ht
        subst ht'
        obtain ⟨olds,o1,o2,o3⟩ := first_old (P := P) he es.length
        exact tight es (some ⟨b,o,none⟩) olds rfl (by simp) hez o1 o2 (row_ones (els_flatten he).1) (els_lens he) o3 (fun _ s' hx ⟨st,a1,a2,a3⟩ => .sl _ _ _ _ _ _ (he.mono hx) (Nat.le_refl _) ⟨st,a1,by omega,fun _ => a3.symm⟩) hb hk
    case id i =>
      obtain ⟨ob,hob,h⟩ := need_elim h
      cases ob <;> simp only at h <;> try exact h.elim
      rename_i y' n'
      obtain ⟨⟨hz,hy,hn,hb⟩,hk⟩ := h
      subst hz hy hn
      obtain ⟨st,st1,st2,st3⟩ := hr.obj i _ hob
      -- the slice is the right's own
      have hown : x = st.v := by
        rcases inv_sl hu with ⟨rfl,rfl,a,a1,a2,a3⟩ | ⟨ad,cap,rfl,rfl,a,a1,a2,a3⟩ | ⟨b,o,cap,rfl,he,hc,a,a1,a2,a3⟩
        · rw [st1] at a1; cases a1; exact a3 (by simpa using st2.symm)
        · rw [st1] at a1; cases a1; exact a3 (by simpa using st2.symm)
        · rw [st1] at a1; cases a1; exact a3 st2.symm
      have hput : H.put i (.top y' es.length) = H := by
        funext j; simp only [AH.put]; split
        · rename_i e; subst e; exact hob.symm
        · rfl
      by_cases hne : fs = []
      · subst hne
        have hk' : k (.sl y' es (.id i)) H := by
          have := hk; simp only [List.append_nil,List.length_nil,Nat.add_zero] at this; rw [hput] at this; exact this
        rcases inv_sl hu with ⟨rfl,rfl,a⟩ | ⟨ad,cap,rfl,rfl,a⟩ | ⟨b,o,cap,rfl,he,hc,a⟩
        · exact ⟨s,_,_,H,apd_same ty hT hU hd hsz hsrc none 0 0 (Nat.le_refl _) (by simp),.refl s,hr,hu,hk'⟩
        · exact ⟨s,_,_,H,apd_same ty hT hU hd hsz hsrc (some ad) 0 cap (Nat.zero_le _) (by simp),.refl s,hr,hu,hk'⟩
        · exact ⟨s,_,_,H,apd_same ty hT hU hd hsz hsrc _ es.length cap hc (by simp),.refl s,hr,hu,hk'⟩
      · have hpos : 0 < fs.length := List.length_pos_iff.2 hne
        have fin : Apd P s H (Builtin.append_ #[T,U] ty #[x,y]) y' (es ++ fs) i → ∃ s' z q H',(Builtin.append_ #[T,U] ty #[x,y]).run P s.w = .ok z s'.w ∧ Ext s s' ∧ HRel s' H' ∧ s'.val q z ∧ k q H' := by
          rintro ⟨s',q,h1,h2,h3,h4⟩
          rw [List.length_append] at h3
          exact ⟨s',q,_,_,h1,h2,h3,h4,hk⟩
        have htn : ∀ st0,s.tok i = some st0 → st0.n < es.length + fs.length := fun st0 h => by rw [st1] at h; cases h; omega
        have hin : i ≤ s.nx := Nat.le_of_lt (hr.lt i _ hob)
        rcases inv_sl hu with ⟨rfl,rfl,_⟩ | ⟨ad,cap,rfl,rfl,_⟩ | ⟨b,o,cap,rfl,he,hc,_⟩
        · exact fin (apd_new ty hT hU hd hsz hby hzero hzl h0 hr hsrc (es := []) (olds := []) .nil (by simp) rfl (by simp) (fun w _ => rfl) (by simpa using hpos) hb i hin htn)
        · rcases st3 with ⟨hn0,a,ha⟩ | ⟨b',o',cap',cur,R,g1,g2,g3,g4,g5⟩
          · rw [← hown] at ha
            cases ha
            exact fin (apd_new ty hT hU hd hsz hby hzero hzl h0 hr hsrc (es := []) (olds := []) .nil (by simp) rfl (by simp) (fun w _ => by simp [Builtin.firstCells,loadCells,loadCellsFrom]) (by simpa using hpos) hb i hin htn)
          · rw [← hown,st2] at g1
            cases g1
            rw [st2] at g2
            by_cases hroom : ([] : List (List V)).length + fs.length ≤ cap
            · exact fin (apd_room ty hT hU hd hsz hr hsrc hne (.elsNil _ _ _) g2 g3 g4 hroom (fun st0 h => by rw [st1] at h; cases h; exact st2))
            · exact fin (apd_new ty hT hU hd hsz hby hzero hzl h0 hr hsrc (es := []) (olds := []) .nil (by simp) rfl (by simp) (fun w _ => by simp [Builtin.firstCells,loadCells,loadCellsFrom]) (by omega) hb i hin htn)
        · obtain ⟨olds,o1,o2,o3⟩ := first_old (P := P) he cap
          by_cases hroom : es.length + fs.length ≤ cap
          · rcases st3 with ⟨hn0,a,ha⟩ | ⟨b',o',cap',cur,R,g1,g2,g3,g4,g5⟩
            · rw [← hown] at ha; simp only [Value.slice.injEq] at ha; omega
            · rw [← hown,st2] at g1
              cases g1
              rw [st2] at g2
              exact fin (apd_room ty hT hU hd hsz hr hsrc hne he g2 g3 g4 hroom (fun st0 h => by rw [st1] at h; cases h; exact st2))
          · exact fin (apd_new ty hT hU hd hsz hby hzero hzl h0 hr hsrc o1 o2 (row_ones (els_flatten he).1) (els_lens he) o3 (by omega) hb i hin htn)
theorem appm_sound {P : Program} {T U e : TypeId} {d : TypeDesc} {sz bytes : Nat} (ty : TypeId) (hT : P.underlying T = some (.slice e)) (hU : P.underlying U = some d) (hd : ∀ k,d ≠ .int k) (hsz : sizeT P e = some sz) (hby : bytesT P e = some bytes) {zc : List V} (hzero : zeroOf P e = some zc) (hzl : zc.length = sz) (h0 : 0 < bytes)
    {s : St} {H : AH} (hr : HRel s H) {u v : V} {x y : Value} (hu : s.val u x) (hv : s.val v y) {fs : List (List V)} (hf : elemsH H sz v = some fs) {k : V → AH → Prop} (h : vappm H sz bytes fs k u) :
    ∃ s' z q H',(Builtin.append_ #[T,U] ty #[x,y]).run P s.w = .ok z s'.w ∧ Ext s s' ∧ HRel s' H' ∧ s'.val q z ∧ k q H' := by
  obtain ⟨ys,hsrc⟩ := src_ofH (P := P) hr hv hf
  have key : ∀ (es : List (List V)) (base : Option Addr) (olds : List Value),x = .slice base es.length es.length → s.vals es.flatten olds → olds.length = es.length * sz → ones es.flatten = true → (∀ c ∈ es,c.length = sz) →
      (∀ w,(∀ b o,b < s.w.heap.size → w.cell? ⟨b,o,none⟩ = s.w.cell? ⟨b,o,none⟩) → (Builtin.firstCells sz es.length (.slice base es.length es.length)).run P w = .ok olds.toArray w) →
      appmK H sz bytes es fs u k → ∃ s' z q H',(Builtin.append_ #[T,U] ty #[x,y]).run P s.w = .ok z s'.w ∧ Ext s s' ∧ HRel s' H' ∧ s'.val q z ∧ k q H' := by
    rintro es base olds hx holds hlo hone hlen hfo ⟨k1,k2⟩
    subst hx
    by_cases hne : fs = []
    · subst hne
      exact ⟨s,_,u,H,apd_same ty hT hU hd hsz hsrc base es.length es.length (Nat.le_refl _) trivial,.refl s,hr,hu,k1 rfl⟩
    · have hpos : 0 < fs.length := List.length_pos_iff.2 hne
      obtain ⟨hb,hk⟩ := k2 hne
      obtain ⟨info,i1,rfl,rfl⟩ := bytesT_run hby hsz
      have hzc := hzero
      unfold zeroOf at hzc
      rw [i1] at hzc
      simp only at hzc
      split at hzc
      case h_2 => cases hzc
      rename_i z hz
      have hcell : ∀ b o,b < s.w.heap.size → (s.w.drew).cell? ⟨b,o,none⟩ = s.w.cell? ⟨b,o,none⟩ := fun _ _ _ => rfl
      have hrun := run_append_new ty hT hU hd i1 hz (hsrc.lenOf s.w) (hsrc.first fs.length s.w.drew hcell rfl) (hfo s.w.drew hcell) (by omega) h0 hb
      let zs := Builtin.zeroCells z.cells (grownCap s.w (es.length + fs.length) es.length e - (es.length + fs.length))
      have hge := grownCap_ge s.w (es.length + fs.length) es.length e
      let ob : Obj := .cells (olds.toArray ++ ys.toArray ++ zs) e (0,0)
      let s1 := s.drew.newObj ob
      have hx1 : Ext s s1 := (St.ext_drew s).trans (St.ext_newObj hr.drew ob)
      have hb1 : s1.blk s.nx = some s.w.heap.size := by simp [s1,St.newObj,St.drew]
      refine ⟨s1,_,.msl s.nx info.size 0 (es.length + fs.length),_,hrun,hx1,hr.drew.newObj ob (.cells (es ++ fs).flatten) ⟨s.w.heap.size,olds.toArray ++ ys.toArray,zs,e,(0,0),by simp [St.newObj,St.drew],by simp [St.newObj,St.drew],heap_alloc_new (w := s.w.drew),.inl (Nat.le_refl _),?_,by rw [List.flatten_append]; exact ones_append hone hsrc.ones⟩,?_,hk s.nx hr.fresh⟩
      · have := vals_append (holds.mono hx1) (hsrc.vals.mono hx1)
        rw [List.flatten_append]
        simpa using this
      · exact .msl _ _ _ _ _ _ _ hb1 hge (.inr rfl)
  cases u <;> simp only [vappm] at h <;> try exact h.elim
  case nilSl =>
    obtain rfl := inv_nilSl hu
    exact key [] none [] rfl .nil (by simp) rfl (by simp) (fun w _ => rfl) h
  case sl z es t =>
    cases t <;> simp only [vappm] at h <;> try exact h.elim
    obtain ⟨rfl,h⟩ := h
    rcases inv_sl hu with ⟨rfl,rfl,_⟩ | ⟨ad,cap,rfl,rfl,ht⟩ | ⟨b,o,cap,rfl,he,hc,ht⟩
    · exact key [] none [] rfl .nil (by simp) rfl (by simp) (fun w _ => rfl) h
    · have ht' : cap = 0 := ht
      subst ht'
      exact key [] (some ad) [] rfl .nil (by simp) rfl (by simp) (fun w _ => by simp [Builtin.firstCells,loadCells,loadCellsFrom]) h
    · have ht' : cap = es.length := ht
      subst ht'
      obtain ⟨olds,o1,o2,o3⟩ := first_old (P := P) he es.length
      exact key es (some ⟨b,o,none⟩) olds rfl o1 o2 (row_ones (els_flatten he).1) (els_lens he) o3 h
/-! ### A slice that grows and may be written -/
theorem overW_take : ∀ (xs : List Value) (ys : Array Value) (o : Nat),o + xs.length ≤ ys.size → (overW ys o xs).toList.take (o + xs.length) = ys.toList.take o ++ xs
  | [],ys,o,_ => by simp [overW]
  | x :: xs,ys,o,h => by
    simp only [List.length_cons] at h
    have ih := overW_take xs (ys.setIfInBounds o x) (o + 1) (by rw [Array.size_setIfInBounds]; omega)
    simp only [overW,List.length_cons]
    rw [show o + (xs.length + 1) = o + 1 + xs.length by omega,ih]
    have e : (ys.setIfInBounds o x).toList.take (o + 1) = ys.toList.take o ++ [x] := by
      rw [Array.toList_setIfInBounds,List.take_succ_eq_append_getElem (by simpa using (by omega : o < ys.size))]
      simp [List.take_set_of_le]
    rw [e,List.append_assoc]; rfl
def Gapd (P : Program) (s : St) (H : AH) (m : Sem Value) (sz n : Nat) (cs : List V) (i : Nat) : Prop :=
  ∃ s' q,m.run P s.w = .ok q s'.w ∧ Ext s s' ∧ HRel s' (H.put i (.gr sz n cs)) ∧ s'.val (.gsl i sz n) q
theorem gapd_new {P : Program} {T U e : TypeId} {d : TypeDesc} {sz bytes : Nat} (ty : TypeId) (hT : P.underlying T = some (.slice e)) (hU : P.underlying U = some d) (hd : ∀ k,d ≠ .int k) (hsz : sizeT P e = some sz) (hby : bytesT P e = some bytes) {zc : List V} (hzero : zeroOf P e = some zc) (hzl : zc.length = sz) (h0 : 0 < bytes)
    {s : St} {H : AH} (hr : HRel s H) {x : Value} {fs : List (List V)} {ys : List Value} (hsrc : Src P s sz x fs ys) {base : Option Addr} {n cap : Nat} {cs : List V} {olds : List Value} (holds : s.vals cs olds) (hlo : olds.length = n * sz) (hlc : cs.length = n * sz) (hone : ones cs = true)
    (hfo : (Builtin.firstCells sz n (.slice base n cap)).run P s.w.drew = .ok olds.toArray s.w.drew)
    (hg : cap < n + fs.length) (hb : (n + fs.length) * bytes ≤ 140737488355328) (i : Nat) (ht : ∀ st0,s.tok i = some st0 → st0.n < n + fs.length) :
    Gapd P s H (Builtin.append_ #[T,U] ty #[.slice base n cap,x]) sz (n + fs.length) (cs ++ fs.flatten) i := by
  obtain ⟨info,i1,rfl,rfl⟩ := bytesT_run hby hsz
  have hzc := hzero
  unfold zeroOf at hzc
  rw [i1] at hzc
  simp only at hzc
  split at hzc
  case h_2 => cases hzc
  rename_i z hz
  have hzs : z.cells.size = info.size := by
    simp only [Option.map_eq_some_iff] at hzc
    obtain ⟨v,hv,rfl⟩ := hzc
    have := vals_length (val_cells (s := s) (valOf_holds hv))
    rw [← hzl,← this]; simp
  have hcell : ∀ b o,b < s.w.heap.size → (s.w.drew).cell? ⟨b,o,none⟩ = s.w.cell? ⟨b,o,none⟩ := fun _ _ _ => rfl
  have hrun := run_append_new ty hT hU hd i1 hz (hsrc.lenOf s.w) (hsrc.first fs.length s.w.drew hcell rfl) hfo hg h0 hb
  let cells : Array Value := olds.toArray ++ ys.toArray ++ Builtin.zeroCells z.cells (grownCap s.w (n + fs.length) cap e - (n + fs.length))
  let st : TS := ⟨n + fs.length,.slice (some ⟨s.w.heap.size,0,none⟩) (n + fs.length) (grownCap s.w (n + fs.length) cap e)⟩
  have hx := St.ext_grow (s := s) i (.cells cells e (0,0)) 0 st ht
  have hheap : (s.grow i (.cells cells e (0,0)) 0 st).w.heap[s.w.heap.size]? = some (.cells cells e (0,0)) := heap_alloc_new (w := s.w.drew)
  have hge := grownCap_ge s.w (n + fs.length) cap e
  have hcap : cells.size = (n + fs.length) * info.size + (grownCap s.w (n + fs.length) cap e - (n + fs.length)) * z.cells.size := by
    simp only [cells,Array.size_append,List.size_toArray,size_zeroCells,hlo,hsrc.len,Nat.add_mul]
  have hfl : fs.flatten.length = fs.length * info.size := by rw [← hsrc.len,vals_length hsrc.vals]
  refine ⟨s.grow i (.cells cells e (0,0)) 0 st,_,hrun,hx,hr.grow i _ 0 st ht _ ⟨s.w.heap.size,_,cells,e,by simp [St.grow,st],by simp [St.grow],hheap,?_,hge,?_,?_,ones_append hone hsrc.ones⟩,.gsl _ _ _ _ _ ⟨st,by simp [St.grow],Nat.le_refl _,fun _ => rfl⟩⟩
  · rw [hcap,hzs,← Nat.add_mul]
    exact Nat.mul_le_mul_right _ (by omega)
  · rw [List.length_append,hlc,hfl,Nat.add_mul]
  · have hv := vals_append (holds.mono hx) (hsrc.vals.mono hx)
    have e1 : cells.toList.take ((n + fs.length) * info.size) = olds ++ ys := by
      simp only [cells,Array.toList_append]
      rw [List.take_append_of_le_length (by simp [hlo,hsrc.len,Nat.add_mul]),List.take_of_length_le (by simp [hlo,hsrc.len,Nat.add_mul])]
    rw [e1]; exact hv
theorem gapd_room {P : Program} {T U e : TypeId} {d : TypeDesc} {sz : Nat} (ty : TypeId) (hT : P.underlying T = some (.slice e)) (hU : P.underlying U = some d) (hd : ∀ k,d ≠ .int k) (hsz : sizeT P e = some sz)
    {s : St} {H : AH} (hr : HRel s H) {x : Value} {fs : List (List V)} {ys : List Value} (hsrc : Src P s sz x fs ys) {b n cap : Nat} {cs : List V} {cur : Array Value} {R : TypeId} (hpos : 0 < fs.length) {i : Nat}
    (hrole : s.role b = some (i,0)) (hh : s.w.heap[b]? = some (.cells cur R (0,0))) (hsize : cap * sz ≤ cur.size) (hlc : cs.length = n * sz) (holds : s.vals cs (cur.toList.take (n * sz))) (hone : ones cs = true)
    (hroom : n + fs.length ≤ cap) (ht : ∀ st0,s.tok i = some st0 → st0.n < n + fs.length) :
    Gapd P s H (Builtin.append_ #[T,U] ty #[.slice (some ⟨b,0,none⟩) n cap,x]) sz (n + fs.length) (cs ++ fs.flatten) i := by
  have hrun := run_append_no (P := P) (w := s.w) ty hT hU hd hsz (hsrc.lenOf s.w) (hsrc.first fs.length s.w (fun _ _ _ => rfl) rfl) (some ⟨b,0,none⟩) n cap hroom
  have hle : (n + fs.length) * sz ≤ cur.size := Nat.le_trans (Nat.mul_le_mul_right _ hroom) hsize
  have hfl : fs.flatten.length = fs.length * sz := by rw [← hsrc.len,vals_length hsrc.vals]
  have hst := run_storeCells (P := P) ys s.w cur (n * sz) 0 hh (.inl (Nat.le_refl _)) (fits_one hsrc.vals hsrc.ones) (by rw [hsrc.len]; rw [Nat.add_mul] at hle; omega)
  rw [Nat.add_zero] at hst
  have hlt : b < s.w.heap.size := (hr.role b i 0 hrole).2
  let st : TS := ⟨n + fs.length,.slice (some ⟨b,0,none⟩) (n + fs.length) cap⟩
  let o : Obj := .cells (overW cur (n * sz) ys) R (0,0)
  have hx : Ext s (s.fill i b o 0 st) := by
    refine ⟨rfl,rfl,rfl,⟨rfl,fun _ => Nat.le_refl _⟩,by simp [St.fill,setBlock],fun c hc h => ?_,fun c k e hc h => ?_,fun _ _ h => h,fun k st0 h => ?_,Nat.le_refl _⟩
    · have hne : c ≠ b := fun e => by subst e; rw [hrole] at h; cases h
      exact ⟨by simp only [St.fill]; rw [if_neg hne]; exact h,heap_setBlock_ne hne⟩
    · by_cases hne : c = b
      · subst hne; rw [hrole] at h; cases h
        exact ⟨.inr ⟨0,Nat.le_refl _,by simp [St.fill]⟩,fun o ho => by omega⟩
      · exact ⟨.inr ⟨e,Nat.le_refl _,by simp only [St.fill]; rw [if_neg hne]; exact h⟩,fun x _ => cell_of_block (heap_setBlock_ne hne) x⟩
    · by_cases hk : k = i
      · subst hk; exact ⟨st,by simp [St.fill],.inr (ht st0 h)⟩
      · exact ⟨st0,by simp [St.fill,hk,h],.inl rfl⟩
  refine ⟨s.fill i b o 0 st,.slice (some ⟨b,0,none⟩) (n + fs.length) cap,?_,hx,hr.fill hrole o 0 st hx _ ⟨b,cap,overW cur (n * sz) ys,R,by simp [St.fill,st],by simp [St.fill],heap_setBlock_same hlt,by rw [overW_size]; exact hsize,hroom,by rw [List.length_append,hlc,hfl,Nat.add_mul],?_,ones_append hone hsrc.ones⟩,.gsl _ _ _ _ _ ⟨st,by simp [St.fill],Nat.le_refl _,fun _ => rfl⟩⟩
  · rw [hrun]
    simp only [add_plain,Nat.zero_add]
    rw [hst]; rfl
  · have hv := vals_append (holds.mono hx) (hsrc.vals.mono hx)
    have e1 : (overW cur (n * sz) ys).toList.take ((n + fs.length) * sz) = cur.toList.take (n * sz) ++ ys := by
      have := overW_take ys cur (n * sz) (by rw [hsrc.len]; rw [Nat.add_mul] at hle; omega)
      rw [hsrc.len,← Nat.add_mul] at this
      exact this
    rw [e1]; exact hv
theorem appg_sound {P : Program} {T U e : TypeId} {d : TypeDesc} {sz bytes : Nat} (ty : TypeId) (hT : P.underlying T = some (.slice e)) (hU : P.underlying U = some d) (hd : ∀ k,d ≠ .int k) (hsz : sizeT P e = some sz) (hby : bytesT P e = some bytes) {zc : List V} (hzero : zeroOf P e = some zc) (hzl : zc.length = sz) (h0 : 0 < bytes)
    {s : St} {H : AH} (hr : HRel s H) {u v : V} {x y : Value} (hu : s.val u x) (hv : s.val v y) {fs : List (List V)} (hf : elemsH H sz v = some fs) {k : V → AH → Prop} (h : vappg H sz bytes fs k u) :
    ∃ s' z q H',(Builtin.append_ #[T,U] ty #[x,y]).run P s.w = .ok z s'.w ∧ Ext s s' ∧ HRel s' H' ∧ s'.val q z ∧ k q H' := by
  obtain ⟨ys,hsrc⟩ := src_ofH (P := P) hr hv hf
  have fin : ∀ {n cs i},Gapd P s H (Builtin.append_ #[T,U] ty #[x,y]) sz n cs i → k (.gsl i sz n) (H.put i (.gr sz n cs)) → ∃ s' z q H',(Builtin.append_ #[T,U] ty #[x,y]).run P s.w = .ok z s'.w ∧ Ext s s' ∧ HRel s' H' ∧ s'.val q z ∧ k q H' := by
    rintro n cs i ⟨s',q,h1,h2,h3,h4⟩ hk
    exact ⟨s',q,_,_,h1,h2,h3,h4,hk⟩
  cases u <;> simp only [vappg] at h <;> try exact h.elim
  case nilSl =>
    obtain rfl := inv_nilSl hu
    obtain ⟨⟨hpos,hb⟩,hk⟩ := h
    have := gapd_new ty hT hU hd hsz hby hzero hzl h0 hr hsrc (base := none) (n := 0) (cap := 0) (cs := []) (olds := []) .nil (by simp) (by simp) rfl rfl (by omega) (by simpa using hb) s.nx (fun st0 h => absurd (hr.tok _ _ h) (by omega))
    simp only [Nat.zero_add,List.nil_append] at this
    exact fin this (hk s.nx hr.fresh)
  case gsl i z n =>
    obtain ⟨ob,hob,h⟩ := need_elim h
    cases ob <;> (try simp only at h) <;> try exact h.elim
    rename_i y' m' cs
    obtain ⟨⟨hz,hy,hm,hpos,hb⟩,hk⟩ := h
    subst hz hy hm
    obtain ⟨b,cap,cur,R,t1,t2,t3,t4,t5,t6,t7,t8⟩ := hr.obj i _ hob
    cases hu with
    | gsl _ _ _ a cap2 ht =>
      obtain ⟨st,s1,s2,s3⟩ := ht
      rw [t1] at s1; cases s1
      have e := s3 rfl
      cases e
      have htn : ∀ st0,s.tok i = some st0 → st0.n < m' + fs.length := fun st0 h => by rw [t1] at h; cases h; show m' < _; omega
      by_cases hroom : m' + fs.length ≤ cap
      · exact fin (gapd_room ty hT hU hd hsz hr hsrc hpos t2 t3 t4 t6 t7 t8 hroom htn) hk
      · refine fin (gapd_new ty hT hU hd hsz hby hzero hzl h0 hr hsrc (olds := cur.toList.take (m' * y')) t7 (by rw [vals_length t7,t6]) t6 t8 ?_ (by omega) hb i htn) hk
        have := run_firstCells_some (P := P) (w := s.w.drew) y' m' ⟨b,0,none⟩ m' cap (cur.toList.take (m' * y')) (by rw [vals_length t7,t6]) (fun j v hj => ?_)
        · exact this
        · rw [add_plain,Nat.zero_add]
          show s.w.cell? ⟨b,j,none⟩ = some v
          rw [obj_cell t3]
          rw [List.getElem?_take] at hj
          split at hj
          · simpa using hj
          · cases hj
/-! ### Maps -/
theorem ents_append {s : St} : ∀ {es fs : List (V × V)} {ms ns : List MapEntry},Holds s (.ents es ms) → Holds s (.ents fs ns) → Holds s (.ents (es ++ fs) (ms ++ ns))
  | [],fs,ms,ns,h,k => by cases h; exact k
  | (a,b) :: es,fs,ms,ns,h,k => by
    cases h with
    | entsCons _ _ m _ ms h1 h2 h3 => exact .entsCons _ _ _ _ _ h1 h2 (ents_append h3 k)
theorem ents_modify {s : St} {f : MapEntry → MapEntry} {key v : V} : ∀ {es : List (V × V)} {ms : List MapEntry},Holds s (.ents es ms) → ∀ {j : Nat} {m : MapEntry},ms[j]? = some m → s.val key (f m).key → s.val v (f m).val → Holds s (.ents (es.set j (key,v)) (ms.modify j f))
  | [],ms,h,j,m,e,_,_ => by cases h; simp at e
  | (a,b) :: es,ms,h,j,m,e,k1,k2 => by
    cases h with
    | entsCons _ _ m0 _ ms h1 h2 h3 =>
      cases j with
      | zero => simp at e; subst e; exact .entsCons _ _ _ _ _ k1 k2 h3
      | succ j => exact .entsCons _ _ _ _ _ h1 h2 (ents_modify h3 (by simpa using e) k1 k2)
theorem ents_erase {s : St} : ∀ {es : List (V × V)} {ms : List MapEntry},Holds s (.ents es ms) → ∀ j : Nat,Holds s (.ents (es.eraseIdx j) (ms.eraseIdx j))
  | [],ms,h,j => by cases h; exact .entsNil
  | (a,b) :: es,ms,h,j => by
    cases h with
    | entsCons _ _ m0 _ ms h1 h2 h3 =>
      cases j with
      | zero => exact h3
      | succ j => exact .entsCons _ _ _ _ _ h1 h2 (ents_erase h3 j)
theorem born_modify {f : MapEntry → MapEntry} (hf : ∀ e,(f e).born = e.born) : ∀ (l : List MapEntry) (j : Nat),(l.modify j f).map (·.born) = l.map (·.born)
  | [],_ => by simp
  | e :: l,0 => by simp [hf]
  | e :: l,j + 1 => by simp [born_modify hf l j]
theorem born_lt {ms : List MapEntry} {c : Nat} : (∀ m ∈ ms,m.born < c) ↔ ∀ b ∈ ms.map (·.born),b < c := by simp
theorem setObj_map {P : Program} {s : St} {b : Nat} {es : Array MapEntry} {c : Nat} (hb : s.w.heap[b]? = some (.map es c)) (o : Obj) : (setObj b o).run P s.w = .ok () (s.write b o).w := MapKept.run_setObj_map o hb
theorem mset_sound {P : Program} {T e : TypeId} {kk : BK} (hT : mapT P T = some (kk,e)) {s : St} {H : AH} (hr : HRel s H) {i : Nat} {es : List (V × V)} (hob : H i = some (.map es)) {key v : V} {m x y : Value} (hm : s.val (.map i) m) (hx : s.val key x) (hv : s.val v y) {r : Option V} (hf : mfind kk key es = some r) :
    ∃ s' : St,(Instr.mapUpdate T m x y).run P s.w = .ok () s'.w ∧ Ext s s' ∧ HRel s' (H.put i (.map (mput kk key v es))) := by
  obtain ⟨k,d,h1,h2,h3⟩ := mapT_spec hT
  cases hm with
  | map _ b hb =>
    obtain ⟨b',ms,c,o1,o2,o3,o4,o5,o6⟩ := hr.obj i _ hob
    rw [hb] at o1; cases o1
    have hlt := (hr.role b i 0 o2).2
    have hck := run_checkKey h2 h3 false 9999 x s.w
    rcases mfind_cases h3 hx o4 hf 0 with ⟨_,g2,g3,_⟩ | ⟨j,me,k',v',g1,g2,_,g4,g5,g6,g7,_⟩
    · refine ⟨s.write b (.map (ms.push ⟨x,y,c⟩) (c + 1)),?_,St.ext_write o2 _,hr.write o2 _ _ ⟨b,_,_,hb,o2,heap_setBlock_same hlt,?_,?_,?_⟩⟩
      · simp [Instr.mapUpdate,run_underlying' h1,MapKept.run_getObj_map o3,hck,run_findKey h2 g2,setObj_map o3]
      · rw [g3,Array.toList_push]
        exact ents_append (o4.mono (St.ext_write o2 _)) (.entsCons _ _ _ _ _ (hx.mono (St.ext_write o2 _)) (hv.mono (St.ext_write o2 _)) .entsNil)
      · intro m hm
        rw [Array.toList_push,List.mem_append] at hm
        rcases hm with hm | hm
        · have := o5 m hm; omega
        · simp at hm; subst hm; exact Nat.lt_succ_self c
      · rw [Array.toList_push,List.map_append,List.nodup_append]
        refine ⟨o6,by simp,fun a ha b' hb' => ?_⟩
        simp at hb'; subst hb'
        obtain ⟨m,hm,rfl⟩ := List.mem_map.1 ha
        exact Nat.ne_of_lt (o5 m hm)
    · rw [Nat.zero_add] at g4
      have hj : ms[j]? = some me := by simpa using g1
      have hks : (Instr.keyThatStays me.key x).run P s.w = .ok x s.w := by rw [g5]; simp [Instr.keyThatStays,g6]
      have hbm := born_modify (f := fun e : MapEntry => { e with key := x,val := y }) (fun _ => rfl) ms.toList j
      refine ⟨s.write b (.map (ms.modify j fun e => { e with key := x,val := y }) c),?_,St.ext_write o2 _,hr.write o2 _ _ ⟨b,_,_,hb,o2,heap_setBlock_same hlt,?_,?_,?_⟩⟩
      · simp [Instr.mapUpdate,run_underlying' h1,MapKept.run_getObj_map o3,hck,run_findKey h2 g4,setObj_map o3,hj,hks]
      · rw [g7,Array.toList_modify]
        exact ents_modify (o4.mono (St.ext_write o2 _)) g1 (hx.mono (St.ext_write o2 _)) (hv.mono (St.ext_write o2 _))
      · rw [Array.toList_modify,born_lt,hbm,← born_lt]; exact o5
      · rw [Array.toList_modify,hbm]; exact o6
theorem mdel_sound {P : Program} {T U ty e : TypeId} {kk : BK} (hT : mapT P T = some (kk,e)) {s : St} {H : AH} (hr : HRel s H) {i : Nat} {es : List (V × V)} (hob : H i = some (.map es)) {key : V} {m x : Value} (hm : s.val (.map i) m) (hx : s.val key x) {r : Option V} (hf : mfind kk key es = some r) :
    ∃ s' : St,(Builtin.delete_ #[T,U] ty #[m,x]).run P s.w = .ok (.tuple #[]) s'.w ∧ Ext s s' ∧ HRel s' (H.put i (.map (mdel kk key es))) := by
  obtain ⟨k,d,h1,h2,h3⟩ := mapT_spec hT
  cases hm with
  | map _ b hb =>
    obtain ⟨b',ms,c,o1,o2,o3,o4,o5,o6⟩ := hr.obj i _ hob
    rw [hb] at o1; cases o1
    have hlt := (hr.role b i 0 o2).2
    have hck := run_checkKey h2 h3 ms.isEmpty 9999 x s.w
    rcases mfind_cases h3 hx o4 hf 0 with ⟨_,g2,_,g3⟩ | ⟨j,me,k',v',g1,g2,_,g4,g5,g6,_,g7⟩
    · refine ⟨s.write b (.map ms c),?_,St.ext_write o2 _,hr.write o2 _ _ ⟨b,_,_,hb,o2,heap_setBlock_same hlt,?_,o5,o6⟩⟩
      · simp [Builtin.delete_,run_underlying' h1,MapKept.run_getObj_map o3,hck,run_findKey h2 g2,setObj_map o3]
      · rw [g3]; exact o4.mono (St.ext_write o2 _)
    · rw [Nat.zero_add] at g4
      have hsub : (ms.toList.eraseIdx j).Sublist ms.toList := List.eraseIdx_sublist _ _
      have hjl : j < ms.size := by
        have := (List.getElem?_eq_some_iff.1 g1).1; simpa using this
      have hte : (ms.eraseIdxIfInBounds j).toList = ms.toList.eraseIdx j := by
        simp [Array.eraseIdxIfInBounds,hjl]
      refine ⟨s.write b (.map (ms.eraseIdxIfInBounds j) c),?_,St.ext_write o2 _,hr.write o2 _ _ ⟨b,_,_,hb,o2,heap_setBlock_same hlt,?_,?_,?_⟩⟩
      · simp [Builtin.delete_,run_underlying' h1,MapKept.run_getObj_map o3,hck,run_findKey h2 g4,setObj_map o3]
      · rw [g7,hte]; exact (ents_erase o4 j).mono (St.ext_write o2 _)
      · rw [hte]; exact fun m hm => o5 m (hsub.subset hm)
      · rw [hte]; exact (hsub.map _).nodup o6
def St.newIt (s : St) (i : Nat) (o : Obj) : St where
  w := s.w.alloc o
  blk := fun k => if k = s.nx then some s.w.heap.size else s.blk k
  tok := s.tok
  role := fun b => if b = s.w.heap.size then some (i,0) else s.role b
  nx := s.nx + 1
  dr := s.dr
theorem St.ext_newIt {s : St} {H : AH} (hr : HRel s H) (i : Nat) (o : Obj) : Ext s (s.newIt i o) := by
  refine ⟨rfl,rfl,rfl,⟨rfl,fun _ => by first | exact Nat.le_refl _ | exact Nat.le_succ _⟩,by simp [St.newIt],?_,?_,?_,fun k st h => ⟨st,h,.inl rfl⟩,Nat.le_succ _⟩
  · intro b hb h
    exact ⟨by simp only [St.newIt]; rw [if_neg (by omega)]; exact h,heap_alloc_lt hb⟩
  · intro b k e hb h
    exact ⟨.inr ⟨e,Nat.le_refl _,by simp only [St.newIt]; rw [if_neg (by omega)]; exact h⟩,fun x _ => cell_of_block (heap_alloc_lt hb) x⟩
  · intro k b h
    simp only [St.newIt]
    rw [if_neg (by have := hr.blk k b h; omega)]
    exact h
theorem HRel.newIt {s : St} {H : AH} (hr : HRel s H) {i : Nat} (hi : i < s.nx) (o : Obj) (ao bo : AObj) (ho : ORel (s.newIt i o) i ao) (hb : ORel (s.newIt i o) s.nx bo) : HRel (s.newIt i o) ((H.put i ao).put s.nx bo) := by
  refine ⟨fun k p hk => ?_,fun k p hk => ?_,fun k b hb => ?_,fun k t ht => ?_,fun b k e he => ?_⟩
  · by_cases e : k = s.nx
    · subst e; rw [AH.put_same] at hk; cases hk; exact hb
    · rw [AH.put_ne _ _ e] at hk
      by_cases e2 : k = i
      · subst e2; rw [AH.put_same] at hk; cases hk; exact ho
      · rw [AH.put_ne _ _ e2] at hk
        refine ORel.keep (St.ext_newIt hr i o) (fun b e' he => ?_) rfl (hr.obj k p hk)
        have := (hr.role b k e' he).2
        exact ⟨by simp only [St.newIt]; rw [if_neg (by omega)],heap_alloc_lt this⟩
  · show k < s.nx + 1
    by_cases e : k = s.nx
    · omega
    · rw [AH.put_ne _ _ e] at hk
      by_cases e2 : k = i
      · omega
      · rw [AH.put_ne _ _ e2] at hk; have := hr.lt k p hk; omega
  · show k < s.nx + 1
    simp only [St.newIt] at hb
    split at hb
    · omega
    · have := hr.blk k b hb; omega
  · show k < s.nx + 1
    have := hr.tok k t ht; omega
  · simp only [St.newIt] at he ⊢
    simp only [World.size_alloc]
    split at he
    · cases he; omega
    · have := hr.role b k e he; omega
theorem mrange_sound {P : Program} {T e : TypeId} {kk : BK} (hT : mapT P T = some (kk,e)) {s : St} {H : AH} (hr : HRel s H) {i : Nat} {es : List (V × V)} (hob : H i = some (.map es)) {m : Value} (hm : s.val (.map i) m) :
    ∃ (s' : St) (x : Value),(Instr.range T m).run P s.w = .ok x s'.w ∧ Ext s s' ∧ HRel s' ((H.put i (.mapi es s.nx es none)).put s.nx (.iter (some i))) ∧ s'.val (.ptr s.nx 0) x := by
  obtain ⟨k,d,h1,h2,h3⟩ := mapT_spec hT
  cases hm with
  | map _ b hb =>
    obtain ⟨b',ms,c,o1,o2,o3,o4,o5,o6⟩ := hr.obj i _ hob
    rw [hb] at o1; cases o1
    have hlt := (hr.role b i 0 o2).2
    have hi := hr.lt i _ hob
    have hx := St.ext_newIt hr i (.mapIter (some b) c #[] c)
    have hbn : (s.newIt i (.mapIter (some b) c #[] c)).blk s.nx = some s.w.heap.size := by simp [St.newIt]
    have hl : (leftOf ms #[]) = ms := by simp [leftOf]
    refine ⟨s.newIt i (.mapIter (some b) c #[] c),.pointer (some ⟨s.w.heap.size,0,none⟩),?_,hx,hr.newIt hi _ _ _ ⟨b,s.w.heap.size,ms,c,c,#[],hx.blk i b hb,?_,?_,o4.mono hx,o5,o6,hbn,by simp [St.newIt],by omega,heap_alloc_new,o5,Nat.le_refl _,by rw [hl]; exact o4.mono hx,fun kv e => by cases e⟩ ⟨_,hbn,fun e => by cases e⟩,.ptr _ _ _ hbn⟩
    · simp [Instr.range,run_underlying' h1,MapKept.run_getObj_map o3,St.newIt]
    · simp only [St.newIt]; rw [if_neg (by omega)]; exact o2
    · exact (heap_alloc_lt hlt).trans o3
theorem ents_split {s : St} : ∀ {es : List (V × V)} {ms : List MapEntry},Holds s (.ents es ms) → ∀ {m : MapEntry} {ms1 ms2 : List MapEntry},ms = ms1 ++ m :: ms2 → ∃ l1 kv l2,es = l1 ++ kv :: l2 ∧ Holds s (.ents (l1 ++ l2) (ms1 ++ ms2)) ∧ s.val kv.1 m.key ∧ s.val kv.2 m.val
  | [],ms,h,m,ms1,ms2,e => by cases h; cases ms1 <;> cases e
  | (a,b) :: es,ms,h,m,ms1,ms2,e => by
    cases h with
    | entsCons _ _ m0 _ ms h1 h2 h3 =>
      cases ms1 with
      | nil => cases e; exact ⟨[],(a,b),es,rfl,h3,h1,h2⟩
      | cons m1 ms1 =>
        simp only [List.cons_append,List.cons.injEq] at e
        obtain ⟨rfl,e⟩ := e
        obtain ⟨l1,kv,l2,g1,g2,g3⟩ := ents_split h3 e
        exact ⟨(a,b) :: l1,kv,l2,by rw [g1]; rfl,.entsCons _ _ _ _ _ h1 h2 g2,g3⟩
theorem left_push (ms : Array MapEntry) (seen : Array Nat) (b : Nat) : (leftOf ms (seen.push b)).toList = (leftOf ms seen).toList.filter (fun e => !(e.born == b)) := by
  simp only [leftOf,Array.toList_filter,List.filter_filter]
  congr 1
  funext e
  rw [Bool.eq_iff_iff]
  simp
  constructor <;> intro h <;> (try exact ⟨h.2,h.1⟩) <;> (try exact ⟨h.2,h.1⟩)
theorem filter_born {m : MapEntry} : ∀ {l1 l2 : List MapEntry},((l1 ++ m :: l2).map (·.born)).Nodup → (l1 ++ m :: l2).filter (fun e => !(e.born == m.born)) = l1 ++ l2 := by
  intro l1 l2 h
  rw [List.map_append,List.map_cons,List.nodup_append] at h
  obtain ⟨h1,h2,h3⟩ := h
  rw [List.nodup_cons] at h2
  rw [List.filter_append,List.filter_cons]
  simp only [beq_self_eq_true,Bool.not_true,Bool.false_eq_true,if_false]
  congr 1
  · rw [List.filter_eq_self]
    intro a ha
    have := h3 a.born (List.mem_map.2 ⟨a,ha,rfl⟩) m.born (by simp)
    simpa using this
  · rw [List.filter_eq_self]
    intro a ha
    have : a.born ≠ m.born := fun e => h2.1 (by rw [← e]; exact List.mem_map.2 ⟨a,ha,rfl⟩)
    simpa using this
theorem mrangev_sound {P : Program} {T e : TypeId} {kk : BK} (hT : mapT P T = some (kk,e)) {s : St} {H : AH} (hr : HRel s H) {es : List (V × V)} {m : Value} (hm : s.val (.mapv es) m) :
    ∃ (s' : St) (x : Value),(Instr.range T m).run P s.w = .ok x s'.w ∧ Ext s s' ∧ HRel s' (H.put s.nx (.iterv es none)) ∧ s'.val (.ptr s.nx 0) x := by
  obtain ⟨k,d,h1,h2,h3⟩ := mapT_spec hT
  cases hm with
  | mapv _ b ms c o1 o2 o3 o4 o5 o6 =>
    have hx := St.ext_newObj hr (.mapIter (some b) c #[] c)
    have hbn : (s.newObj (.mapIter (some b) c #[] c)).blk s.nx = some s.w.heap.size := by simp [St.newObj]
    have hl : (leftOf ms #[]) = ms := by simp [leftOf]
    obtain ⟨f1,f2⟩ := hx.froz b o1 o2
    refine ⟨s.newObj (.mapIter (some b) c #[] c),.pointer (some ⟨s.w.heap.size,0,none⟩),?_,hx,hr.newObj _ _ ⟨b,s.w.heap.size,ms,c,c,#[],hbn,by simp [St.newObj],Nat.lt_of_lt_of_le o1 hx.size,f1,f2.trans o3,o6,heap_alloc_new,o5,Nat.le_refl _,by rw [hl]; exact o4.mono hx,fun kv e => by cases e⟩,.ptr _ _ _ hbn⟩
    simp [Instr.range,run_underlying' h1,MapKept.run_getObj_map o3,St.newObj]
theorem mnextv_sound {P : Program} {ty : TypeId} {s : St} {H : AH} (hr : HRel s H) {j bi : Nat} (hbi : s.blk j = some bi) {left : List (V × V)} {cur : Option (V × V)} (ho : H j = some (.iterv left cur)) {k : V → AH → Prop}
    (hk1 : left = [] → k (.tuple [.bool false]) H) (hk2 : ∀ l1 kv l2,left = l1 ++ kv :: l2 → k (.tuple [.bool true,kv.1,kv.2]) (H.put j (.iterv (l1 ++ l2) (some kv)))) :
    ∃ (s' : St) (y : Value) (v : V) (H' : AH),(Instr.next (.pointer (some ⟨bi,0,none⟩)) false ty).run P s.w = .ok y s'.w ∧ Ext s s' ∧ HRel s' H' ∧ s'.val v y ∧ k v H' := by
  obtain ⟨b,bi',ms,c,since,seen,h1,h2,hb1,hb2,h3,h6,g4,g5,g6,g7,g8⟩ := hr.obj j _ ho
  rw [hbi] at h1; cases h1
  have hltb := (hr.role bi j 0 h2).2
  have g3 : bi ≠ b := by rintro rfl; rw [h2] at hb2; cases hb2
  rcases run_next_at (P := P) s.w ty bi b since c seen ms c g4 h3 g5 g6 with ⟨e0,e1⟩ | ⟨e,e0,w1,e1,e2⟩
  · have hl : left = [] := by
      have := ents_length g7
      have h0 : (leftOf ms seen).toList.length = 0 := by simpa using e0
      rw [h0] at this
      exact List.length_eq_zero_iff.1 this.symm
    exact ⟨s,_,_,H,e1,.refl s,hr,.tuple [.bool false] [_] (.cons _ _ _ _ (.bool _) .nil),hk1 hl⟩
  · obtain ⟨s1,hs1,hx1,hr1,hro,hbk⟩ : ∃ s1 : St,s1.w = w1 ∧ Ext s s1 ∧ HRel s1 H ∧ s1.role = s.role ∧ s1.blk = s.blk := by
      rcases e1 with rfl | rfl
      · exact ⟨s,rfl,.refl s,hr,rfl,rfl⟩
      · exact ⟨s.drew,rfl,St.ext_drew s,hr.drew,rfl,rfl⟩
    obtain ⟨ms1,ms2,hsp⟩ := List.append_of_mem e0
    rw [hsp] at g7
    obtain ⟨l1,kv,l2,q1,q2,q3,q4⟩ := ents_split g7 rfl
    have hro2 : s1.role bi = some (j,0) := by rw [hro]; exact h2
    have hx2 : Ext s1 (s1.write bi (.mapIter (some b) since (seen.push e.born) c)) := St.ext_write hro2 _
    have hx3 := hx1.trans hx2
    have hnd : ((ms1 ++ e :: ms2).map (·.born)).Nodup := by
      rw [← hsp]
      have : (leftOf ms seen).toList.Sublist ms.toList := by simp only [leftOf,Array.toList_filter]; exact List.filter_sublist
      exact (this.map _).nodup h6
    have hem : e ∈ ms.toList := (mem_left e0).1
    obtain ⟨f1,f2⟩ := hx3.froz b hb1 hb2
    refine ⟨s1.write bi (.mapIter (some b) since (seen.push e.born) c),.tuple #[.bool true,e.key,e.val],.tuple [.bool true,kv.1,kv.2],H.put j (.iterv (l1 ++ l2) (some kv)),?_,hx3,hr1.write hro2 _ _ ⟨b,bi,ms,c,since,seen.push e.born,by show s1.blk j = _; rw [hbk]; exact hbi,hro2,Nat.lt_of_lt_of_le hb1 hx3.size,f1,f2.trans h3,h6,heap_setBlock_same (by rw [← hs1] at *; exact Nat.lt_of_lt_of_le hltb hx1.size),g5,g6,?_,?_⟩,?_,hk2 l1 kv l2 q1⟩
    · rw [e2]
      show _ = Result.ok _ (setBlock s1.w bi _)
      rw [hs1]; rfl
    · rw [left_push,hsp,filter_born hnd]; exact q2.mono hx3
    · intro kv' e'
      cases e'
      exact ⟨seen,e,rfl,hem,q3.mono hx3,q4.mono hx3⟩
    · exact .tuple _ [_,_,_] (.cons _ _ _ _ (.bool _) (.cons _ _ _ _ (q3.mono hx3) (.cons _ _ _ _ (q4.mono hx3) .nil)))
theorem mnext_sound {P : Program} {ty : TypeId} {s : St} {H : AH} (hr : HRel s H) {j : Nat} {x : Value} (hx : s.val (.ptr j 0) x) {k : V → AH → Prop} (hk : xsem .mnext H [.ptr j 0] k) :
    ∃ (s' : St) (y : Value) (v : V) (H' : AH),(Instr.next x false ty).run P s.w = .ok y s'.w ∧ Ext s s' ∧ HRel s' H' ∧ s'.val v y ∧ k v H' := by
  cases hx with
  | ptr _ _ bi hbi =>
    obtain ⟨o,ho,hk⟩ := need_elim hk
    have hoj := hr.obj j _ ho
    cases o <;> simp only at hk <;> try exact hk.elim
    case iterv left cur => exact mnextv_sound hr hbi ho hk.1 hk.2
    rename_i m
    cases m with
    | none =>
      obtain ⟨b,g1,g2⟩ := hoj
      rw [hbi] at g1; cases g1
      obtain ⟨_,g3⟩ := g2 rfl
      exact ⟨s,_,_,H,by simp [Instr.next,getObj,Sem.run,g3],.refl s,hr,.tuple [.bool false] [_] (.cons _ _ _ _ (.bool _) .nil),hk⟩
    | some i =>
      simp only at hk
      obtain ⟨p,hp,hk⟩ := need_elim hk
      have hoi := hr.obj i _ hp
      cases p <;> simp only at hk <;> try exact hk.elim
      rename_i es j' left cur
      obtain ⟨rfl,hk1,hk2⟩ := hk
      obtain ⟨b,bi',ms,c,since,seen,h1,h2,h3,h4,h5,h6,g1,g2,g3,g4,g5,g6,g7,g8⟩ := hoi
      rw [hbi] at g1; cases g1
      have hltb := (hr.role bi i 0 g2).2
      rcases run_next_at (P := P) s.w ty bi b since c seen ms c g4 h3 g5 g6 with ⟨e0,e1⟩ | ⟨e,e0,w1,e1,e2⟩
      · have hl : left = [] := by
          have := ents_length g7
          have h0 : (leftOf ms seen).toList.length = 0 := by simpa using e0
          rw [h0] at this
          exact List.length_eq_zero_iff.1 this.symm
        have hH : HRel s (H.put i (.map es)) := by
          refine ⟨fun k p hk => ?_,fun k p hk => ?_,hr.blk,hr.tok,hr.role⟩
          · by_cases e : k = i
            · subst e; rw [AH.put_same] at hk; cases hk; exact ⟨b,ms,c,h1,h2,h3,h4,h5,h6⟩
            · rw [AH.put_ne _ _ e] at hk; exact hr.obj k p hk
          · by_cases e : k = i
            · subst e; exact hr.lt _ _ hp
            · rw [AH.put_ne _ _ e] at hk; exact hr.lt k p hk
        exact ⟨s,_,_,_,e1,.refl s,hH,.tuple [.bool false] [_] (.cons _ _ _ _ (.bool _) .nil),hk1 hl⟩
      · obtain ⟨s1,hs1,hx1,hr1,hro,hbk⟩ : ∃ s1 : St,s1.w = w1 ∧ Ext s s1 ∧ HRel s1 H ∧ s1.role = s.role ∧ s1.blk = s.blk := by
          rcases e1 with rfl | rfl
          · exact ⟨s,rfl,.refl s,hr,rfl,rfl⟩
          · exact ⟨s.drew,rfl,St.ext_drew s,hr.drew,rfl,rfl⟩
        obtain ⟨ms1,ms2,hsp⟩ := List.append_of_mem e0
        rw [hsp] at g7
        obtain ⟨l1,kv,l2,q1,q2,q3,q4⟩ := ents_split g7 rfl
        have hro2 : s1.role bi = some (i,0) := by rw [hro]; exact g2
        have hx2 : Ext s1 (s1.write bi (.mapIter (some b) since (seen.push e.born) c)) := St.ext_write hro2 _
        have hx3 := hx1.trans hx2
        have hnd : ((ms1 ++ e :: ms2).map (·.born)).Nodup := by
          rw [← hsp]
          have : (leftOf ms seen).toList.Sublist ms.toList := by simp only [leftOf,Array.toList_filter]; exact List.filter_sublist
          exact (this.map _).nodup h6
        have hem : e ∈ ms.toList := (mem_left e0).1
        have hbne : b ≠ bi := Ne.symm g3
        refine ⟨s1.write bi (.mapIter (some b) since (seen.push e.born) c),.tuple #[.bool true,e.key,e.val],.tuple [.bool true,kv.1,kv.2],H.put i (.mapi es j' (l1 ++ l2) (some kv)),?_,hx3,hr1.write hro2 _ _ ⟨b,bi,ms,c,since,seen.push e.born,by show s1.blk i = _; rw [hbk]; exact h1,by show s1.role b = _; rw [hro]; exact h2,?_,h4.mono hx3,h5,h6,by show s1.blk j' = _; rw [hbk]; exact hbi,hro2,g3,heap_setBlock_same (by rw [← hs1] at *; exact Nat.lt_of_lt_of_le hltb hx1.size),g5,g6,?_,?_⟩,?_,hk2 l1 kv l2 q1⟩
        · rw [e2]
          show _ = Result.ok _ (setBlock s1.w bi _)
          rw [hs1]; rfl
        · have : s1.w.heap[b]? = some (.map ms c) := by rw [hs1]; rcases e1 with rfl | rfl <;> exact h3
          exact (heap_setBlock_ne hbne).trans this
        · rw [left_push,hsp,filter_born hnd]; exact q2.mono hx3
        · intro kv' e'
          cases e'
          exact ⟨seen,e,rfl,hem,q3.mono hx3,q4.mono hx3⟩
        · exact .tuple _ [_,_,_] (.cons _ _ _ _ (.bool _) (.cons _ _ _ _ (q3.mono hx3) (.cons _ _ _ _ (q4.mono hx3) .nil)))
end Go.Vm
