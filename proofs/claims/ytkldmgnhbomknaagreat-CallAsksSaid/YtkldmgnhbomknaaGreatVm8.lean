/- Appending: the machine's append, and the state behind it. -/
import Derived.Test.YtkldmgnhbomknaaGreatVm7
import Derived.Laws.AppendOwn
set_option linter.unusedVariables false
set_option linter.unusedSimpArgs false
namespace Go.Vm
theorem row_of_cells {s : St} {b : Nat} {ys : Array Value} {T : TypeId} {fr : Nat × Nat} (hb : s.w.heap[b]? = some (.cells ys T fr)) : ∀ (cs : List V) (o : Nat),ones cs = true → s.vals cs ((ys.toList.drop o).take cs.length) → (∀ k e,s.role b = some (k,e) → o + cs.length ≤ e) → Holds s (.row b o cs)
  | [],o,_,_,_ => .rowNil _ _
  | c :: cs,o,hone,h,hr => by
    rw [ones_cons,Bool.and_eq_true] at hone
    cases hd : ys.toList.drop o with
    | nil => rw [hd] at h; simp only [List.take_nil] at h; cases h
    | cons y zs =>
      rw [hd] at h
      simp only [List.length_cons,List.take_succ_cons] at h
      have hy : ys[o]? = some y := by
        have : (ys.toList.drop o)[0]? = some y := by rw [hd]; rfl
        simpa using this
      have hz : ys.toList.drop (o + 1) = zs := by
        rw [← List.drop_drop,hd]; rfl
      cases h with
      | cons _ _ _ _ h1 h2 =>
        refine .rowCons _ _ c y cs hone.1 ⟨by rw [obj_cell hb]; exact hy,fun k e he => ?_⟩ h1 (row_of_cells hb cs (o + 1) hone.2 (by rw [hz]; exact h2) fun k e he => ?_)
        · have := hr k e he; simp at this; omega
        · have := hr k e he; simp at this; omega
theorem vals_split {s : St} {cs ds : List V} {xs : List Value} (h : s.vals (cs ++ ds) xs) : s.vals cs (xs.take cs.length) ∧ s.vals ds (xs.drop cs.length) := by
  induction cs generalizing xs with
  | nil => exact ⟨.nil,h⟩
  | cons c cs ih =>
    cases h with
    | cons _ y _ ys h1 h2 =>
      obtain ⟨k1,k2⟩ := ih h2
      exact ⟨.cons _ _ _ _ h1 k1,k2⟩
theorem els_of_cells {s : St} {b sz : Nat} {ys : Array Value} {T : TypeId} {fr : Nat × Nat} (hb : s.w.heap[b]? = some (.cells ys T fr)) : ∀ (es : List (List V)) (o : Nat),(∀ c ∈ es,c.length = sz) → ones es.flatten = true → s.vals es.flatten ((ys.toList.drop o).take (es.length * sz)) → (∀ k e,s.role b = some (k,e) → o + es.length * sz ≤ e) → Holds s (.els b o sz es)
  | [],o,_,_,_,_ => .elsNil _ _ _
  | c :: es,o,hl,hone,h,hr => by
    have ho1 : ones c = true := by have := ones_take hone c.length; simpa using this
    have ho2 : ones es.flatten = true := by have := ones_drop hone c.length; simpa using this
    have hc := hl c (by simp)
    have hmul : (c :: es).length * sz = sz + es.length * sz := by simp [Nat.add_mul]; omega
    rw [hmul] at h
    simp only [List.flatten_cons] at h
    obtain ⟨h1,h2⟩ := vals_split h
    rw [List.take_take,hc] at h1
    rw [show min sz (sz + es.length * sz) = sz by omega] at h1
    rw [List.drop_take,List.drop_drop,hc] at h2
    rw [show sz + es.length * sz - sz = es.length * sz by omega] at h2
    refine .elsCons _ _ _ _ _ hc (row_of_cells hb c o ho1 (by rw [hc]; exact h1) fun k e he => ?_) (els_of_cells hb es (o + sz) (fun d hd => hl d (by simp [hd])) ho2 h2 fun k e he => ?_)
    · have := hr k e he; rw [hmul] at this; omega
    · have := hr k e he; rw [hmul] at this; omega
theorem els_lens {s : St} {b o sz : Nat} {es : List (List V)} (h : Holds s (.els b o sz es)) : ∀ c ∈ es,c.length = sz := by
  intro c hc
  obtain ⟨i,hi,rfl⟩ := List.getElem_of_mem hc
  exact (els_get h (List.getElem?_eq_getElem hi)).1
structure Src (P : Program) (s : St) (sz : Nat) (x : Value) (fs : List (List V)) (ys : List Value) : Prop where
  lens : ∀ c ∈ fs,c.length = sz
  vals : s.vals fs.flatten ys
  ones : ones fs.flatten = true
  len : ys.length = fs.length * sz
  lenOf : ∀ w,(Builtin.lenOf x).run P w = .ok fs.length w
  first : ∀ n w,(∀ b o,b < s.w.heap.size → w.cell? ⟨b,o,none⟩ = s.w.cell? ⟨b,o,none⟩) → n = fs.length → (Builtin.firstCells sz n x).run P w = .ok ys.toArray w
theorem src_of {P : Program} {s : St} {sz : Nat} {v : V} {x : Value} (hv : s.val v x) {fs : List (List V)} (h : elems sz v = some fs) : ∃ ys,Src P s sz x fs ys := by
  unfold elems at h
  split at h
  · cases h
    obtain rfl := inv_nilSl hv
    exact ⟨[],by simp,.nil,rfl,by simp,fun w => rfl,fun n w _ _ => rfl⟩
  · rename_i z es t
    split at h
    · rename_i hz
      cases h
      subst hz
      rcases inv_sl hv with ⟨rfl,rfl,_⟩ | ⟨ad,cap,rfl,rfl,_⟩ | ⟨b,o,cap,rfl,he,hc,_⟩
      · exact ⟨[],by simp,.nil,rfl,by simp,fun w => rfl,fun n w _ _ => rfl⟩
      · exact ⟨[],by simp,.nil,rfl,by simp,fun w => rfl,fun n w _ hn => by subst hn; simp [Builtin.firstCells,loadCells,loadCellsFrom]⟩
      · obtain ⟨k1,k2⟩ := els_flatten he
        obtain ⟨ys,y1,y2,y3⟩ := row_vals k1
        refine ⟨ys,els_lens he,y1,row_ones k1,by rw [y2,k2],fun w => rfl,fun n w hw hn => ?_⟩
        subst hn
        simp only [Builtin.firstCells]
        have := run_loadCellsFrom P w b o ys 0 #[] (fun j y hj => by
          have := (y3 j y hj).1
          have hb := cell_block_lt this
          rw [show o + (0 + j) = o + j by omega,hw b (o + j) hb]; exact this)
        rw [y2,k2] at this
        simpa [loadCells] using this
    · cases h
  · rename_i l
    split at h
    · rename_i hz
      cases h
      subst hz
      obtain rfl := inv_str hv
      refine ⟨l.map fun b => .int .u8 b.toNat,by simp [byteCells],?_,by simp [byteCells,ones]; intros; rfl,by simp [byteCells],fun w => by simp [Builtin.lenOf,byteCells,ba_size],fun n w _ hn => ?_⟩
      · clear hv
        induction l with
        | nil => exact .nil
        | cons b l ih => exact .cons _ _ _ _ (.int _ _) ih
      · subst hn
        simp only [Builtin.firstCells,byteCells,List.length_map]
        have e : (ByteArray.mk l.toArray).extract 0 l.length = ⟨l.toArray⟩ := by
          rw [← Lib.mk_data (ByteArray.extract _ _ _),Lib.extract_data]; simp
        rw [e]
        simp
    · cases h
  · cases h
theorem vals_part {s : St} {cs : List V} {ys : List Value} (h : s.vals cs ys) (o n : Nat) : s.vals ((cs.drop o).take n) ((ys.drop o).take n) := by
  have hd : ∀ (n : Nat) (cs : List V) (ys : List Value),s.vals cs ys → s.vals (cs.drop n) (ys.drop n) := by
    intro n
    induction n with
    | zero => intro cs ys h; exact h
    | succ n ih => intro cs ys h; cases h with | nil => exact .nil | cons _ _ _ _ h1 h2 => exact ih _ _ h2
  have ht : ∀ (n : Nat) (cs : List V) (ys : List Value),s.vals cs ys → s.vals (cs.take n) (ys.take n) := by
    intro n
    induction n with
    | zero => intro cs ys h; exact .nil
    | succ n ih => intro cs ys h; cases h with | nil => exact .nil | cons _ _ _ _ h1 h2 => exact .cons _ _ _ _ h1 (ih _ _ h2)
  exact ht _ _ _ (hd _ _ _ h)
theorem chop_flat (sz : Nat) : ∀ (n : Nat) (cs : List V),n * sz ≤ cs.length → (chop sz n cs).flatten = cs.take (n * sz) ∧ (chop sz n cs).length = n ∧ ∀ c ∈ chop sz n cs,c.length = sz
  | 0,cs,_ => by simp [chop]
  | n + 1,cs,h => by
    rw [Nat.add_mul,Nat.one_mul] at h
    obtain ⟨h1,h2,h3⟩ := chop_flat sz n (cs.drop sz) (by rw [List.length_drop]; omega)
    refine ⟨?_,by simp [chop,h2],?_⟩
    · simp only [chop,List.flatten_cons,h1]
      rw [show (n + 1) * sz = sz + n * sz by rw [Nat.add_mul]; omega,List.take_add]
    · intro c hc
      simp only [chop,List.mem_cons] at hc
      rcases hc with rfl | hc
      · rw [List.length_take]; omega
      · exact h3 c hc
theorem obj_first {P : Program} {s : St} {H : AH} (hr : HRel s H) {k sz off n b o cap : Nat} {cs : List V} (hk : H k = some (.cells cs)) (hle : off + n * sz ≤ cs.length) (hb : s.blk k = some b) (ho : n = 0 ∨ o = off) :
    ∃ ys : List Value,s.vals ((cs.drop off).take (n * sz)) ys ∧ ys.length = n * sz ∧ ones cs = true ∧ ∀ w,(∀ b o,b < s.w.heap.size → w.cell? ⟨b,o,none⟩ = s.w.cell? ⟨b,o,none⟩) → (Builtin.firstCells sz n (.slice (some ⟨b,o,none⟩) n cap)).run P w = .ok ys.toArray w := by
  obtain ⟨b',ys,zs,T,fr,h1,h2,h3,_,h4,h5⟩ := hr.obj k _ hk
  rw [hb] at h1; cases h1
  have hyl := vals_length h4
  have hblt : b < s.w.heap.size := (hr.role _ _ _ h2).2
  refine ⟨(ys.toList.drop off).take (n * sz),vals_part h4 _ _,by simp at hyl ⊢; omega,h5,fun w hw => ?_⟩
  rcases Nat.eq_zero_or_pos n with rfl | hpos
  · simp [Builtin.firstCells,loadCells,loadCellsFrom]
  · obtain rfl : o = off := by omega
    have hlen : ((ys.toList.drop o).take (n * sz)).length = n * sz := by simp at hyl ⊢; omega
    have hrr := run_loadCellsFrom P w b o ((ys.toList.drop o).take (n * sz)) 0 #[] (fun j y hj => by
      have hj' : ys[o + j]? = some y := by
        rw [List.getElem?_take] at hj
        split at hj
        · simpa using hj
        · cases hj
      have hlt := (Array.getElem?_eq_some_iff.1 hj').1
      rw [hw _ _ hblt,obj_cell h3,Nat.zero_add,Array.getElem?_append_left hlt]; exact hj')
    rw [hlen] at hrr
    simpa [Builtin.firstCells,loadCells] using hrr
theorem src_ofH {P : Program} {s : St} {H : AH} (hr : HRel s H) {sz : Nat} {v : V} {x : Value} (hv : s.val v x) {fs : List (List V)} (h : elemsH H sz v = some fs) : ∃ ys,Src P s sz x fs ys := by
  unfold elemsH at h
  split at h
  · rename_i k z off n
    split at h
    · rename_i cs hk
      split at h
      · rename_i hc
        obtain ⟨rfl,hle⟩ := hc
        cases h
        obtain ⟨b,o,cap,hb,hcap,ho,rfl⟩ := inv_msl hv
        obtain ⟨ys,y1,y2,y3,y4⟩ := obj_first (P := P) (cap := cap) hr hk hle hb ho
        obtain ⟨c1,c2,c3⟩ := chop_flat z n (cs.drop off) (by rw [List.length_drop]; omega)
        refine ⟨ys,c3,by rw [c1]; exact y1,by rw [c1]; exact ones_take (ones_drop y3 _) _,by rw [y2,c2],fun w => by rw [c2]; rfl,fun m w hw hm => ?_⟩
        rw [c2] at hm
        subst hm
        exact y4 w hw
      · cases h
    · cases h
  · exact src_of hv h
theorem run_append_no {P : Program} {T U e : TypeId} {d : TypeDesc} {sz : Nat} (ty : TypeId) (hT : P.underlying T = some (.slice e)) (hU : P.underlying U = some d) (hd : ∀ k,d ≠ .int k) (hsz : sizeT P e = some sz) {w : World} {x : Value} {m : Nat} {ys : Array Value}
    (hl : (Builtin.lenOf x).run P w = .ok m w) (hf : (Builtin.firstCells sz m x).run P w = .ok ys w) (base : Option Addr) (n cap : Nat) (hroom : n + m ≤ cap) :
    (Builtin.append_ #[T,U] ty #[.slice base n cap,x]).run P w = ((match base with | some a => storeCells (a.add (n * sz)) ys.toList | none => pure ()).run P w).andThen (fun _ w' => .ok (.slice base (n + m) cap) w') := by
  have hi : (match d with | .int _ => true | _ => false) = false := by cases d <;> first | rfl | (exact absurd rfl (hd _))
  simp [Builtin.append_,run_underlying' hT,run_underlying' hU,sizeT_run hsz,hi,hl,hroom]
  cases base <;> simp [hf]
end Go.Vm
