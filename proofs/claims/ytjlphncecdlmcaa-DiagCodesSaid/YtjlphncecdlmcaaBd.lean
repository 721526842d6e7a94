/- Of the walks of this seat: contracts of functions of the given program, proved over the abstract values of the texts Vm. Conditions: as each theorem says. -/
import Derived.Test.YtjlphncecdlmcaaVmQ
import Derived.OwnWalk
import Derived.Lib.Builder
import Derived.Lib.AppendStr
import Derived.Lib.UnsafeStr
import Derived.Lib.Walk
import Derived.Shelf.RegionOpenPlain
import Derived.Laws.Externs
import Derived.WalkKit
import Derived.Test.YtjlphncecdlmcaaProg
set_option linter.unusedVariables false
set_option linter.unusedSimpArgs false
namespace Go.Proofs.Ytjlphncecdlmcaa
open Go.Shelf Go.RowKit
abbrev TB : Nat := 109
abbrev TE : Nat := 5
theorem sizeB : ∃ j, Try.prog.info? TB = some j ∧ j.size = 2 := by
  have h : (Try.prog.info? TB).map (·.size) = some 2 := by kernel_rfl
  obtain ⟨j, h1, h2⟩ := Option.map_eq_some_iff.1 h
  exact ⟨j, h1, h2⟩
theorem cellsB : Try.prog.cellsOf TB = 2 := by kernel_rfl
set_option maxHeartbeats 1000000 in
set_option maxRecDepth 100000 in
theorem check_used (b : Nat) (w : World) (h0 : w.cell? ⟨b, 0, none⟩ = some (.pointer (some ⟨b, 0, none⟩))) :
    Calls Try.prog 105 #[.pointer (some ⟨b, 0, none⟩)] w fun e w' => e = .returned (.tuple #[]) ∧ w' = w := by
  obtain ⟨j, hj, _⟩ := sizeB
  go_enter Try.func105, Try.ntmps105
  go_wp2
  rw [Lib.run_neq_ptr_same w _ Try.underlying107 hj]
  go_wp2
  go_end0
  exact ⟨rfl, rfl⟩
set_option maxHeartbeats 1000000 in
set_option maxRecDepth 100000 in
theorem check_fresh (b : Nat) (w : World) (h0 : w.cell? ⟨b, 0, none⟩ = some (.pointer none)) (hsh : w.shape? b = some (TB, 2)) (hfz : w.frozen? ⟨b, 0, none⟩ = false) :
    Calls Try.prog 105 #[.pointer (some ⟨b, 0, none⟩)] w fun e w' => e = .returned (.tuple #[]) ∧ w' = w.setCell ⟨b, 0, none⟩ (.pointer (some ⟨b, 0, none⟩)) := by
  obtain ⟨j, hj, hjs⟩ := sizeB
  go_enter Try.func105, Try.ntmps105
  go_wp2
  rw [Lib.run_to_unsafe w ⟨b, 0, none⟩ Try.underlying107 Try.underlying194 hj (by rw [hjs]; decide) hsh (Nat.zero_lt_succ 1)]
  simp only [Result.andThen]
  rw [Oper.upon_value]
  go_wp2
  rw [run_callFunc_extern Try.func134 (by kernel_rfl) (by kernel_rfl) (by kernel_rfl) (e := Extern.AbiNoEscape.same) (by kernel_rfl)]
  rw [Lib.run_noEscape]
  simp only [Result.andThen]
  rw [Oper.upon_value]
  go_wp2
  rw [Lib.run_from_unsafe w ⟨b, 0, none⟩ Try.underlying194 Try.underlying107 hj hsh (by rw [cellsB]; kernel_rfl)]
  simp only [Result.andThen]
  rw [Oper.upon_value]
  go_wp2
  go_end0
  exact ⟨rfl, rfl⟩
theorem andThen_val {α : Type} {r : Result α} {x v : Value} {w1 : World} (h : Result.ok v w1 = r.andThen (fun _ w' => .ok x w')) : v = x := by
  cases r with
  | ok a w => simp only [Result.andThen_ok, Result.ok.injEq] at h; exact h.1
  | halt a w => cases h
theorem andThen_world {α : Type} {r : Result α} {x v : Value} {w1 : World} (h : Result.ok v w1 = r.andThen (fun _ w' => .ok x w')) : ∃ a, r = .ok a w1 := by
  cases r with
  | ok a w => simp only [Result.andThen_ok, Result.ok.injEq] at h; exact ⟨a, by rw [h.2]⟩
  | halt a w => cases h
theorem app_where {P : Program} {w : World} (t u ty e : TypeId) (i : TypeInfo) (ht : P.underlying t = some (.slice e)) (hu : P.underlying u = some .string) (hi : P.info? e = some i) (hz : i.zero = some (.int .u8 0))
    (hsize : i.size = 1) (hby : i.bytes = 1) (v : Value) (n : Nat) (xs : List Value) (hown : w.ownsRow 0 e 1 v n xs) (s : ByteArray) (hbytes : n + s.size ≤ 140737488355328) :
    ∃ v' w', (Builtin.append_ #[t, u] ty #[v, .string s]).run P w = .ok v' w' ∧ w'.ownsRow 0 e 1 v' (n + s.size) (xs ++ Lib.strCells s) ∧ w.grownBy w' v.ownBlock ∧ (v'.ownBlock = v.ownBlock ∨ ∃ g, v'.ownBlock = some g ∧ w.heap.size ≤ g) ∧ w.drawn ≤ w'.drawn := by
  obtain ⟨v', w', h1, h2, h3, h4⟩ := Lib.run_append_own_string (P := P) w 0 t u ty e i ht hu hi hz hsize hby v n xs hown s (by unfold maxLen; omega) hbytes (Nat.zero_le _)
  refine ⟨v', w', h1, h2, h3, ?_⟩
  have hsz : Go.Vm.sizeT P e = some 1 := by simp [Go.Vm.sizeT, hi, hsize]
  have hl : ∀ w, (Builtin.lenOf (.string s)).run P w = .ok s.size w := fun w => by simp [Builtin.lenOf]
  have hf : ∀ w, (Builtin.firstCells 1 s.size (.string s)).run P w = .ok (Lib.strCells s).toArray w := fun w => Lib.run_firstCells_string w 1 s
  obtain ⟨base, cap, rfl, hold⟩ : ∃ base cap, v = .slice base n cap ∧ ∃ olds : Array Value, (Builtin.firstCells 1 n (.slice base n cap)).run P w.drew = .ok olds w.drew := by
    rcases hown.2 with ⟨rfl, rfl⟩ | ⟨g, cap, cur, rfl, r⟩
    · exact ⟨none, 0, rfl, #[], rfl⟩
    · refine ⟨some ⟨g, 0, none⟩, cap, rfl, _, run_firstCells_some w.drew 1 n ⟨g, 0, none⟩ n cap xs hown.1 (fun j u hj => hown.cells rfl j u hj)⟩
  obtain ⟨olds, ho⟩ := hold
  by_cases hroom : n + s.size ≤ cap
  · have hr := Go.Vm.run_append_no (P := P) (w := w) ty ht hu (by simp) hsz (hl w) (hf w) base n cap hroom
    rw [h1] at hr
    have e1 := andThen_val hr
    refine ⟨.inl (by rw [e1]; cases base <;> rfl), ?_⟩
    obtain ⟨u, e2⟩ := andThen_world hr
    rcases hown.2 with ⟨hv, _⟩ | ⟨g, cap', cur, hv, _, q1, q2, q3, q4, _⟩
    · cases hv
      have : Result.ok () w = Result.ok u w' := e2
      cases this; exact Nat.le_refl _
    · cases hv
      have hst := Go.Vm.run_storeCells (P := P) (Lib.strCells s) w cur (n * 1) 0 q1 (.inl (Nat.le_refl _)) (by intro x hx; simp only [Lib.strCells, List.mem_map] at hx; obtain ⟨c, _, rfl⟩ := hx; rfl) (by rw [Lib.strCells_length]; omega)
      have e3 : ((⟨g, 0, none⟩ : Addr).add (n * 1)) = ⟨g, n * 1, none⟩ := by rw [Go.Vm.add_plain]; simp
      simp only [e3] at e2
      rw [hst] at e2
      cases e2
      exact Nat.le_refl _
  · refine ⟨.inr ?_, ?_⟩
    have hr := Go.Vm.run_append_new (P := P) (w := w) ty ht hu (by simp) hi hz (hl w) (by rw [hsize]; exact hf _) (by rw [hsize]; exact ho) (by omega) (by omega) (by rw [hby]; omega)
    rw [h1] at hr
    have e1 := (Result.ok.inj hr).1
    rw [e1]
    exact ⟨_, rfl, Nat.le_refl _⟩
    have hr := Go.Vm.run_append_new (P := P) (w := w) ty ht hu (by simp) hi hz (hl w) (by rw [hsize]; exact hf _) (by rw [hsize]; exact ho) (by omega) (by omega) (by rw [hby]; omega)
    rw [h1] at hr
    rw [(Result.ok.inj hr).2]
    exact Nat.le_succ _
theorem wp_app_where {P : Program} {w : World} {ops : Array Oper} {rest : List Oper} {o : Oper} {a : Act} {Q : Exit → Act → World → Prop} (hgd : o.guard = none) (sl x : Operand) (t u : TypeId)
    (ho : o.op = .call { callee := .builtin .append, args := #[sl, x], argTypes := #[t, u] })
    (e : TypeId) (i : TypeInfo) (ht : P.underlying t = some (.slice e)) (hu : P.underlying u = some .string) (hi : P.info? e = some i) (hz : i.zero = some (.int .u8 0))
    (hsize : i.size = 1) (hby : i.bytes = 1)
    (v : Value) (n : Nat) (xs : List Value) (hs : a.eval sl = v) (hown : w.ownsRow 0 e 1 v n xs) (s : ByteArray) (hx : a.eval x = .string s)
    (hbytes : n + s.size ≤ 140737488355328)
    (h : ∀ v' w', w'.ownsRow 0 e 1 v' (n + s.size) (xs ++ Lib.strCells s) → w.grownBy w' v.ownBlock → (v'.ownBlock = v.ownBlock ∨ ∃ g, v'.ownBlock = some g ∧ w.heap.size ≤ g) → w.drawn ≤ w'.drawn → wpList P ops Q rest (a.put o.dst v') w') : wpList P ops Q (o :: rest) a w := by
  refine wpList_plain hgd fun K hK => ?_
  obtain ⟨v', w', hr, h2, h3, h4, h5⟩ := app_where (P := P) t u o.type e i ht hu hi hz hsize hby v n xs hown s hbytes
  unfold Oper.wp execOp
  simp only [ho, resolve, invoke, builtin, Sem.run_bind, Sem.run_pure, Result.andThen_ok, List.map_toArray, List.map_cons, List.map_nil, hs, hx, hr]
  exact hK _ _ (h v' w' h2 h3 h4 h5)
theorem infoE : ∃ i, Try.prog.info? TE = some i ∧ i.zero = some (.int .u8 0) ∧ i.size = 1 ∧ i.bytes = 1 :=
  info_parts (by kernel_rfl)
def Bld (w : World) (b : Nat) (v : Value) (l : List UInt8) : Prop :=
  ∃ p, w.heap[b]? = some (.cells #[p, v] TB (0, 0)) ∧ (p = .pointer none ∨ p = .pointer (some ⟨b, 0, none⟩)) ∧ w.ownsRow 0 TE 1 v l.length (Lib.byteCells l) ∧ v.ownBlock ≠ some b
theorem check_any {w : World} {b : Nat} {v : Value} {l : List UInt8} (h : Bld w b v l) :
    Calls Try.prog 105 #[.pointer (some ⟨b, 0, none⟩)] w fun e w' => e = .returned (.tuple #[]) ∧ w'.heap[b]? = some (.cells #[.pointer (some ⟨b, 0, none⟩), v] TB (0, 0)) ∧ w.grownBy w' (some b) ∧ w'.heap.size = w.heap.size ∧ w'.drawn = w.drawn := by
  obtain ⟨p, hb, hp, ho, hne⟩ := h
  have hlt : b < w.heap.size := by
    rcases Nat.lt_or_ge b w.heap.size with h' | h'
    · exact h'
    · simp [Array.getElem?_eq_none h'] at hb
  rcases hp with rfl | rfl
  · refine (check_fresh b w (by rw [Lib.cell_of_heap hb]; rfl) (by simp [World.shape?, hb]) (Lib.frozen_of_heap hb 0)).mono ?_
    rintro e w' ⟨rfl, rfl⟩
    rw [Go.Vm.setCell_eq hb]
    refine ⟨rfl, Go.Vm.heap_setBlock_same hlt, ⟨rfl, rfl, rfl, by simp [Go.Vm.setBlock], fun k hk hne => Go.Vm.heap_setBlock_ne (fun e => hne (by rw [e]))⟩, by simp [Go.Vm.setBlock], rfl⟩
  · refine (check_used b w (by rw [Lib.cell_of_heap hb]; rfl)).mono ?_
    rintro e w' ⟨rfl, rfl⟩
    exact ⟨rfl, hb, ⟨rfl, rfl, rfl, Nat.le_refl _, fun _ _ _ => rfl⟩, rfl, rfl⟩
theorem owns_keep {w w' : World} {b : Nat} {v : Value} {n : Nat} {xs : List Value} (h : w.ownsRow 0 TE 1 v n xs) (hg : w.grownBy w' (some b)) (hne : v.ownBlock ≠ some b) : w'.ownsRow 0 TE 1 v n xs := by
  refine ⟨h.1, h.2.imp id ?_⟩
  rintro ⟨g, cap, cur, rfl, h1, h2, r⟩
  refine ⟨g, cap, cur, rfl, h1, ?_, r⟩
  have hlt : g < w.heap.size := by
    rcases Nat.lt_or_ge g w.heap.size with h' | h'
    · exact h'
    · simp [Array.getElem?_eq_none h'] at h2
  rw [hg.block g hlt (fun e => hne (by simpa [Value.ownBlock] using e))]
  exact h2
set_option maxHeartbeats 1000000 in
set_option maxRecDepth 100000 in
theorem write_world {w : World} {b : Nat} {v : Value} {l : List UInt8} (h : Bld w b v l) (s : ByteArray) (hlen : l.length + s.size ≤ 140737488355328) :
    Calls Try.prog 65 #[.pointer (some ⟨b, 0, none⟩), .string s] w fun e w' => e = .returned (.tuple #[.int .i64 s.size, .nilIface]) ∧ ∃ v', Bld w' b v' (l ++ s.data.toList) ∧ (v'.ownBlock = v.ownBlock ∨ ∃ g, v'.ownBlock = some g ∧ w.heap.size ≤ g) ∧
      w'.os = w.os ∧ w'.tape = w.tape ∧ w'.output = w.output ∧ w.drawn ≤ w'.drawn ∧ w.heap.size ≤ w'.heap.size ∧ ∀ c, c < w.heap.size → c ≠ b → v.ownBlock ≠ some c → w'.heap[c]? = w.heap[c]? := by
  obtain ⟨i0, hi, hz0, hz1, hz2⟩ := infoE
  go_enter Try.func65, Try.ntmps65
  go_wp2_with (go_at_call 105; refine (check_any h).mono ?_)
  obtain ⟨p, hb, hp, hown, hne⟩ := h
  rintro e w1 ⟨rfl, hbk, hg1, hs1, hd1⟩
  have hown1 := owns_keep hown hg1 hne
  have c0 : w1.cell? ⟨b, 0, none⟩ = some (.pointer (some ⟨b, 0, none⟩)) := by rw [Lib.cell_of_heap hbk]; rfl
  have c1 : w1.cell? ⟨b, 1, none⟩ = some v := by rw [Lib.cell_of_heap hbk]; rfl
  go_wp2_with (at_builtin; refine wp_app_where rfl _ _ 51 9 rfl TE i0 Try.underlying51 Try.underlying9 hi hz0 hz1 hz2 v _ _ rfl hown1 s rfl hlen ?_)
  intro v' w2 hown' hgrow hwhere hd2
  have hlt : b < w1.heap.size := by
    rcases Nat.lt_or_ge b w1.heap.size with h' | h'
    · exact h'
    · simp [Array.getElem?_eq_none h'] at hbk
  have hb2 : w2.heap[b]? = some (.cells #[.pointer (some ⟨b, 0, none⟩), v] TB (0, 0)) := by
    rw [hgrow.block b hlt (fun e => hne e.symm)]
    exact hbk
  have d0 : w2.cell? ⟨b, 0, none⟩ = some (.pointer (some ⟨b, 0, none⟩)) := by rw [Lib.cell_of_heap hb2]; rfl
  have d1 : w2.cell? ⟨b, 1, none⟩ = some v := by rw [Lib.cell_of_heap hb2]; rfl
  have f1 : w2.frozen? ⟨b, 1, none⟩ = false := Lib.frozen_of_heap hb2 1
  obtain ⟨ao, n', cap, rfl⟩ : ∃ ao n' cap, v' = .slice ao n' cap := by
    rcases hown'.2 with ⟨hv, _⟩ | ⟨g, cap, cur, hv, _⟩
    · exact ⟨_, _, _, hv⟩
    · exact ⟨_, _, _, hv⟩
  go_wp2
  go_ret2
  rw [Go.Vm.setCell_eq hb2]
  have hlt2 : b < w2.heap.size := Nat.lt_of_lt_of_le hlt hgrow.size
  have hne' : (Value.slice ao n' cap).ownBlock ≠ some b := by
    rcases hwhere with e | ⟨g, e, hge⟩
    · rw [e]; exact hne
    · rw [e]; intro e2; cases e2; omega
  refine ⟨rfl, .slice ao n' cap, ⟨_, Go.Vm.heap_setBlock_same hlt2, .inr rfl, ?_, hne'⟩, ?_, ?_, ?_, ?_, ?_, ?_, ?_⟩
  · have e1 : Lib.byteCells (l ++ s.data.toList) = Lib.byteCells l ++ Lib.strCells s := by simp [Lib.byteCells, Lib.strCells]
    rw [e1, List.length_append, Array.length_toList]
    refine owns_keep hown' ?_ hne'
    exact ⟨rfl, rfl, rfl, by simp [Go.Vm.setBlock], fun k hk hne => Go.Vm.heap_setBlock_ne (fun e => hne (by rw [e]))⟩
  · rcases hwhere with e | ⟨g, e, hge⟩
    · exact .inl e
    · exact .inr ⟨g, e, by omega⟩
  · exact hgrow.os.trans hg1.os
  · exact hgrow.tape.trans hg1.tape
  · exact hgrow.output.trans hg1.output
  · show w.drawn ≤ w2.drawn; omega
  · have := hgrow.size; simp [Go.Vm.setBlock]; omega
  · intro c hc hcb hcv
    rw [Go.Vm.heap_setBlock_ne hcb, hgrow.block c (by omega) (fun e => hcv e.symm)]
    exact hg1.block c hc (fun e => hcb (by cases e; rfl))
theorem us_none (W : World) (q : Option Addr) : (Builtin.unsafeString_ #[166, 3] 9 #[.pointer q, .int .i64 0]).run Try.prog W = .ok (.string .empty) W :=
  Lib.run_unsafeString_none W _ _ _ q
def StrOut (w : World) (v : Value) (w' : World) : Prop :=
  w'.os = w.os ∧ w'.tape = w.tape ∧ w'.output = w.output ∧ w.drawn ≤ w'.drawn ∧ w.heap.size ≤ w'.heap.size ∧ (∀ c, c < w.heap.size → v.ownBlock ≠ some c → w'.heap[c]? = w.heap[c]?) ∧ ∀ c, c < w.heap.size → ∀ o, w'.cell? ⟨c, o, none⟩ = w.cell? ⟨c, o, none⟩
theorem strOut_drew (w : World) (v : Value) : StrOut w v w.drew := ⟨rfl, rfl, rfl, Nat.le_succ _, Nat.le_refl _, fun _ _ _ => rfl, fun _ _ _ => rfl⟩
theorem strOut_view (w : World) (v : Value) (o : Obj) : StrOut w v ((w.alloc o).drew) :=
  ⟨rfl, rfl, rfl, Nat.le_succ _, by simp, fun c hc _ => Go.Vm.heap_alloc_lt hc, fun c hc x => Go.Vm.cell_of_block (Go.Vm.heap_alloc_lt hc) x⟩
theorem strOut_freeze (w : World) (g n cap k : Nat) : StrOut w (.slice (some ⟨g, 0, none⟩) n cap) (w.drew.freeze ⟨g, 0, none⟩ k) := by
  have hh : ∀ c, c ≠ g → (w.drew.freeze ⟨g, 0, none⟩ k).heap[c]? = w.heap[c]? := by
    intro c hc
    simp only [World.freeze]
    split
    · rfl
    · show (w.heap.modify g _)[c]? = _
      rw [Array.getElem?_modify, if_neg (fun e => hc e.symm)]
  refine ⟨?_, ?_, ?_, ?_, ?_, fun c hc hne => hh c (fun e => hne (by rw [e]; rfl)), fun c hc x => ?_⟩
  · simp only [World.freeze]; split <;> rfl
  · simp only [World.freeze]; split <;> rfl
  · simp only [World.freeze]; split <;> rfl
  · simp only [World.freeze]; split <;> exact Nat.le_succ _
  · simp only [World.freeze]; split
    · exact Nat.le_refl _
    · show w.heap.size ≤ (w.heap.modify g _).size; simp
  · by_cases e : c = g
    · subst e
      by_cases hk : k = 0
      · simp only [World.freeze, hk, if_true]; rfl
      · have hm : (w.drew.freeze ⟨c, 0, none⟩ k).heap[c]? = (w.heap[c]?).map fun
            | .cells cs elem (lo, hi) => .cells cs elem (if lo == hi then (0, 0 + k) else (min lo 0, max hi (0 + k)))
            | o => o := by
          simp only [World.freeze, if_neg hk]
          show (w.heap.modify c _)[c]? = _
          rw [Array.getElem?_modify, if_pos rfl]
          cases w.heap[c]? with
          | none => rfl
          | some ob =>
            cases ob with
            | cells a b fr => cases fr; rfl
            | _ => rfl
        simp only [World.cell?, hm]
        cases h : w.heap[c]? with
        | none => rfl
        | some ob => cases ob <;> rfl
    · exact Go.Vm.cell_of_block (hh c e) x
set_option maxHeartbeats 2000000 in
set_option maxRecDepth 100000 in
theorem str_nil (b : Nat) (p : Value) (w : World) (hbk : w.heap[b]? = some (.cells #[p, .slice none 0 0] TB (0, 0))) :
    Calls Try.prog 66 #[.pointer (some ⟨b, 0, none⟩)] w fun e w' => e = .returned (.string ⟨#[]⟩) ∧ StrOut w (.slice none 0 0) w' := by
  have hUS := us_none
  have mixed : Try.prog.follows Departure.mixedOrders = true := by kernel_rfl
  have c1 : w.drew.cell? ⟨b, 1, none⟩ = some (.slice none 0 0) := by
    have : w.drew.heap[b]? = some (.cells #[p, .slice none 0 0] TB (0, 0)) := hbk
    rw [Lib.cell_of_heap this]; rfl
  have hSD : (Builtin.unsafeSliceData_ #[51] 166 #[.slice none 0 0]).run Try.prog w.drew = .ok (.pointer none) w.drew := rfl
  go_enter Try.func66, Try.ntmps66
  go_wp2
  go_region_o
  all_goals (go_wp2; go_ret; exact ⟨rfl, strOut_drew _ _⟩)
set_option maxHeartbeats 2000000 in
set_option maxRecDepth 100000 in
theorem str_room (b g cap : Nat) (p : Value) (w : World) (hc0 : cap ≠ 0) (hbk : w.heap[b]? = some (.cells #[p, .slice (some ⟨g, 0, none⟩) 0 cap] TB (0, 0))) :
    Calls Try.prog 66 #[.pointer (some ⟨b, 0, none⟩)] w fun e w' => e = .returned (.string ⟨#[]⟩) ∧ StrOut w (.slice (some ⟨g, 0, none⟩) 0 cap) w' := by
  have hUS := us_none
  have mixed : Try.prog.follows Departure.mixedOrders = true := by kernel_rfl
  have c1 : w.drew.cell? ⟨b, 1, none⟩ = some (.slice (some ⟨g, 0, none⟩) 0 cap) := by
    have : w.drew.heap[b]? = some (.cells #[p, .slice (some ⟨g, 0, none⟩) 0 cap] TB (0, 0)) := hbk
    rw [Lib.cell_of_heap this]; rfl
  have hSD : (Builtin.unsafeSliceData_ #[51] 166 #[.slice (some ⟨g, 0, none⟩) 0 cap]).run Try.prog w.drew = .ok (.pointer (some ⟨g, 0, none⟩)) w.drew :=
    Lib.run_unsafeSliceData_row _ _ _ _ _ _ hc0
  clear hc0
  go_enter Try.func66, Try.ntmps66
  go_wp2
  go_region_o
  all_goals (go_wp2; go_ret; exact ⟨rfl, strOut_drew _ _⟩)
set_option maxHeartbeats 2000000 in
set_option maxRecDepth 100000 in
theorem str_noroom (b g : Nat) (p : Value) (cur : Array Value) (w : World) (hbk : w.heap[b]? = some (.cells #[p, .slice (some ⟨g, 0, none⟩) 0 0] TB (0, 0))) (hg : w.heap[g]? = some (.cells cur TE (0, 0))) :
    Calls Try.prog 66 #[.pointer (some ⟨b, 0, none⟩)] w fun e w' => e = .returned (.string ⟨#[]⟩) ∧ StrOut w (.slice (some ⟨g, 0, none⟩) 0 0) w' := by
  have hUS := us_none
  have mixed : Try.prog.follows Departure.mixedOrders = true := by kernel_rfl
  have hlt : b < w.heap.size := by
    rcases Nat.lt_or_ge b w.heap.size with h' | h'
    · exact h'
    · simp [Array.getElem?_eq_none h'] at hbk
  have c1 : w.drew.cell? ⟨b, 1, none⟩ = some (.slice (some ⟨g, 0, none⟩) 0 0) := by
    have : w.drew.heap[b]? = some (.cells #[p, .slice (some ⟨g, 0, none⟩) 0 0] TB (0, 0)) := hbk
    rw [Lib.cell_of_heap this]; rfl
  have hSD : (Builtin.unsafeSliceData_ #[51] 166 #[.slice (some ⟨g, 0, none⟩) 0 0]).run Try.prog w.drew = .ok (.pointer (some ⟨w.drew.heap.size, 0, none⟩)) (w.drew.alloc (.view ⟨g, 0, none⟩ TE)) :=
    Lib.run_unsafeSliceData_zero w.drew _ _ TE Try.underlying166 ⟨g, 0, none⟩ 0 (TE, cur.size) (by have hg' : w.drew.heap[g]? = some (.cells cur TE (0, 0)) := hg; simp [World.shape?, hg'])
  have c2 : (w.drew.alloc (.view ⟨g, 0, none⟩ TE)).cell? ⟨b, 1, none⟩ = some (.slice (some ⟨g, 0, none⟩) 0 0) := by
    have : (w.drew.alloc (.view ⟨g, 0, none⟩ TE)).heap[b]? = _ := (Lib.alloc_old w.drew _ b hlt).trans hbk
    rw [Lib.cell_of_heap this]; rfl
  have c3 : (w.alloc (.view ⟨g, 0, none⟩ TE)).drew.cell? ⟨b, 1, none⟩ = some (.slice (some ⟨g, 0, none⟩) 0 0) := c2
  have c0 : w.cell? ⟨b, 1, none⟩ = some (.slice (some ⟨g, 0, none⟩) 0 0) := c1
  go_enter Try.func66, Try.ntmps66
  go_wp2
  go_region_o
  all_goals (go_wp2; go_ret; exact ⟨rfl, strOut_view _ _ _⟩)
set_option maxHeartbeats 2000000 in
set_option maxRecDepth 100000 in
theorem str_some (b g cap : Nat) (p : Value) (cur : Array Value) (l : List UInt8) (h0 : l ≠ []) (w : World) (hbk : w.heap[b]? = some (.cells #[p, .slice (some ⟨g, 0, none⟩) l.length cap] TB (0, 0)))
    (hown : w.ownsRow 0 TE 1 (.slice (some ⟨g, 0, none⟩) l.length cap) l.length (Lib.byteCells l)) (hg : w.heap[g]? = some (.cells cur TE (0, 0))) (hnc : l.length ≤ cap) (hcm : cap ≤ maxLen) (hcs : cur.size = cap * 1) :
    Calls Try.prog 66 #[.pointer (some ⟨b, 0, none⟩)] w fun e w' => e = .returned (.string ⟨l.toArray⟩) ∧ StrOut w (.slice (some ⟨g, 0, none⟩) l.length cap) w' := by
  have mixed : Try.prog.follows Departure.mixedOrders = true := by kernel_rfl
  have hl0 : l.length ≠ 0 := by simpa using h0
  have c1 : w.drew.cell? ⟨b, 1, none⟩ = some (.slice (some ⟨g, 0, none⟩) l.length cap) := by
    have : w.drew.heap[b]? = some (.cells #[p, .slice (some ⟨g, 0, none⟩) l.length cap] TB (0, 0)) := hbk
    rw [Lib.cell_of_heap this]; rfl
  have hSD : (Builtin.unsafeSliceData_ #[51] 166 #[.slice (some ⟨g, 0, none⟩) l.length cap]).run Try.prog w.drew = .ok (.pointer (some ⟨g, 0, none⟩)) w.drew :=
    Lib.run_unsafeSliceData_row _ _ _ _ _ _ (by omega)
  have hUS : (Builtin.unsafeString_ #[166, 3] 9 #[.pointer (some ⟨g, 0, none⟩), .int .i64 l.length]).run Try.prog w.drew = .ok (.string ⟨l.toArray⟩) (w.drew.freeze ⟨g, 0, none⟩ l.length) := by
    refine Lib.run_unsafeString_row w.drew 166 3 9 TE Try.underlying166 (by kernel_rfl) g cur.size (by have hg' : w.drew.heap[g]? = some (.cells cur TE (0, 0)) := hg; simp [World.shape?, hg']) l h0 (by omega) (by unfold maxLen at hcm; omega) ?_
    intro j x hx
    exact hown.cells (g := g) rfl j (.int .u8 x.toNat) (by simp [Lib.byteCells, hx])
  go_enter Try.func66, Try.ntmps66
  go_wp2
  go_region_o
  all_goals (go_wp2; go_ret; exact ⟨rfl, strOut_freeze _ _ _ _ _⟩)
theorem str_world {w : World} {b : Nat} {v : Value} {l : List UInt8} (h : Bld w b v l) :
    Calls Try.prog 66 #[.pointer (some ⟨b, 0, none⟩)] w fun e w' => e = .returned (.string ⟨l.toArray⟩) ∧ StrOut w v w' := by
  obtain ⟨p, hb, hp, hown, hne⟩ := h
  rcases hown.2 with ⟨rfl, h0⟩ | ⟨g, cap, cur, rfl, _, hg, hnc, hcm, hcs, _⟩
  · obtain rfl : l = [] := List.length_eq_zero_iff.1 h0
    exact str_nil b p w hb
  · by_cases hl : l = []
    · subst hl
      by_cases hc : cap = 0
      · subst hc; exact str_noroom b g p cur w hb hg
      · exact str_room b g cap p w hc hb
    · exact str_some b g cap p cur l hl w hb hown hg hnc hcm hcs
/-! ### Over the abstract heap -/
open Go.Vm
theorem bld_write {k : Nat} {l s : List UInt8} {H : AH} (hk : H k = some (.bld TB TE l)) (hlen : l.length + s.length ≤ 140737488355328) :
    ACalls Try.prog 65 [.ptr k 0, .str s] H (fun o H' => o = .ret (.tuple [.int .i64 s.length, .nilIface]) ∧ H' = H.put k (.bld TB TE (l ++ s))) := by
  intro st xs hr hv
  cases hv with
  | cons _ x _ xs h1 h2 =>
    cases h2 with
    | cons _ y _ ys h3 h4 =>
      cases h4
      obtain ⟨b, hb, rfl⟩ := inv_ptr h1
      obtain rfl := inv_str h3
      obtain ⟨b', p, v, g1, g2, g3, g4, g5, g6, g7⟩ := hr.obj k _ hk
      rw [hb] at g1; cases g1
      refine (write_world (w := st.w) (b := b) (v := v) (l := l) ⟨p, g3, g4, g5, g6⟩ ⟨s.toArray⟩ (by rw [ba_size]; exact hlen)).mono ?_
      rintro e w' ⟨rfl, v', ⟨p', q1, q2, q3, q4⟩, q5, e1, e2, e3, e0, e4, e5⟩
      have hd : (⟨s.toArray⟩ : ByteArray).data.toList = s := by simp
      rw [hd] at q3
      let s' : St := { w := w', blk := st.blk, tok := st.tok, role := fun c => if v'.ownBlock = some c ∧ st.w.heap.size ≤ c then some (k, 0) else st.role c, nx := st.nx, dr := st.dr }
      have hroleOld : ∀ c, c < st.w.heap.size → s'.role c = st.role c := fun c hc => by simp only [s']; rw [if_neg (by omega)]
      have hheap : ∀ c, c < st.w.heap.size → (∀ e, st.role c ≠ some (k, e)) → w'.heap[c]? = st.w.heap[c]? := fun c hc hn => e5 c hc (fun h => hn 0 (by rw [h]; exact g2)) (fun h => hn 0 (g7 c h))
      have hx : Ext st s' := by
        refine ⟨e1, e2, e3, ⟨rfl, fun _ => e0⟩, e4, fun c hc hn => ⟨by rw [hroleOld c hc]; exact hn, hheap c hc (fun e he => by rw [hn] at he; cases he)⟩, fun c k' e hc he => ⟨.inr ⟨e, Nat.le_refl _, by rw [hroleOld c hc]; exact he⟩, fun o ho => ?_⟩, fun _ _ h => h, fun _ st h => ⟨st, h, .inl rfl⟩, Nat.le_refl _⟩
        by_cases ek : k' = k
        · subst ek
          by_cases e0 : c = b
          · subst e0; rw [g2] at he; cases he; omega
          · by_cases eg : v.ownBlock = some c
            · rw [g7 c eg] at he; cases he; omega
            · exact cell_of_block (e5 c hc e0 eg) o
        · exact cell_of_block (hheap c hc (fun e' he' => by rw [he] at he'; cases he'; exact ek rfl)) o
      have hnew : ∀ c, v'.ownBlock = some c → c < w'.heap.size := fun c hc => (q3.lt c hc).2
      have hrole' : ∀ g, v'.ownBlock = some g → s'.role g = some (k, 0) := by
        intro g hg
        rcases q5 with e | ⟨g', e, hge⟩
        · rw [e] at hg
          have hlt := (hr.role g k 0 (g7 g hg)).2
          rw [hroleOld g hlt]; exact g7 g hg
        · rw [e] at hg; cases hg
          simp only [s']; rw [if_pos ⟨e, hge⟩]
      refine ⟨s', H.put k (.bld TB TE (l ++ s)), .ret (.tuple [.int .i64 s.length, .nilIface]), rfl, hx, ?_, ?_, rfl, rfl⟩
      · refine ⟨fun i o hi => ?_, fun i o hi => ?_, hr.blk, hr.tok, fun c i e he => ?_⟩
        · by_cases ei : i = k
          · subst ei
            rw [AH.put_same] at hi; cases hi
            have hblt := (hr.role b _ 0 g2).2
            exact ⟨b, p', v', hb, by rw [hroleOld b hblt]; exact g2, q1, q2, q3, q4, hrole'⟩
          · rw [AH.put_ne _ _ ei] at hi
            refine ORel.keep hx (fun c e' he => ?_) rfl (hr.obj i o hi)
            have hlt := (hr.role c i e' he).2
            exact ⟨hroleOld c hlt, hheap c hlt (fun e2 h2 => by rw [he] at h2; cases h2; exact ei rfl)⟩
        · by_cases ei : i = k
          · subst ei; exact hr.lt i _ hk
          · rw [AH.put_ne _ _ ei] at hi; exact hr.lt i o hi
        · simp only [s'] at he ⊢
          split at he
          · rename_i hc; cases he
            exact ⟨hr.lt k _ hk, hnew c hc.1⟩
          · have := hr.role c i e he
            exact ⟨this.1, Nat.lt_of_lt_of_le this.2 e4⟩
      · rw [ba_size]
        exact .tuple _ [_, _] (.cons _ _ _ _ (.int _ _) (.cons _ _ _ _ .nilIface .nil))
theorem bld_string {k : Nat} {l : List UInt8} {H : AH} (hk : H k = some (.bld TB TE l)) :
    ACalls Try.prog 66 [.ptr k 0] H (fun o H' => o = .ret (.str l) ∧ H' = H.del k) := by
  intro st xs hr hv
  cases hv with
  | cons _ x _ xs h1 h2 =>
    cases h2
    obtain ⟨b, hb, rfl⟩ := inv_ptr h1
    obtain ⟨b', p, v, g1, g2, g3, g4, g5, g6, g7⟩ := hr.obj k _ hk
    rw [hb] at g1; cases g1
    refine (str_world (w := st.w) (b := b) (v := v) (l := l) ⟨p, g3, g4, g5, g6⟩).mono ?_
    rintro e w' ⟨rfl, e1, e2, e3, e0, e4, e5, e6⟩
    let s' : St := { st with w := w' }
    have hheap : ∀ c, c < st.w.heap.size → (∀ e, st.role c ≠ some (k, e)) → w'.heap[c]? = st.w.heap[c]? := fun c hc hn => e5 c hc (fun h => hn 0 (g7 c h))
    have hx : Ext st s' :=
      ⟨e1, e2, e3, ⟨rfl, fun _ => e0⟩, e4, fun c hc hn => ⟨hn, hheap c hc (fun e he => by rw [hn] at he; cases he)⟩, fun c k' e hc he => ⟨.inr ⟨e, Nat.le_refl _, he⟩, fun o _ => e6 c hc o⟩, fun _ _ h => h, fun _ st h => ⟨st, h, .inl rfl⟩, Nat.le_refl _⟩
    refine ⟨s', H.del k, .ret (.str l), rfl, hx, ?_, .str l, rfl, rfl⟩
    refine ⟨fun i o hi => ?_, fun i o hi => ?_, hr.blk, hr.tok, fun c i e he => ?_⟩
    · by_cases ei : i = k
      · subst ei; simp [AH.del] at hi
      · rw [AH.del_ne _ ei] at hi
        refine ORel.keep hx (fun c e' he => ?_) rfl (hr.obj i o hi)
        have hlt := (hr.role c i e' he).2
        exact ⟨rfl, hheap c hlt (fun e2 h2 => by rw [he] at h2; cases h2; exact ei rfl)⟩
    · by_cases ei : i = k
      · subst ei; simp [AH.del] at hi
      · rw [AH.del_ne _ ei] at hi; exact hr.lt i o hi
    · have := hr.role c i e he
      exact ⟨this.1, Nat.lt_of_lt_of_le this.2 e4⟩
end Go.Proofs.Ytjlphncecdlmcaa
