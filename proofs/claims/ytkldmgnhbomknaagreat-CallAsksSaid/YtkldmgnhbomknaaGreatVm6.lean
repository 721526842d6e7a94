/- Every operation that 'vop' speaks of yields what it says. -/
import Derived.Test.YtkldmgnhbomknaaGreatVm5
set_option linter.unusedVariables false
set_option linter.unusedSimpArgs false
namespace Go.Vm
theorem row_append {s : St} {b o : Nat} {cs ds : List V} (h : Holds s (.row b o cs)) (k : Holds s (.row b (o + cs.length) ds)) : Holds s (.row b o (cs ++ ds)) := by
  induction cs generalizing o with
  | nil => simpa using k
  | cons c cs ih =>
    cases h with
    | rowCons _ _ _ y _ hone h0 h1 h2 =>
      refine .rowCons _ _ _ y _ hone h0 h1 (ih h2 ?_)
      rw [show o + 1 + cs.length = o + (c :: cs).length by simp; omega]; exact k
theorem els_flatten {s : St} {b o sz : Nat} {es : List (List V)} (h : Holds s (.els b o sz es)) : Holds s (.row b o es.flatten) ∧ es.flatten.length = es.length * sz := by
  induction es generalizing o with
  | nil => exact ⟨.rowNil _ _,by simp⟩
  | cons c es ih =>
    cases h with
    | elsCons _ _ _ _ _ h0 h1 h2 =>
      obtain ⟨k1,k2⟩ := ih h2
      refine ⟨?_,by simp [k2,h0,Nat.add_mul]; omega⟩
      simp only [List.flatten_cons]
      exact row_append h1 (by rw [h0]; exact k1)
theorem b2s_sound {P : Program} {s : St} {v : V} {x : Value} (hv : s.val v x) {l : List UInt8} (h : vbytes v = some l) : (Conv.bytesToString x).run P s.w = .ok (.string ⟨l.toArray⟩) s.w := by
  unfold vbytes at h
  split at h
  · cases h; obtain rfl := inv_nilSl hv; rfl
  · rename_i es t
    rcases inv_sl hv with ⟨rfl,rfl,_⟩ | ⟨ad,cap,rfl,rfl,_⟩ | ⟨b,o,cap,rfl,he,hc,ht⟩
    · cases h; rfl
    · cases h; rfl
    · obtain ⟨k1,k2⟩ := els_flatten he
      obtain ⟨ys,y1,y2,y3⟩ := row_vals k1
      have hr := run_loadCellsFrom P s.w b o ys 0 #[] (fun j y hj => by have := (y3 j y hj).1; rw [← this]; congr 2; omega)
      have hlen : ys.length = es.length := by rw [y2,k2]; omega
      rw [hlen] at hr
      simp only [Conv.bytesToString,loadCells,Sem.run_bind,hr,Result.andThen_ok,Array.empty_append]
      rw [List.forIn_toArray,(bytesOf_vals (fun n r => rfl) h y1).2]
      simp [ByteArray.empty,ByteArray.emptyWithCapacity]
      rfl
  · cases h
theorem b2sH_sound {P : Program} {s : St} {H : AH} (hr : HRel s H) {v : V} {x : Value} (hv : s.val v x) {l : List UInt8} (h : vbytesH H v = some l) : (Conv.bytesToString x).run P s.w = .ok (.string ⟨l.toArray⟩) s.w := by
  unfold vbytesH at h
  split at h
  · rename_i k off n
    split at h
    · rename_i cs hk
      split at h
      · rename_i hle
        obtain ⟨b,o,cap,hb,hc,ho,rfl⟩ := inv_msl hv
        obtain ⟨b',ys,zs,T,fr,h1,_,h3,_,h4,_⟩ := hr.obj k _ hk
        rw [hb] at h1; cases h1
        have hvs : s.vals ((cs.drop off).take n) ((ys.toList.drop off).take n) := by
          have hd : ∀ (n : Nat) (cs : List V) (ys : List Value),s.vals cs ys → s.vals (cs.drop n) (ys.drop n) := by
            intro n
            induction n with
            | zero => intro cs ys h; exact h
            | succ n ih => intro cs ys h; cases h with | nil => exact .nil | cons _ _ _ _ h1 h2 => exact ih _ _ h2
          have ht : ∀ (n : Nat) (cs : List V) (ys : List Value),s.vals cs ys → s.vals (cs.take n) (ys.take n) := by
            intro n
            induction n with
            | zero => intro cs ys h; exact .nil
            | succ n ih => intro cs ys h; cases h with | nil => exact .nil | cons _ _ _ _ h1 h2 => exact .cons _ _ _ _ h1 (ih _ _ h2)
          exact ht _ _ _ (hd _ _ _ h4)
        have hyl := vals_length h4
        have hlen : ((ys.toList.drop off).take n).length = n := by simp at hyl ⊢; omega
        have hrun : (loadCells ⟨b,o,none⟩ n).run P s.w = .ok ((ys.toList.drop off).take n).toArray s.w := by
          rcases Nat.eq_zero_or_pos n with rfl | hpos
          · simp [loadCells,loadCellsFrom]
          · obtain rfl : o = off := by omega
            have hrr := run_loadCellsFrom P s.w b o ((ys.toList.drop o).take n) 0 #[] (fun j y hj => by
              have hj' : ys[o + j]? = some y := by
                rw [List.getElem?_take] at hj
                split at hj
                · simpa using hj
                · cases hj
              have hlt := (Array.getElem?_eq_some_iff.1 hj').1
              rw [obj_cell h3,Nat.zero_add,Array.getElem?_append_left hlt]; exact hj')
            rw [hlen] at hrr
            simpa [loadCells] using hrr
        simp only [Conv.bytesToString,Sem.run_bind,hrun,Result.andThen_ok]
        rw [List.forIn_toArray,(bytesOf_vals (fun n r => rfl) h hvs).2]
        simp [ByteArray.empty,ByteArray.emptyWithCapacity]
        rfl
      · cases h
    · cases h
  · exact b2s_sound hv h
theorem run_iaddr {P : Program} {T e : TypeId} {sz : Nat} (hT : P.underlying T = some (.slice e)) (hsz : sizeT P e = some sz) (w : World) (b o n c : Nat) (k : IntKind) (i : Int) (h0 : 0 ≤ i) (h1 : i < n) :
    (Instr.indexAt T (.slice (some ⟨b,o,none⟩) n c) (.int k i)).run P w = .ok (.pointer (some ⟨b,o + i.toNat * sz,none⟩)) w := by
  simp only [Instr.indexAt,asIntOf,Sem.run_bind,Sem.run_pure,Result.andThen_ok,run_underlying' hT]
  rw [if_pos ⟨h0,h1⟩]
  simp [sizeT_run hsz,add_plain]
theorem map_toArr {α β : Type} (xs : Array α) (f : α → β) : xs.map f = (xs.toList.map f).toArray := by
  apply Array.ext'
  simp
theorem ents_length {s : St} {es : List (V × V)} {ms : List MapEntry} (h : Holds s (.ents es ms)) : ms.length = es.length := by
  induction es generalizing ms with
  | nil => cases h; rfl
  | cons e es ih => cases h with | entsCons _ _ _ _ _ _ _ h => simp [ih h]
theorem len_sound {P : Program} {T t : TypeId} {lk : LenK} {d : TypeDesc} (hT : P.underlying T = some d) (hd : match lk,d with | .str,.string | .sl,.slice _ | .map,.map _ _ => True | _,_ => False)
    {s : St} {H : AH} (hr : HRel s H) {v : V} {x : Value} (hv : s.val v x) {k : V → Prop} (h : vlen H lk v k) : YieldsV P s (Builtin.len_ #[T] t #[x]) k := by
  have hu := run_underlying' hT
  cases v <;> simp only [vlen] at h <;> try exact h.elim
  case str l =>
    obtain ⟨rfl,h⟩ := h
    obtain rfl := inv_str hv
    cases d <;> simp only at hd
    exact ⟨_,_,by simp [Builtin.len_,hu,goInt,ba_size]; try rfl,.int _ _,h⟩
  case nilSl =>
    obtain ⟨rfl,h⟩ := h
    obtain rfl := inv_nilSl hv
    cases d <;> simp only at hd
    exact ⟨_,_,by simp [Builtin.len_,hu,goInt]; try rfl,.int _ _,h⟩
  case sl z es t =>
    obtain ⟨rfl,h⟩ := h
    cases d <;> simp only at hd
    rcases inv_sl hv with ⟨rfl,rfl,_⟩ | ⟨ad,cap,rfl,rfl,_⟩ | ⟨b,o,cap,rfl,_⟩
    · exact ⟨_,_,by simp [Builtin.len_,hu,goInt]; try rfl,.int _ _,h⟩
    · exact ⟨_,_,by simp [Builtin.len_,hu,goInt]; try rfl,.int _ _,h⟩
    · exact ⟨_,_,by simp [Builtin.len_,hu,goInt]; try rfl,.int _ _,h⟩
  case msl i z off n =>
    obtain ⟨rfl,h⟩ := h
    cases d <;> simp only at hd
    obtain ⟨b,o,cap,_,_,_,rfl⟩ := inv_msl hv
    exact ⟨_,_,by simp [Builtin.len_,hu,goInt]; try rfl,.int _ _,h⟩
  case nilMap =>
    obtain ⟨rfl,h⟩ := h
    cases hv
    cases d <;> simp only at hd
    exact ⟨_,_,by simp [Builtin.len_,hu,goInt]; try rfl,.int _ _,h⟩
  case mapv es =>
    obtain ⟨rfl,h⟩ := h
    cases hv with
    | mapv _ b ms c h1 h2 h3 h4 =>
      cases d <;> simp only at hd
      refine ⟨_,_,?_,.int .i64 es.length,h⟩
      have hl : ms.size = es.length := by simpa using ents_length h4
      simp [Builtin.len_,hu,goInt,getObj,Sem.run,h3,hl]
  case map i =>
    obtain ⟨ob,hob,h⟩ := need_elim h
    cases ob <;> (try simp only at h) <;> try exact h.elim
    rename_i es
    obtain ⟨hlk,h⟩ := h
    subst hlk
    cases hv with
    | map _ b hb =>
      obtain ⟨b',ms,c,h1,h2,h3,h4,_⟩ := hr.obj i _ hob
      rw [hb] at h1; cases h1
      cases d <;> simp only at hd
      have hl : ms.size = es.length := by simpa using ents_length h4
      refine ⟨_,_,?_,.int .i64 es.length,by assumption⟩
      simp [Builtin.len_,hu,goInt,getObj,Sem.run,h3,hl]
theorem inv_float {s : St} {k : FloatKind} {n : Nat} {x : Value} (h : s.val (.float k n) x) : x = .float k n := by cases h; rfl
theorem inv_complex {s : St} {k : FloatKind} {n m : Nat} {x : Value} (h : s.val (.complex k n m) x) : x = .complex k n m := by cases h; rfl
theorem evs_one {a : A} {x : Opd} {vs : List V} (h : a.evs [x] = some vs) : ∃ v,a.ev x = some v ∧ vs = [v] := by
  cases hu : a.ev x with
  | none => simp [A.evs,hu] at h
  | some u => simp only [A.evs,hu,Option.some.injEq] at h; exact ⟨u,rfl,h.symm⟩
theorem evs_two {a : A} {x y : Opd} {vs : List V} (h : a.evs [x,y] = some vs) : ∃ u v,a.ev x = some u ∧ a.ev y = some v ∧ vs = [u,v] := by
  cases hu : a.ev x with
  | none => simp [A.evs,hu] at h
  | some u =>
    cases hv : a.ev y with
    | none => simp [A.evs,hu,hv] at h
    | some v => simp only [A.evs,hu,hv,Option.some.injEq] at h; exact ⟨u,v,rfl,rfl,h.symm⟩
theorem yval_cplx {H : AH} {u1 u2 v : V} (h : yval .cplx H [u1,u2] = some v) : ∃ p q,u1 = .float .f64 p ∧ u2 = .float .f64 q ∧ v = .complex .f64 p q := by
  cases u1 <;> (try (simp [yval] at h; done))
  cases u2 <;> (try (simp [yval] at h; done))
  rename_i k p k2 q
  cases k <;> (try (simp [yval] at h; done))
  cases k2 <;> (try (simp [yval] at h; done))
  simp only [yval,Option.some.injEq] at h
  exact ⟨p,q,rfl,rfl,h.symm⟩
theorem yval_creal {H : AH} {u v : V} (h : yval .creal H [u] = some v) : ∃ p q,u = .complex .f64 p q ∧ v = .float .f64 p := by
  cases u <;> (try (simp [yval] at h; done))
  rename_i k p q
  cases k <;> (try (simp [yval] at h; done))
  simp only [yval,Option.some.injEq] at h
  exact ⟨p,q,rfl,h.symm⟩
theorem yval_cimag {H : AH} {u v : V} (h : yval .cimag H [u] = some v) : ∃ p q,u = .complex .f64 p q ∧ v = .float .f64 q := by
  cases u <;> (try (simp [yval] at h; done))
  rename_i k p q
  cases k <;> (try (simp [yval] at h; done))
  simp only [yval,Option.some.injEq] at h
  exact ⟨p,q,rfl,h.symm⟩
theorem yval_i2f {H : AH} {u v : V} (h : yval .i2f H [u] = some v) : ∃ k n,u = .int k n ∧ v = .float .f64 (FloatKind.f64.nearest n) := by
  cases u <;> (try (simp [yval] at h; done))
  rename_i k n
  simp only [yval,Option.some.injEq] at h
  exact ⟨k,n,rfl,h.symm⟩
theorem yval_f2i {H : AH} {k : IntKind} {u v : V} (h : yval (.f2i k) H [u] = some v) : ∃ b n,u = .float .f64 b ∧ floatToIntVal .f64 b k = some n ∧ v = .int k n := by
  cases u <;> (try (simp [yval] at h; done))
  rename_i q b
  cases q <;> (try (simp [yval] at h; done))
  simp only [yval,Option.map_eq_some_iff] at h
  obtain ⟨n,h1,h2⟩ := h
  exact ⟨b,n,rfl,h1,h2.symm⟩
theorem cop_sound {P : Program} {dst : Option Tmp} {c : Call} {type : TypeId} {pos : String} {after : Array Edge} {guard : Option (Nat × Bool)} {q : VOp} (h : copOf P c = some q) {a : A} {H : AH} {s : St} {act : Act} (hr : HRel s H) (ha : ARel s a act) {k : V → Prop} (hk : vop q a H k) :
    Yields P s (execOp act.eval ⟨dst,.call c,type,pos,after,guard⟩) k := by
  obtain ⟨callee,args,Ts⟩ := c
  unfold copOf at h
  simp only at h
  split at h
  · rename_i b
    have hex : ∀ m : Sem Value,builtin b Ts type (args.map fun | .const _ => true | _ => false) (args.map act.eval) = (do pure (.value (← m)) : Sem Next) → YieldsV P s m k → Yields P s (execOp act.eval ⟨dst,.call ⟨.builtin b,args,Ts⟩,type,pos,after,guard⟩) k := by
      intro m hm hy
      have := hy.lift
      rw [← hm] at this
      exact this
    unfold bopOf at h
    split at h
    · rename_i x T h1 h2
      obtain rfl : args = #[x] := by rw [← @Array.toArray_toList _ args,h1]
      obtain rfl : Ts = #[T] := by rw [← @Array.toArray_toList _ Ts,h2]
      split at h
      · rename_i x' hT hx
        cases h
        obtain ⟨v,hv,hk⟩ := need_elim hk
        exact hex _ rfl (by have := len_sound (t := type) (lk := .str) hT trivial hr (opd_holds ha hx hv) hk; simpa using this)
      · rename_i x' e hT hx
        cases h
        obtain ⟨v,hv,hk⟩ := need_elim hk
        exact hex _ rfl (by have := len_sound (t := type) (lk := .sl) hT trivial hr (opd_holds ha hx hv) hk; simpa using this)
      · rename_i x' e1 e2 hT hx
        cases h
        obtain ⟨v,hv,hk⟩ := need_elim hk
        exact hex _ rfl (by have := len_sound (t := type) (lk := .map) hT trivial hr (opd_holds ha hx hv) hk; simpa using this)
      · cases h
    · rename_i x y h1
      obtain rfl : args = #[x,y] := by rw [← @Array.toArray_toList _ args,h1]
      split at h
      · rename_i x' y' hx hy
        cases h
        obtain ⟨u,hu,hk⟩ := need_elim hk
        have hx := opd_holds ha hx hu
        cases u <;> (try simp only at hk) <;> try exact hk.elim
        rename_i i n
        obtain ⟨v,hv,hk⟩ := need_elim hk
        have hy := opd_holds ha hy hv
        cases v <;> (try simp only at hk) <;> try exact hk.elim
        rename_i j m
        obtain ⟨hij,hk⟩ := hk
        refine hex _ rfl ⟨.int i (if m > n then m else n),_,?_,?_,hk⟩
        · simp [Builtin.max_,Builtin.max2,inv_int hx,inv_int hy]
        · rw [show (if m > n then m else n) = max n m by omega]; exact .int _ _
      · cases h
    · rename_i x y h1
      obtain rfl : args = #[x,y] := by rw [← @Array.toArray_toList _ args,h1]
      split at h
      · rename_i x' y' hx hy
        cases h
        obtain ⟨u,hu,hk⟩ := need_elim hk
        have hx := opd_holds ha hx hu
        cases u <;> (try simp only at hk) <;> try exact hk.elim
        rename_i i n
        obtain ⟨v,hv,hk⟩ := need_elim hk
        have hy := opd_holds ha hy hv
        cases v <;> (try simp only at hk) <;> try exact hk.elim
        rename_i j m
        obtain ⟨hij,hk⟩ := hk
        refine hex _ rfl ⟨.int i (if m < n then m else n),_,?_,?_,hk⟩
        · simp [Builtin.min_,Builtin.min2,inv_int hx,inv_int hy]
        · rw [show (if m < n then m else n) = min n m by omega]; exact .int _ _
      · cases h
    · rename_i x y h1
      obtain rfl : args = #[x,y] := by rw [← @Array.toArray_toList _ args,h1]
      split at h
      · rename_i x' y' hx hy
        cases h
        obtain ⟨vs,hvs,hk⟩ := need_elim hk
        obtain ⟨v,hyv,hk⟩ := need_elim hk
        obtain ⟨u1,u2,e1,e2,rfl⟩ := evs_two hvs
        have g1 := opd_holds ha hx e1
        have g2 := opd_holds ha hy e2
        obtain ⟨p,q,rfl,rfl,rfl⟩ := yval_cplx hyv
        refine hex _ rfl ⟨_,_,?_,.complex .f64 p q,hk⟩
        have f1 := inv_float g1
        have f2 := inv_float g2
        have := run_complex (P := P) s.w Ts type .f64 p q
        simpa [f1,f2] using this
      · cases h
    · rename_i x h1
      obtain rfl : args = #[x] := by rw [← @Array.toArray_toList _ args,h1]
      simp only [Option.map_eq_some_iff] at h
      obtain ⟨x',hx,rfl⟩ := h
      obtain ⟨vs,hvs,hk⟩ := need_elim hk
      obtain ⟨v,hyv,hk⟩ := need_elim hk
      obtain ⟨u1,e1,rfl⟩ := evs_one hvs
      have g1 := opd_holds ha hx e1
      obtain ⟨p,q,rfl,rfl⟩ := yval_creal hyv
      refine hex _ rfl ⟨_,_,?_,.float .f64 p,hk⟩
      have := run_real (P := P) s.w Ts type .f64 p q
      simpa [inv_complex g1] using this
    · rename_i x h1
      obtain rfl : args = #[x] := by rw [← @Array.toArray_toList _ args,h1]
      simp only [Option.map_eq_some_iff] at h
      obtain ⟨x',hx,rfl⟩ := h
      obtain ⟨vs,hvs,hk⟩ := need_elim hk
      obtain ⟨v,hyv,hk⟩ := need_elim hk
      obtain ⟨u1,e1,rfl⟩ := evs_one hvs
      have g1 := opd_holds ha hx e1
      obtain ⟨p,q,rfl,rfl⟩ := yval_cimag hyv
      refine hex _ rfl ⟨_,_,?_,.float .f64 q,hk⟩
      have := run_imag (P := P) s.w Ts type .f64 p q
      simpa [inv_complex g1] using this
    · cases h
  · cases h
theorem inv_iface {s : St} {t : Nat} {v : V} {x : Value} (h : s.val (.iface t v) x) : ∃ y,s.val v y ∧ x = .iface t y := by
  cases h; exact ⟨_,by assumption,rfl⟩
theorem inv_nilIface {s : St} {x : Value} (h : s.val .nilIface x) : x = .nilIface := by
  cases h; rfl
theorem mapT_spec {P : Program} {T e : TypeId} {kk : BK} (h : mapT P T = some (kk,e)) : ∃ k d,P.underlying T = some (.map k e) ∧ P.underlying k = some d ∧ kdOf d = some kk := by
  unfold mapT at h
  split at h
  · rename_i k e' hT
    split at h
    · rename_i d hd
      simp only [Option.map_eq_some_iff,Prod.mk.injEq] at h
      obtain ⟨kk',h1,rfl,rfl⟩ := h
      exact ⟨k,d,hT,hd,h1⟩
    · cases h
  · cases h
theorem run_checkKey {P : Program} {k : TypeId} {d : TypeDesc} {kk : BK} (hd : P.underlying k = some d) (hk : kdOf d = some kk) (b : Bool) (n : Nat) (x : Value) (w : World) : (Instr.checkKey b (n + 1) k x).run P w = .ok () w := by
  cases d <;> simp only [kdOf] at hk <;> first | (cases hk; done) | (simp [Instr.checkKey,run_underlying' hd])
theorem same_now {d : TypeDesc} {kk : BK} (hk : kdOf d = some kk) {s : St} {u v : V} {x y : Value} (hx : s.val u x) (hy : s.val v y) {b : Bool} (h : kk.eq u v = some b) : Instr.sameNow d x y = some b ∧ (b = true → x = y ∧ Instr.sameBits 10000 x x = true) := by
  cases d <;> simp only [kdOf,Option.some.injEq,reduceCtorEq] at hk <;> subst hk <;> cases u <;> cases v <;> simp only [BK.eq,reduceCtorEq] at h
  · cases hx; cases hy
    cases h
    refine ⟨rfl,fun e => ?_⟩
    simp only [beq_iff_eq] at e
    subst e; simp [Instr.sameBits]
  · obtain rfl := inv_int hx; obtain rfl := inv_int hy
    split at h
    · rename_i e; subst e; cases h
      refine ⟨by simp only [Instr.sameNow,if_true,Option.some.injEq]; rw [Bool.eq_iff_iff]; simp,fun e => ?_⟩
      simp only [decide_eq_true_eq] at e
      subst e; simp [Instr.sameBits]
    · cases h
  · obtain rfl := inv_str hx; obtain rfl := inv_str hy
    cases h
    refine ⟨?_,fun e => ?_⟩
    · simp only [Instr.sameNow,Option.some.injEq]
      rw [Bool.eq_iff_iff,decide_eq_true_eq,MapKept.bytes_beq]
      exact ⟨fun e => by cases e; rfl,fun e => by rw [e]⟩
    · simp only [decide_eq_true_eq] at e
      subst e; exact ⟨rfl,MapKept.sameBits_self (d := .string) (by simp [MapKept.IsKey]) _⟩
theorem mfind_cases {d : TypeDesc} {kk : BK} (hk : kdOf d = some kk) {s : St} {key : V} {x : Value} (hx : s.val key x) : ∀ {es : List (V × V)} {ms : List MapEntry},Holds s (.ents es ms) → ∀ {r : Option V},mfind kk key es = some r → ∀ n : Nat,
    (r = none ∧ Instr.findNow d x ms n = some none ∧ (∀ v,mput kk key v es = es ++ [(key,v)]) ∧ mdel kk key es = es) ∨
    ∃ i m k v,ms[i]? = some m ∧ es[i]? = some (k,v) ∧ r = some v ∧ Instr.findNow d x ms n = some (some (n + i,m.val)) ∧ m.key = x ∧ Instr.sameBits 10000 x x = true ∧ (∀ v,mput kk key v es = es.set i (key,v)) ∧ mdel kk key es = es.eraseIdx i
  | [],ms,he,r,h,n => by
    cases he; cases h
    exact .inl ⟨rfl,rfl,fun _ => rfl,rfl⟩
  | (k,v) :: es,ms,he,r,h,n => by
    cases he with
    | entsCons _ _ m _ ms h1 h2 h3 =>
      simp only [mfind] at h
      cases hb : kk.eq key k with
      | none => rw [hb] at h; cases h
      | some b =>
        obtain ⟨e1,e2⟩ := same_now hk hx h1 hb
        cases b with
        | true =>
          rw [hb] at h; cases h
          obtain ⟨e3,e4⟩ := e2 rfl
          refine .inr ⟨0,m,k,v,rfl,rfl,rfl,by simp [Instr.findNow,e1],e3.symm,e4,fun u => by simp [mput,hb],by simp [mdel,hb]⟩
        | false =>
          rw [hb] at h
          rcases mfind_cases hk hx h3 h (n + 1) with ⟨g1,g2,g3,g4⟩ | ⟨i,m',k',v',g1,g2,g3,g4,g5,g6,g7,g8⟩
          · exact .inl ⟨g1,by simp [Instr.findNow,e1,g2],fun u => by simp [mput,hb,g3 u],by simp [mdel,hb,g4]⟩
          · refine .inr ⟨i + 1,m',k',v',by simpa using g1,by simpa using g2,g3,?_,g5,g6,fun u => by simp [mput,hb,g7 u],by simp [mdel,hb,g8]⟩
            simp only [Instr.findNow,e1,g4]
            rw [show n + 1 + i = n + (i + 1) by omega]
theorem ents_get {s : St} : ∀ {es : List (V × V)} {ms : List MapEntry},Holds s (.ents es ms) → ∀ {i : Nat} {k v : V} {m : MapEntry},es[i]? = some (k,v) → ms[i]? = some m → s.val k m.key ∧ s.val v m.val
  | [],_,_,i,k,v,m,h,_ => by simp at h
  | (k0,v0) :: es,ms,he,i,k,v,m,h1,h2 => by
    cases he with
    | entsCons _ _ m0 _ ms g1 g2 g3 =>
      cases i with
      | zero => simp at h1 h2; obtain ⟨rfl,rfl⟩ := h1; subst h2; exact ⟨g1,g2⟩
      | succ i => exact ents_get g3 (by simpa using h1) (by simpa using h2)
theorem run_findKey {P : Program} {k : TypeId} {d : TypeDesc} {x : Value} {ms : List MapEntry} {r : Option (Nat × Value)} (hd : P.underlying k = some d) (h : Instr.findNow d x ms 0 = some r) (w : World) : (Instr.findKey k x ms).run P w = .ok r w := by
  simp [Instr.findKey,run_underlying' hd,h]
theorem look_core {P : Program} {T e : TypeId} {kk : BK} (hT : mapT P T = some (kk,e)) {z : V} (hz : zeroV P e = some z) {s : St} {key : V} {m x : Value} (hx : s.val key x) {es : List (V × V)} {ms : Array MapEntry} (hes : Holds s (.ents es ms.toList))
    (hm : (match m with | .map none => ms = #[] | .map (some b) => ∃ c,s.w.heap[b]? = some (.map ms c) | _ => False)) {r : Option V} (hr : mfind kk key es = some r) (ok : Bool) : ∃ y,(Instr.lookup T m x ok).run P s.w = .ok y s.w ∧ s.val (mres ok z r) y := by
  obtain ⟨k,d,h1,h2,h3⟩ := mapT_spec hT
  obtain ⟨zv,z1,z2⟩ := zeroV_holds hz
  have hck := fun b => run_checkKey h2 h3 b 9999 x s.w
  have run : ∀ q : Option (Nat × Value),Instr.findNow d x ms.toList 0 = some q → (Instr.lookup T m x ok).run P s.w = .ok (match q with | some (_,v) => (if ok then .tuple #[v,.bool true] else v) | none => (if ok then .tuple #[zv,.bool false] else zv)) s.w := by
    intro q hq
    have hf := run_findKey (P := P) h2 hq s.w
    cases m <;> try (exact False.elim hm)
    rename_i o
    cases o with
    | none =>
      have hm : ms = #[] := hm
      subst hm
      cases q with
      | none => cases ok <;> simp [Instr.lookup,run_underlying' h1,hck,hf,z1]
      | some p => cases ok <;> simp [Instr.lookup,run_underlying' h1,hck,hf,z1]
    | some b =>
      obtain ⟨c,hc⟩ := hm
      cases q with
      | none => cases ok <;> simp [Instr.lookup,run_underlying' h1,MapKept.run_getObj_map hc,hck,hf,z1]
      | some p => cases ok <;> simp [Instr.lookup,run_underlying' h1,MapKept.run_getObj_map hc,hck,hf,z1]
  rcases mfind_cases h3 hx hes hr 0 with ⟨rfl,g2,_,_⟩ | ⟨i,me,k',v',g1,g2,rfl,g4,_⟩
  · refine ⟨_,run _ g2,?_⟩
    cases ok
    · simpa [mres] using z2 s
    · simpa [mres] using Holds.tuple _ [_,_] (.cons _ _ _ _ (z2 s) (.cons _ _ _ _ (.bool _) .nil))
  · have hv := (ents_get hes g2 g1).2
    refine ⟨_,run _ g4,?_⟩
    cases ok
    · simpa [mres] using hv
    · simpa [mres] using Holds.tuple _ [_,_] (.cons _ _ _ _ hv (.cons _ _ _ _ (.bool _) .nil))
theorem inv_nilMap {s : St} {x : Value} (h : s.val .nilMap x) : x = .map none := by cases h; rfl
theorem inv_map {s : St} {k : Nat} {x : Value} (h : s.val (.map k) x) : ∃ b,s.blk k = some b ∧ x = .map (some b) := by cases h; exact ⟨_,by assumption,rfl⟩
theorem inv_mapv {s : St} {es : List (V × V)} {x : Value} (h : s.val (.mapv es) x) : ∃ b ms c,x = .map (some b) ∧ s.w.heap[b]? = some (.map ms c) ∧ Holds s (.ents es ms.toList) := by cases h; exact ⟨_,_,_,rfl,by assumption,by assumption⟩
theorem vop_sound {P : Program} {o : Oper} {q : VOp} (h : vopOf P o.op = some q) {a : A} {H : AH} {s : St} {act : Act} (hr : HRel s H) (ha : ARel s a act) {k : V → Prop} (hk : vop q a H k) : Yields P s (execOp act.eval o) k := by
  obtain ⟨dst,op,type,pos,after,guard⟩ := o
  simp only at h
  have one : ∀ {x : Operand} {f : Opd → VOp},(opdOf x).map f = some q → ∃ y,opdOf x = some y ∧ q = f y := by
    intro x f h; simp only [Option.map_eq_some_iff] at h; obtain ⟨y,h1,rfl⟩ := h; exact ⟨y,h1,rfl⟩
  cases op <;> simp only [vopOf] at h <;> try (cases h; done)
  case move x =>
    obtain ⟨y,hy,rfl⟩ := one h
    obtain ⟨v,hv,hk⟩ := need_elim hk
    exact ⟨_,v,rfl,opd_holds ha hy hv,hk⟩
  case assign x =>
    obtain ⟨y,hy,rfl⟩ := one h
    obtain ⟨v,hv,hk⟩ := need_elim hk
    exact ⟨_,v,rfl,opd_holds ha hy hv,hk⟩
  case pick c x y =>
    split at h
    · rename_i c' x' y' h1 h2 h3
      cases h
      obtain ⟨v,hv,hk⟩ := need_elim hk
      have hc := opd_holds ha h1 hv
      cases v <;> (try simp only at hk) <;> try exact hk.elim
      rename_i b
      cases b
      · obtain ⟨u,hu,hk⟩ := need_elim hk
        exact ⟨_,u,by simp [execOp,val_bool hc,asBool],opd_holds ha h3 hu,hk⟩
      · obtain ⟨u,hu,hk⟩ := need_elim hk
        exact ⟨_,u,by simp [execOp,val_bool hc,asBool],opd_holds ha h2 hu,hk⟩
    · cases h
  case load T x =>
    split at h
    · rename_i agg sz x' h1 h2
      cases h
      obtain ⟨p,hp,hk⟩ := need_elim hk
      exact (load_sound (tinfo_TI h1) hr (opd_holds ha h2 hp) hk).lift
    · cases h
  case nilCheck x =>
    obtain ⟨y,hy,rfl⟩ := one h
    obtain ⟨v,hv,hk⟩ := need_elim hk
    have hx := opd_holds ha hy hv
    cases v <;> (try simp only at hk) <;> try exact hk.elim
    case ptr i o => obtain ⟨b,hb,e⟩ := inv_ptr hx; exact ⟨_,_,by simp [execOp,e]; try rfl,.ptr i o b hb,hk⟩
    case rptr cs o => obtain ⟨b,o',hrow,e⟩ := inv_rptr hx; exact ⟨_,_,by simp [execOp,e]; try rfl,.rptr cs o b o' hrow,hk⟩
    case func fn xs ys =>
      cases fn <;> (try simp only at hk) <;> try exact hk.elim
      obtain ⟨us,vs,h1,h2,e⟩ := inv_func hx
      exact ⟨_,_,by simp [execOp,e]; try rfl,.func _ _ _ us vs h1 h2,hk⟩
  case binOp bop T x y yT =>
    split at h
    · cases h
    split at h
    · rename_i x' y' h1 h2
      cases h
      obtain ⟨u,hu,hk⟩ := need_elim hk
      obtain ⟨v,hv,hk⟩ := need_elim hk
      exact (bin_sound (X := x) (Y := y) (opd_holds ha h1 hu) (opd_holds ha h2 hv) hk).lift
    · cases h
  case unOp uop T x =>
    rw [Option.bind_eq_some_iff] at h
    obtain ⟨y,hy,h⟩ := h
    cases uop <;> simp only [uopOf] at h <;> try (cases h; done)
    · cases h
      obtain ⟨v,hv,hk⟩ := need_elim hk
      have hx := opd_holds ha hy hv
      cases v <;> (try simp only at hk) <;> try exact hk.elim
      exact ⟨_,_,by simp only [execOp,inv_int hx,Op.unary,Op.intArith,Sem.run_bind,Sem.run_pure,Result.andThen_ok]; try rfl,.int _ _,hk⟩
    · cases h
      obtain ⟨v,hv,hk⟩ := need_elim hk
      have hx := opd_holds ha hy hv
      cases v <;> (try simp only at hk) <;> try exact hk.elim
      exact ⟨_,_,by simp only [execOp,val_bool hx,Op.unary,Sem.run_bind,Sem.run_pure,Result.andThen_ok]; try rfl,.bool _,hk⟩
  case convert S T x =>
    split at h
    · rename_i k1 k2 x' h1 h2 h3
      cases h
      obtain ⟨v,hv,hk⟩ := need_elim hk
      have hx := opd_holds ha h3 hv
      cases v <;> (try simp only at hk) <;> try exact hk.elim
      exact ⟨_,_,by simp [execOp,inv_int hx,convert,run_underlying' h1,run_underlying' h2,Conv.intToInt],.int _ _,hk⟩
    · rename_i k1 x' h1 h2 h3
      cases h
      obtain ⟨vs,hvs,hk⟩ := need_elim hk
      obtain ⟨v,hyv,hk⟩ := need_elim hk
      obtain ⟨u1,e1,rfl⟩ := evs_one hvs
      have g1 := opd_holds ha h3 e1
      obtain ⟨q,n,rfl,rfl⟩ := yval_i2f hyv
      exact ⟨_,_,by simp [execOp,inv_int g1,convert,run_underlying' h1,run_underlying' h2,Conv.intToFloat],.float _ _,hk⟩
    · rename_i k1 x' h1 h2 h3
      cases h
      obtain ⟨vs,hvs,hk⟩ := need_elim hk
      obtain ⟨v,hyv,hk⟩ := need_elim hk
      obtain ⟨u1,e1,rfl⟩ := evs_one hvs
      have g1 := opd_holds ha h3 e1
      obtain ⟨b,n,rfl,hn,rfl⟩ := yval_f2i hyv
      refine ⟨_,_,?_,.int _ _,hk⟩
      have hr := run_convert_float_int (P := P) s.w S T .f64 k1 b n (by rw [h1]; rfl) h2 hn
      simp only [execOp,inv_float g1,Sem.run_bind,hr,Result.andThen_ok]; rfl
    · rename_i x' h1 h2 h3
      cases h
      obtain ⟨v,hv,hk⟩ := need_elim hk
      have hx := opd_holds ha h3 hv
      cases v <;> (try simp only at hk) <;> try exact hk.elim
      exact ⟨_,_,by simp [execOp,inv_str hx,convert,run_underlying' h1,run_underlying' h2]; try rfl,.str _,hk⟩
    · rename_i e x' h1 h2 h3
      split at h
      · rename_i h4 h5
        cases h
        obtain ⟨v,hv,hk⟩ := need_elim hk
        obtain ⟨l,hl,hk⟩ := need_elim hk
        have hx := opd_holds ha h3 hv
        refine ⟨_,_,?_,.str l,hk⟩
        have hb := b2sH_sound (P := P) hr hx hl
        have : ∀ y,act.eval x = y → (convert S T y).run P s.w = .ok (.string ⟨l.toArray⟩) s.w := by
          intro y hy
          rw [hy] at hb hx
          unfold vbytesH at hl
          split at hl
          · obtain ⟨b,o,cap,_,_,_,rfl⟩ := inv_msl hx
            simp [convert,run_underlying' h1,run_underlying' h2,run_underlying' h4,hb]
          unfold vbytes at hl
          split at hl
          · obtain rfl := inv_nilSl hx
            simp [convert,run_underlying' h1,run_underlying' h2,run_underlying' h4,hb]
          · rcases inv_sl hx with ⟨_,rfl,_⟩ | ⟨_,_,_,rfl,_⟩ | ⟨_,_,_,rfl,_⟩ <;> simp [convert,run_underlying' h1,run_underlying' h2,run_underlying' h4,hb]
          · cases hl
        simp [execOp,this _ rfl]
      · cases h
    · cases h
  case slice T x lo hi mx =>
    split at h
    · rename_i x' lo' hi' mx' h1 h2 h3 h4
      split at h
      · rename_i hT
        cases h
        obtain ⟨v,hv,hk⟩ := need_elim hk
        have hx := opd_holds ha h1 hv
        exact (slcS_sound ha hT hx h2 h3 h4 hk).lift
      · rename_i e hT
        simp only [Option.map_eq_some_iff] at h
        obtain ⟨sz,hsz,rfl⟩ := h
        obtain ⟨v,hv,hk⟩ := need_elim hk
        have hx := opd_holds ha h1 hv
        exact (slcE_sound ha hT hsz hx h2 h3 h4 hk).lift
      · cases h
    · cases h
  case field T x f =>
    split at h
    · rename_i off agg sz x' h1 h2
      cases h
      obtain ⟨v,hv,hk⟩ := need_elim hk
      have hx := opd_holds ha h2 hv
      cases v <;> (try simp only at hk) <;> try exact hk.elim
      obtain ⟨fs,y,f1,f2,f3,f4,f5⟩ := fieldOf_inv h1
      rw [← f5] at hk
      clear f5
      obtain ⟨u,hu,hk⟩ := need_elim hk
      obtain ⟨xs,hone,hxs,e⟩ := inv_agg hx
      obtain ⟨z,z1,z2⟩ := pick_part (tinfo_TI f3) hone hxs hu
      exact ⟨z,u,by simp [execOp,e,Instr.field,run_underlying' f1,f2,asAgg,z1],z2,hk⟩
    · cases h
  case fieldAddr T x f =>
    split at h
    · rename_i off agg sz x' h1 h2
      cases h
      obtain ⟨v,hv,hk⟩ := need_elim hk
      have hx := opd_holds ha h2 hv
      obtain ⟨fs,y,f1,f2,f3,f4,rfl⟩ := fieldOf_inv h1
      cases v <;> (try simp only at hk) <;> try exact hk.elim
      · obtain ⟨b,hb,e⟩ := inv_ptr hx
        exact ⟨_,_,by simp [execOp,e,Instr.fieldAt,run_underlying' f1,f2,Instr.sureAddr,fieldPlace_run (tinfo_TI f3) f4],.ptr _ _ b hb,hk⟩
      · obtain ⟨b,o',hrow,e⟩ := inv_rptr hx
        refine ⟨_,_,by simp [execOp,e,Instr.fieldAt,run_underlying' f1,f2,Instr.sureAddr,fieldPlace_run (tinfo_TI f3) f4]; try rfl,?_,hk⟩
        rw [Nat.add_assoc]
        exact .rptr _ _ b o' hrow
    · cases h
  case indexAddr T x i =>
    split at h
    · rename_i e x' i' h1 h2 h3
      split at h
      · rename_i sz hsz
        cases h
        have hT : P.underlying T = some (.slice e) := by
          unfold sliceElem at h1
          split at h1
          · cases h1; assumption
          · cases h1
        obtain ⟨v,hv,hk⟩ := need_elim hk
        have hx := opd_holds ha h2 hv
        cases v <;> (try simp only at hk) <;> try exact hk.elim
        · rename_i z es t
          obtain ⟨u,hu,hk⟩ := need_elim hk
          have hi := opd_holds ha h3 hu
          cases u <;> (try simp only at hk) <;> try exact hk.elim
          rename_i ki n
          obtain ⟨⟨hz,h0⟩,hk⟩ := hk
          obtain ⟨c,hc,hk⟩ := need_elim hk
          have hlt := (List.getElem?_eq_some_iff.1 hc).1
          rcases inv_sl hx with ⟨rfl,_,_⟩ | ⟨_,_,rfl,_,_⟩ | ⟨b,o,cap,e1,he,_,_⟩
          · simp at hlt
          · simp at hlt
          · obtain ⟨_,hrow⟩ := els_get he hc
            rw [hz] at hrow
            refine ⟨_,_,?_,.rptr c 0 b _ hrow,hk⟩
            have hrun := run_iaddr hT hsz s.w b o es.length cap ki n h0 (by omega)
            simp only [execOp,e1,inv_int hi,Sem.run_bind,hrun,Result.andThen_ok,Sem.run_pure,Nat.add_zero]
        · rename_i b z off n
          obtain ⟨u,hu,hk⟩ := need_elim hk
          have hi := opd_holds ha h3 hu
          cases u <;> (try simp only at hk) <;> try exact hk.elim
          rename_i ki m
          obtain ⟨⟨hz,h0,hlt⟩,hk⟩ := hk
          obtain ⟨b',o,cap,hb,hc,ho,e1⟩ := inv_msl hx
          obtain rfl : o = off := by omega
          have hrun := run_iaddr hT hsz s.w b' o n cap ki m h0 (by omega)
          exact ⟨_,_,by simp only [execOp,e1,inv_int hi,Sem.run_bind,hrun,Result.andThen_ok,Sem.run_pure],.ptr _ _ b' hb,hk⟩
      · cases h
    · cases h
  case index T x i =>
    split at h
    · rename_i x' i' hT h2 h3
      cases h
      obtain ⟨v,hv,hk⟩ := need_elim hk
      have hx := opd_holds ha h2 hv
      cases v <;> (try simp only at hk) <;> try exact hk.elim
      obtain ⟨u,hu,hk⟩ := need_elim hk
      have hi := opd_holds ha h3 hu
      cases u <;> (try simp only at hk) <;> try exact hk.elim
      obtain ⟨h0,hk⟩ := hk
      obtain ⟨c,hc,hk⟩ := need_elim hk
      refine ⟨_,_,?_,.int _ _,hk⟩
      obtain ⟨hlt,hget⟩ := List.getElem?_eq_some_iff.1 hc
      simp only [execOp,inv_str hx,inv_int hi,Instr.index,asIntOf,Sem.run_bind,Sem.run_pure,Result.andThen_ok,run_underlying' hT]
      rw [if_pos h0]
      rw [getElem?_pos _ _ (by rw [ba_size]; exact hlt)]
      simp only [Sem.run_pure,Result.andThen_ok]
      congr 4
      rw [← hget]
      simp [ByteArray.getElem_eq_getElem_data]
    · rename_i n e x' i' hT h2 h3
      split at h
      · rename_i agg sz ht
        cases h
        obtain ⟨v,hv,hk⟩ := need_elim hk
        have hx := opd_holds ha h2 hv
        cases v <;> (try simp only at hk) <;> try exact hk.elim
        obtain ⟨u,hu,hk⟩ := need_elim hk
        have hi := opd_holds ha h3 hu
        cases u <;> (try simp only at hk) <;> try exact hk.elim
        obtain ⟨h0,hk⟩ := hk
        obtain ⟨c,hc,hk⟩ := need_elim hk
        obtain ⟨xs,hone,hxs,ex⟩ := inv_agg hx
        obtain ⟨z,z1,z2⟩ := pick_part (tinfo_TI ht) hone hxs hc
        refine ⟨z,c,?_,z2,hk⟩
        simp only [execOp,ex,inv_int hi,Instr.index,asIntOf,Sem.run_bind,Sem.run_pure,Result.andThen_ok,run_underlying' hT]
        rw [if_pos h0]
        simp only [Sem.run_bind,(tinfo_TI ht).2,Result.andThen_ok]
        rw [z1]; rfl
      · cases h
    · cases h
  case lookup T x i ok =>
    split at h
    · rename_i kk e x' i' hT h1 h2
      simp only [Option.map_eq_some_iff] at h
      obtain ⟨z,hz,rfl⟩ := h
      obtain ⟨vs,hvs,hk⟩ := need_elim hk
      obtain ⟨v,hy,hk⟩ := need_elim hk
      cases hu : a.ev x' with
      | none => simp [A.evs,hu] at hvs
      | some u =>
        cases hw : a.ev i' with
        | none => simp [A.evs,hu,hw] at hvs
        | some key =>
          simp only [A.evs,hu,hw,Option.some.injEq] at hvs
          subst hvs
          have hx := opd_holds ha h1 hu
          have hi := opd_holds ha h2 hw
          cases u <;> simp only [yval] at hy <;> try (cases hy; done)
          case nilMap =>
            cases hy
            have hx := inv_nilMap hx
            obtain ⟨y,y1,y2⟩ := look_core hT hz hi (es := []) (ms := #[]) .entsNil (m := .map none) rfl (r := none) rfl ok
            exact ⟨y,_,by simp [execOp,hx,y1],y2,hk⟩
          case mapv es =>
            simp only [Option.map_eq_some_iff] at hy
            obtain ⟨r,hr',rfl⟩ := hy
            obtain ⟨b,ms,c,hx,g3,g4⟩ := inv_mapv hx
            obtain ⟨y,y1,y2⟩ := look_core hT hz hi (es := es) (ms := ms) g4 (m := .map (some b)) ⟨c,g3⟩ hr' ok
            exact ⟨y,_,by simp [execOp,hx,y1],y2,hk⟩
          case map j =>
            have core : ∀ es,(∃ b ms c,s.blk j = some b ∧ s.w.heap[b]? = some (.map ms c) ∧ Holds s (.ents es ms.toList)) → Option.map (mres ok z) (mfind kk key es) = some v → Yields P s (execOp act.eval ⟨dst,.lookup T x i ok,type,pos,after,guard⟩) k := by
              rintro es ⟨b,ms,c,g1,g2,g3⟩ hy
              simp only [Option.map_eq_some_iff] at hy
              obtain ⟨r,hr',rfl⟩ := hy
              obtain ⟨b',hb,hx⟩ := inv_map hx
              rw [hb] at g1; cases g1
              obtain ⟨y,y1,y2⟩ := look_core hT hz hi (es := es) (ms := ms) g3 (m := .map (some b)) ⟨c,g2⟩ hr' ok
              exact ⟨y,_,by simp [execOp,hx,y1],y2,hk⟩
            cases ho : H j with
            | none => rw [ho] at hy; cases hy
            | some o =>
              have hob := hr.obj j _ ho
              cases o <;> rw [ho] at hy <;> (try simp only at hy) <;> try (cases hy; done)
              · obtain ⟨b,ms,c,g1,_,g2,g3,_⟩ := hob
                exact core _ ⟨b,ms,c,g1,g2,g3⟩ hy
              · obtain ⟨b,_,ms,c,_,_,g1,_,g2,g3,_⟩ := hob
                exact core _ ⟨b,ms,c,g1,g2,g3⟩ hy
    · cases h
  case entry x =>
    obtain ⟨y,hy,rfl⟩ := one h
    obtain ⟨vs,hvs,hk⟩ := need_elim hk
    obtain ⟨v,hyv,hk⟩ := need_elim hk
    cases hu : a.ev y with
    | none => simp [A.evs,hu] at hvs
    | some u =>
      simp only [A.evs,hu,Option.some.injEq] at hvs
      subst hvs
      have hx := opd_holds ha hy hu
      cases u <;> (try simp only [yval] at hyv) <;> try (cases hyv; done)
      rename_i j off
      cases off with
      | succ n => simp [yval] at hyv
      | zero =>
        simp only [yval] at hyv
        obtain ⟨b,hb,hxe⟩ := inv_ptr hx
        cases ho : H j with
        | none => rw [ho] at hyv; cases hyv
        | some o =>
          cases o <;> rw [ho] at hyv <;> (try simp only at hyv) <;> try (cases hyv; done)
          case iterv left cur =>
            cases cur with
            | none => cases hyv
            | some kv =>
              cases hyv
              obtain ⟨b',bi,ms,c,since,seen,g1,_,_,_,h3,h6,g4,_,_,_,g8⟩ := hr.obj j _ ho
              rw [hb] at g1; cases g1
              obtain ⟨sn,m,rfl,e2,e3,e4⟩ := g8 kv rfl
              have := run_entry_at (P := P) s.w b b' since sn ms c m g4 h3 e2 h6
              exact ⟨_,_,by simp [execOp,hxe,this],.tuple _ [_,_] (.cons _ _ _ _ e3 (.cons _ _ _ _ e4 .nil)),hk⟩
          rename_i m
          cases m with
          | none => cases hyv
          | some i =>
            simp only at hyv
            cases hi : H i with
            | none => rw [hi] at hyv; cases hyv
            | some p =>
              cases p <;> rw [hi] at hyv <;> (try simp only at hyv) <;> try (cases hyv; done)
              rename_i es j' left cur
              cases cur with
              | none => cases hyv
              | some kv =>
                simp only at hyv
                split at hyv
                · rename_i e; subst e
                  cases hyv
                  obtain ⟨b',bi,ms,c,since,seen,_,_,h3,_,_,h6,g1,_,_,g4,_,_,_,g8⟩ := hr.obj i _ hi
                  rw [hb] at g1; cases g1
                  obtain ⟨sn,m,rfl,e2,e3,e4⟩ := g8 kv rfl
                  have := run_entry_at (P := P) s.w b b' since sn ms c m g4 h3 e2 h6
                  exact ⟨_,_,by simp [execOp,hxe,this],.tuple _ [_,_] (.cons _ _ _ _ e3 (.cons _ _ _ _ e4 .nil)),hk⟩
                · cases hyv
  case typeAssert x xT T ok =>
    split at h
    · cases h
    split at h
    · cases h
    · rename_i d x' z hd hT h2 hz
      cases h
      obtain ⟨zv,z1,z2⟩ := zeroV_holds hz
      obtain ⟨v,hv,hk⟩ := need_elim hk
      have hx := opd_holds ha h2 hv
      cases v <;> (try simp only at hk) <;> try exact hk.elim
      · rename_i u v
        obtain ⟨h0,hk⟩ := hk
        obtain ⟨y,hy,e⟩ := inv_iface hx
        by_cases hu : u = T
        · subst hu
          cases ok
          · refine ⟨y,v,?_,hy,by simpa using hk⟩
            simp only [execOp,e,Instr.typeAssert,Sem.run_bind,run_underlying' hT,Result.andThen_ok]
            cases d <;> first | exact absurd rfl (hd _) | simp
          · refine ⟨.tuple #[y,.bool true],.tuple [v,.bool true],?_,.tuple _ [_,_] (.cons _ _ _ _ hy (.cons _ _ _ _ (.bool _) .nil)),by simpa using hk⟩
            simp only [execOp,e,Instr.typeAssert,Sem.run_bind,run_underlying' hT,Result.andThen_ok]
            cases d <;> first | exact absurd rfl (hd _) | simp
        · cases ok
          · simp [hu] at h0
          · refine ⟨.tuple #[zv,.bool false],.tuple [z,.bool false],?_,.tuple _ [_,_] (.cons _ _ _ _ (z2 s) (.cons _ _ _ _ (.bool _) .nil)),by simpa [hu] using hk⟩
            simp only [execOp,e,Instr.typeAssert,Sem.run_bind,run_underlying' hT,Result.andThen_ok]
            cases d <;> first | exact absurd rfl (hd _) | simp [hu,z1]
      · obtain ⟨rfl,hk2⟩ := hk
        refine ⟨.tuple #[zv,.bool false],.tuple [z,.bool false],?_,.tuple _ [_,_] (.cons _ _ _ _ (z2 s) (.cons _ _ _ _ (.bool _) .nil)),hk2⟩
        simp only [execOp,inv_nilIface hx,Instr.typeAssert,Sem.run_bind,run_underlying' hT,Result.andThen_ok]
        cases d <;> first | exact absurd rfl (hd _) | simp [z1]
    · cases h
  case extract x i =>
    obtain ⟨y,hy,rfl⟩ := one h
    obtain ⟨v,hv,hk⟩ := need_elim hk
    have hx := opd_holds ha hy hv
    cases v <;> (try simp only at hk) <;> try exact hk.elim
    obtain ⟨u,hu,hk⟩ := need_elim hk
    obtain ⟨xs,hxs,e⟩ := inv_tuple hx
    obtain ⟨z,hz,hz2⟩ := vals_get hxs hu
    exact ⟨z,u,by simp [execOp,e,Instr.extract,hz],hz2,hk⟩
  case call c => exact cop_sound h hr ha hk
  case makeInterface T x =>
    split at h
    · cases h
    · rename_i d x' hd h1 h2
      cases h
      obtain ⟨v,hv,hk⟩ := need_elim hk
      refine ⟨_,_,?_,.iface T v _ (opd_holds ha h2 hv),hk⟩
      simp only [execOp,Instr.makeInterface,Sem.run_bind,run_underlying' h1,Result.andThen_ok]
      cases d <;> first | rfl | (exact absurd rfl (hd _))
    · cases h
  case makeFunc fn xs ys =>
    split at h
    · rename_i xs' ys' h1 h2
      cases h
      obtain ⟨us,hu,hk⟩ := need_elim hk
      obtain ⟨vs,hv,hk⟩ := need_elim hk
      refine ⟨_,_,?_,.func fn us vs _ _ (opds_holds ha h1 hu) (opds_holds ha h2 hv),hk⟩
      simp only [execOp,Instr.makeFunc,Sem.run_bind,Sem.run_pure,Result.andThen_ok]
      rw [map_toArr xs,map_toArr ys]
    · cases h
end Go.Vm
