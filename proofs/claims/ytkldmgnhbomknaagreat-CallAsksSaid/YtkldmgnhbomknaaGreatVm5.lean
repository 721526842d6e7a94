/- That the machine's operations yield what 'vop' says. -/
import Derived.Test.YtkldmgnhbomknaaGreatVm4
import Derived.Lib.Strings
import Derived.Laws.StructEq
import Derived.ChangeKeysEq
set_option linter.unusedVariables false
set_option linter.unusedSimpArgs false
namespace Go.Vm
def Yields (P : Program) (s : St) (m : Sem Next) (k : V → Prop) : Prop :=
  ∃ x v,m.run P s.w = .ok (.value x) s.w ∧ s.val v x ∧ k v
def YieldsV (P : Program) (s : St) (m : Sem Value) (k : V → Prop) : Prop :=
  ∃ x v,m.run P s.w = .ok x s.w ∧ s.val v x ∧ k v
theorem YieldsV.lift {P : Program} {s : St} {m : Sem Value} {k : V → Prop} (h : YieldsV P s m k) : Yields P s (do pure (.value (← m))) k := by
  obtain ⟨x,v,h1,h2,h3⟩ := h
  exact ⟨x,v,by simp [h1],h2,h3⟩
theorem YieldsV.pure {P : Program} {s : St} {x : Value} {v : V} {k : V → Prop} (h : s.val v x) (hk : k v) : YieldsV P s (Pure.pure x) k :=
  ⟨x,v,rfl,h,hk⟩
section inv
variable {s : St}
theorem inv_int {k : IntKind} {n : Int} {x : Value} (h : s.val (.int k n) x) : x = .int k n := by cases h; rfl
theorem inv_str {l : List UInt8} {x : Value} (h : s.val (.str l) x) : x = .string ⟨l.toArray⟩ := by cases h; rfl
theorem inv_ptr {i o : Nat} {x : Value} (h : s.val (.ptr i o) x) : ∃ b,s.blk i = some b ∧ x = .pointer (some ⟨b,o,none⟩) := by cases h with | ptr _ _ b h => exact ⟨b,h,rfl⟩
theorem inv_rptr {cs : List V} {o : Nat} {x : Value} (h : s.val (.rptr cs o) x) : ∃ b o',Holds s (.row b o' cs) ∧ x = .pointer (some ⟨b,o' + o,none⟩) := by cases h with | rptr _ _ b o' h => exact ⟨b,o',h,rfl⟩
theorem inv_nilSl {x : Value} (h : s.val .nilSl x) : x = .slice none 0 0 := by cases h; rfl
theorem inv_agg {cs : List V} {x : Value} (h : s.val (.agg cs) x) : ∃ xs,ones cs = true ∧ s.vals cs xs ∧ x = .agg xs.toArray := by cases h with | agg _ xs h1 h => exact ⟨xs,h1,h,rfl⟩
theorem inv_tuple {cs : List V} {x : Value} (h : s.val (.tuple cs) x) : ∃ xs,s.vals cs xs ∧ x = .tuple xs.toArray := by cases h with | tuple _ xs h => exact ⟨xs,h,rfl⟩
theorem inv_sl {sz : Nat} {es : List (List V)} {t : Tok} {x : Value} (h : s.val (.sl sz es t) x) :
    (es = [] ∧ x = .slice none 0 0 ∧ TokOk s t 0 (.slice none 0 0) 0) ∨ (∃ a cap,es = [] ∧ x = .slice (some a) 0 cap ∧ TokOk s t 0 (.slice (some a) 0 cap) cap) ∨ ∃ b o cap,x = .slice (some ⟨b,o,none⟩) es.length cap ∧ Holds s (.els b o sz es) ∧ es.length ≤ cap ∧ TokOk s t es.length (.slice (some ⟨b,o,none⟩) es.length cap) cap := by
  cases h with
  | slNil _ _ h => exact .inl ⟨rfl,rfl,h⟩
  | slEmp _ _ a cap h => exact .inr (.inl ⟨a,cap,rfl,rfl,h⟩)
  | sl _ _ _ b o cap h1 h2 h3 => exact .inr (.inr ⟨b,o,cap,rfl,h1,h2,h3⟩)
theorem inv_msl {k sz off n : Nat} {x : Value} (h : s.val (.msl k sz off n) x) : ∃ b o cap,s.blk k = some b ∧ n ≤ cap ∧ (n = 0 ∨ o = off) ∧ x = .slice (some ⟨b,o,none⟩) n cap := by
  cases h with | msl _ _ _ _ b o cap h1 h2 h3 => exact ⟨b,o,cap,h1,h2,h3,rfl⟩
theorem inv_func {fn : Fn} {xs ys : List V} {x : Value} (h : s.val (.func fn xs ys) x) : ∃ us vs,s.vals xs us ∧ s.vals ys vs ∧ x = .func fn us.toArray vs.toArray := by
  cases h with | func _ _ _ us vs h1 h2 => exact ⟨us,vs,h1,h2,rfl⟩
end inv
theorem run_imm_load {P : Program} {T : TypeId} {agg : Bool} {sz : Nat} (ti : TI P T agg sz) {s : St} {b o : Nat} {cs : List V} (h : Holds s (.row b o cs)) {off : Nat} {v : V} (hp : pickCells agg sz cs off = some v) :
    ∃ x,(loadVar T ⟨b,o + off,none⟩).run P s.w = .ok x s.w ∧ s.val v x := by
  obtain ⟨ys,h1,h2,h3⟩ := row_vals h
  exact run_loadVar ti (row_ones h) h1 (fun j y hj => (h3 j y hj).1) hp
theorem run_obj_load {P : Program} {T : TypeId} {agg : Bool} {sz : Nat} (ti : TI P T agg sz) {s : St} {b : Nat} {cs : List V} {ys zs : Array Value} {U : TypeId} {fr : Nat × Nat} (hb : s.w.heap[b]? = some (.cells (ys ++ zs) U fr)) (hone : ones cs = true) (h : s.vals cs ys.toList) {off : Nat} {v : V} (hp : pickCells agg sz cs off = some v) :
    ∃ x,(loadVar T ⟨b,off,none⟩).run P s.w = .ok x s.w ∧ s.val v x := by
  have := run_loadVar ti (o := 0) hone h (fun j y hj => by
    have hj2 : ys[j]? = some y := by simpa using hj
    have hlt := (Array.getElem?_eq_some_iff.1 hj2).1
    rw [obj_cell hb,Nat.zero_add,Array.getElem?_append_left hlt]; exact hj2) hp
  simpa using this
theorem load_sound {P : Program} {T : TypeId} {agg : Bool} {sz : Nat} (ti : TI P T agg sz) {s : St} {H : AH} (hr : HRel s H) {p : V} {x : Value} (hp : s.val p x) {k : V → Prop} (h : vload agg sz H p k) : YieldsV P s (Instr.loadAt T x) k := by
  cases p <;> simp only [vload] at h <;> try exact h.elim
  case rptr cs off =>
    obtain ⟨v,hv,hk⟩ := need_elim h
    obtain ⟨b,o,hrow,rfl⟩ := inv_rptr hp
    obtain ⟨y,h1,h2⟩ := run_imm_load ti hrow hv
    exact ⟨y,v,by simpa [Instr.loadAt,Instr.sureAddr] using h1,h2,hk⟩
  case ptr i off =>
    obtain ⟨ob,hob,h⟩ := need_elim h
    cases ob <;> simp only at h <;> try exact h.elim
    case cells cs =>
      obtain ⟨v,hv,hk⟩ := need_elim h
      obtain ⟨b,hb,rfl⟩ := inv_ptr hp
      obtain ⟨b',ys,zs,U,fr,h1,h2,h3,_,h4,hone⟩ := hr.obj i _ hob
      rw [hb] at h1; cases h1
      obtain ⟨y,h5,h6⟩ := run_obj_load ti h3 hone h4 hv
      exact ⟨y,v,by simpa [Instr.loadAt,Instr.sureAddr] using h5,h6,hk⟩
theorem ba_size (l : List UInt8) : (⟨l.toArray⟩ : ByteArray).size = l.length := by simp [ByteArray.size]
theorem ba_toList (l : List UInt8) : (⟨l.toArray⟩ : ByteArray).toList = l := by rw [ByteArray.toList_eq]
theorem ba_append (x y : List UInt8) : (⟨x.toArray⟩ : ByteArray) ++ ⟨y.toArray⟩ = ⟨(x ++ y).toArray⟩ := by
  apply ByteArray.ext
  rw [ByteArray.data_append]
  simp
theorem beq_dec {α : Type} [BEq α] [LawfulBEq α] [DecidableEq α] (x y : α) : (x == y) = decide (x = y) := by
  by_cases h : x = y <;> simp [h]
theorem intBin_sound {P : Program} {s : St} {op : BinOp} {T : TypeId} {k : IntKind} {x y : Int} {K : V → Prop} (h : intBin op k x y K) : YieldsV P s (binOp op T (.int k x) (.int k y)) K := by
  cases op <;> simp only [intBin] at h <;> try exact h.elim
  case quo => obtain ⟨h0,h⟩ := h; exact ⟨_,_,by simp only [binOp,ne_eq,not_true_eq_false,if_false,Op.intDiv,h0]; rfl,.int _ _,h⟩
  case rem => obtain ⟨h0,h⟩ := h; exact ⟨_,_,by simp only [binOp,ne_eq,not_true_eq_false,if_false,Op.intDiv,h0]; rfl,.int _ _,h⟩
  case eql => exact ⟨_,_,by simp only [binOp,ne_eq,not_true_eq_false,if_false,Op.intCmp]; rfl,by rw [beq_dec]; exact .bool _,h⟩
  case neq => exact ⟨_,_,by simp only [binOp,ne_eq,not_true_eq_false,if_false,Op.intCmp,bne]; rfl,by rw [beq_dec]; exact .bool _,h⟩
  case lss => exact ⟨_,_,by simp only [binOp,ne_eq,not_true_eq_false,if_false,Op.intCmp]; rfl,.bool _,h⟩
  case leq => exact ⟨_,_,by simp only [binOp,ne_eq,not_true_eq_false,if_false,Op.intCmp]; rfl,.bool _,h⟩
  case gtr => exact ⟨_,_,by simp only [binOp,ne_eq,not_true_eq_false,if_false,Op.intCmp]; rfl,.bool _,h⟩
  case geq => exact ⟨_,_,by simp only [binOp,ne_eq,not_true_eq_false,if_false,Op.intCmp]; rfl,.bool _,h⟩
  all_goals exact ⟨_,_,by simp only [binOp,ne_eq,not_true_eq_false,if_false,Op.intArith,Op.intBits]; rfl,.int _ _,h⟩
theorem strBin_sound {P : Program} {s : St} {op : BinOp} {T : TypeId} {x y : List UInt8} {K : V → Prop} (h : strBin op x y K) : YieldsV P s (binOp op T (.string ⟨x.toArray⟩) (.string ⟨y.toArray⟩)) K := by
  cases op <;> simp only [strBin] at h <;> try exact h.elim
  case add =>
    obtain ⟨h0,h⟩ := h
    refine ⟨_,_,?_,.str (x ++ y),h⟩
    simp only [binOp,Op.stringOp,ba_size,ba_append]
    rw [if_neg (by simp only [IntKind.max,IntKind.signed,IntKind.bits]; simp; omega)]
    rfl
  all_goals exact ⟨_,_,by simp only [binOp,Op.stringOp,ba_toList,beq_dec]; rfl,.bool _,h⟩
def plainV : Value → Bool
  | .nilIface | .agg _ => false
  | _ => true
theorem eqGuard_ok {P : Program} {w : World} (op : BinOp) (T : TypeId) (x y : Operand) {a b : Value} (h : plainV a = true) : (eqGuard op T x y a b).run P w = .ok () w := by
  cases a <;> first | (simp [plainV] at h; done) | (cases op <;> simp [eqGuard])
theorem bool_equal {P : Program} {T : TypeId} (hT : P.underlying T = some .bool) (x y : Bool) (w : World) : (Op.equal T (.bool x) (.bool y)).run P w = .ok (x == y) w := by
  show (Op.equalIn (9999 + 1) T (.bool x) (.bool y)).run P w = _
  rw [Op.equalIn]
  simp only [Sem.run_bind,run_underlying' hT,Result.andThen_ok,Sem.run_pure]
theorem slice_equal_nil {P : Program} {T e : TypeId} (hT : P.underlying T = some (.slice e)) (a : Option Addr) (n c : Nat) (w : World) : (Op.equal T (.slice a n c) (.slice none 0 0)).run P w = .ok a.isNone w := by
  show (Op.equalIn (9999 + 1) T (.slice a n c) (.slice none 0 0)).run P w = _
  rw [Op.equalIn]
  cases a <;> simp only [Sem.run_bind,run_underlying' hT,Result.andThen_ok,Sem.run_pure] <;> rfl
theorem pick_part {P : Program} {T : TypeId} {agg : Bool} {sz : Nat} (ti : TI P T agg sz) {s : St} {cs : List V} {xs : List Value} (hone : ones cs = true) (h : s.vals cs xs) {off : Nat} {v : V} (hp : pickCells agg sz cs off = some v) :
    ∃ x,(part T xs.toArray off).run P s.w = .ok x s.w ∧ s.val v x := by
  have hd : ∀ (n : Nat) (cs : List V) (ys : List Value),s.vals cs ys → s.vals (cs.drop n) (ys.drop n) := by
    intro n
    induction n with
    | zero => intro cs ys h; exact h
    | succ n ih => intro cs ys h; cases h with | nil => exact .nil | cons _ _ _ _ h1 h2 => exact ih _ _ h2
  have ht : ∀ (n : Nat) (cs : List V) (ys : List Value),s.vals cs ys → s.vals (cs.take n) (ys.take n) := by
    intro n
    induction n with
    | zero => intro cs ys h; exact .nil
    | succ n ih => intro cs ys h; cases h with | nil => exact .nil | cons _ _ _ _ h1 h2 => exact .cons _ _ _ _ h1 (ih _ _ h2)
  cases agg with
  | false =>
    obtain ⟨y,hy,hv⟩ := vals_get h hp
    refine ⟨y,?_,hv⟩
    simp [part,ti.agg,hy]
  | true =>
    simp only [pickCells] at hp
    split at hp
    · cases hp
      refine ⟨.agg ((xs.drop off).take sz).toArray,?_,.agg _ _ (ones_take (ones_drop hone _) _) (ht _ _ _ (hd _ _ _ h))⟩
      simp only [part,Sem.run_bind,ti.agg,Result.andThen_ok,if_true,ti.size,Sem.run_pure]
      congr 2
      simp [List.drop_take]
    · cases hp
theorem flatten_len {α : Type} (cs : List α) : ∀ n,(List.replicate n cs).flatten.length = n * cs.length
  | 0 => by simp
  | n + 1 => by
    simp only [List.replicate_succ,List.flatten_cons,List.length_append,flatten_len cs n,Nat.add_mul]; omega
/-! ### Structs and arrays held against each other -/
theorem eqCells_split : ∀ (k1 k2 : List BK) (xs ys : List V) (r : Bool),eqCells (k1 ++ k2) xs ys = some r →
    ∃ r1 r2,eqCells k1 (xs.take k1.length) (ys.take k1.length) = some r1 ∧ eqCells k2 (xs.drop k1.length) (ys.drop k1.length) = some r2 ∧ r = (r1 && r2) ∧ k1.length ≤ xs.length ∧ k1.length ≤ ys.length
  | [],k2,xs,ys,r,h => ⟨true,r,rfl,by simpa using h,by simp,by simp,by simp⟩
  | k :: k1,k2,xs,ys,r,h => by
    cases xs with
    | nil => simp [eqCells] at h
    | cons x xs =>
      cases ys with
      | nil => simp [eqCells] at h
      | cons y ys =>
        simp only [List.cons_append,eqCells] at h
        cases hb : k.eq x y with
        | none => rw [hb] at h; simp [andO] at h
        | some b =>
          rw [hb] at h
          cases hc : eqCells (k1 ++ k2) xs ys with
          | none => rw [hc] at h; simp [andO] at h
          | some c =>
            rw [hc] at h
            simp only [andO,Option.some.injEq] at h
            obtain ⟨r1,r2,h1,h2,h3,h4,h5⟩ := eqCells_split k1 k2 xs ys c hc
            refine ⟨b && r1,r2,?_,by simpa using h2,by rw [← h,h3,Bool.and_assoc],by simpa using h4,by simpa using h5⟩
            simp only [List.length_cons,List.take_succ_cons,eqCells,hb,h1,andO]
theorem eqCells_len : ∀ (ks : List BK) (xs ys : List V) (r : Bool),eqCells ks xs ys = some r → xs.length = ks.length ∧ ys.length = ks.length
  | [],[],[],_,_ => ⟨rfl,rfl⟩
  | [],[],_ :: _,_,h => by simp [eqCells] at h
  | [],_ :: _,_,_,h => by simp [eqCells] at h
  | k :: ks,[],_,_,h => by simp [eqCells] at h
  | k :: ks,x :: xs,[],_,h => by simp [eqCells] at h
  | k :: ks,x :: xs,y :: ys,r,h => by
    simp only [eqCells] at h
    cases hc : eqCells ks xs ys with
    | none => rw [hc] at h; cases hk : k.eq x y <;> rw [hk] at h <;> simp [andO] at h
    | some c =>
      obtain ⟨h1,h2⟩ := eqCells_len ks xs ys c hc
      exact ⟨by simp [h1],by simp [h2]⟩
def Shp (agg : Bool) (n : Nat) (v : V) : Prop :=
  match agg with
  | true => ∃ cs,v = .agg cs ∧ cs.length = n
  | false => v.one = true ∧ n = 1
theorem pick_shp {agg : Bool} {n : Nat} {cs : List V} (hone : ones cs = true) (h1 : agg = false → n = 1) {off : Nat} (hl : off + n ≤ cs.length) : ∃ v,pickCells agg n cs off = some v ∧ Shp agg n v ∧ v.cells = (cs.drop off).take n := by
  cases agg with
  | true => exact ⟨_,by simp only [pickCells]; rw [if_pos hl],⟨_,rfl,by simp; omega⟩,rfl⟩
  | false =>
    obtain rfl := h1 rfl
    have hlt : off < cs.length := by omega
    refine ⟨cs[off],by simp [pickCells,List.getElem?_eq_getElem hlt],⟨?_,rfl⟩,?_⟩
    · simp only [ones,List.all_eq_true] at hone; exact hone _ (List.getElem_mem hlt)
    · have ho : (cs[off]).one = true := by simp only [ones,List.all_eq_true] at hone; exact hone _ (List.getElem_mem hlt)
      have : (cs[off]).cells = [cs[off]] := by cases h : cs[off] <;> simp_all [V.one,V.cells]
      rw [this,List.drop_eq_getElem_cons hlt]; rfl
theorem sizeT_info {P : Program} {T : TypeId} {n : Nat} (h : sizeT P T = some n) : ∃ i,P.info? T = some i ∧ i.size = n := by
  simp only [sizeT,Option.map_eq_some_iff] at h; exact h
theorem flatK_und {P : Program} {d : Nat} {t : TypeId} {ks : List BK} (h : flatK P d t = some ks) : ∃ u,P.underlying t = some u ∧ (isAggD u = false → ks.length = 1) := by
  cases d with
  | zero => cases h
  | succ d =>
    simp only [flatK] at h
    split at h <;> first | (cases h; exact ⟨_,by assumption,fun _ => rfl⟩) | (exact ⟨_,by assumption,fun h => by simp [isAggD] at h⟩) | cases h
theorem flatK_TI {P : Program} {d : Nat} {t : TypeId} {ks : List BK} (h : flatK P d t = some ks) (hs : sizeT P t = some ks.length) : ∃ agg,TI P t agg ks.length ∧ (agg = false → ks.length = 1) ∧ ∃ u,P.underlying t = some u ∧ agg = isAggD u := by
  obtain ⟨u,h1,h2⟩ := flatK_und h
  obtain ⟨i,h3,h4⟩ := sizeT_info hs
  exact ⟨isAggD u,tinfo_TI (by simp [tinfo,h1,h3,h4]),h2,u,h1,rfl⟩
theorem flat_equal {P : Program} {s : St} : ∀ (d : Nat) (t : TypeId) (ks : List BK),flatK P d t = some ks → ∀ (u v : V) (x y : Value) (r : Bool),s.val u x → s.val v y → (∀ U,P.underlying t = some U → Shp (isAggD U) ks.length u ∧ Shp (isAggD U) ks.length v) →
    eqCells ks u.cells v.cells = some r → ∀ D,d ≤ D → (Op.equalIn D t x y).run P s.w = .ok r s.w
  | 0,_,_,h,_,_,_,_,_,_,_,_,_,_,_ => by cases h
  | d + 1,t,ks,h,u,v,x,y,r,hu,hv,hs,he,D,hD => by
    obtain ⟨D,rfl⟩ : ∃ D',D = D' + 1 := ⟨D - 1,by omega⟩
    have basic : ∀ U,P.underlying t = some U → isAggD U = false → (∃ k,ks = [k]) → u.one = true ∧ v.one = true ∧ u.cells = [u] ∧ v.cells = [v] := by
      rintro U hU ha ⟨k,rfl⟩
      obtain ⟨h1,h2⟩ := hs U hU
      rw [ha] at h1 h2
      obtain ⟨h1,_⟩ := h1
      obtain ⟨h2,_⟩ := h2
      refine ⟨h1,h2,?_,?_⟩
      · cases u <;> simp_all [V.one,V.cells]
      · cases v <;> simp_all [V.one,V.cells]
    have part2 : ∀ (e : TypeId) (kk : List BK),flatK P d e = some kk → sizeT P e = some kk.length → ∀ (cs ds : List V) (xs ys : List Value) (off : Nat) (r1 : Bool),ones cs = true → ones ds = true → s.vals cs xs → s.vals ds ys → off + kk.length ≤ cs.length → off + kk.length ≤ ds.length →
        eqCells kk ((cs.drop off).take kk.length) ((ds.drop off).take kk.length) = some r1 → ∃ a b,(part e xs.toArray off).run P s.w = .ok a s.w ∧ (part e ys.toArray off).run P s.w = .ok b s.w ∧ (Op.equalIn D e a b).run P s.w = .ok r1 s.w := by
      intro e kk hf hsz cs ds xs ys off r1 o1 o2 v1 v2 l1 l2 heq
      obtain ⟨agg,ti,ha,U,hU,rfl⟩ := flatK_TI hf hsz
      obtain ⟨p,p1,p2,p3⟩ := pick_shp (agg := isAggD U) o1 ha l1
      obtain ⟨q,q1,q2,q3⟩ := pick_shp (agg := isAggD U) o2 ha l2
      obtain ⟨a,a1,a2⟩ := pick_part ti o1 v1 p1
      obtain ⟨b,b1,b2⟩ := pick_part ti o2 v2 q1
      exact ⟨a,b,a1,b1,flat_equal d e kk hf p q a b r1 a2 b2 (fun U' hU' => by rw [hU] at hU'; cases hU'; exact ⟨p2,q2⟩) (by rw [p3,q3]; exact heq) D (by omega)⟩
    simp only [flatK] at h
    split at h
    · rename_i hU
      cases h
      obtain ⟨b1,b2,e1,e2⟩ := basic _ hU rfl ⟨_,rfl⟩; clear b1 b2
      rw [e1,e2] at he
      cases u <;> cases v <;> simp [eqCells,BK.eq,andO] at he
      obtain rfl := val_bool hu
      obtain rfl := val_bool hv
      subst he
      exact run_equalIn_bool' s.w D t _ _ hU
    · rename_i k hU
      cases h
      obtain ⟨b1,b2,e1,e2⟩ := basic _ hU rfl ⟨_,rfl⟩; clear b1 b2
      rw [e1,e2] at he
      cases u <;> cases v <;> simp [eqCells,BK.eq,andO] at he
      case int.int k1 a k2 b =>
        obtain rfl := inv_int hu
        obtain rfl := inv_int hv
        by_cases hk : k1 = k2
        · subst hk
          simp at he
          subst he
          rw [run_equalIn_int s.w D t k1 k a b hU,beq_dec]
        · rw [if_neg hk] at he; simp [andO] at he
    · rename_i hU
      cases h
      obtain ⟨b1,b2,e1,e2⟩ := basic _ hU rfl ⟨_,rfl⟩; clear b1 b2
      rw [e1,e2] at he
      cases u <;> cases v <;> simp [eqCells,BK.eq,andO] at he
      rename_i a b
      obtain rfl := inv_str hu
      obtain rfl := inv_str hv
      subst he
      rw [run_equalIn_string s.w D t _ _ hU,ba_toList,ba_toList,beq_dec]
    · rename_i fs hU
      split at h
      · rename_i hst
        obtain ⟨h1,h2⟩ := hs _ hU
        obtain ⟨cs,rfl,l1⟩ := h1
        obtain ⟨ds,rfl,l2⟩ := h2
        obtain ⟨xs,o1,v1,rfl⟩ := inv_agg hu
        obtain ⟨ys,o2,v2,rfl⟩ := inv_agg hv
        have hfs : P.fieldsOf t = fs := by simp [Program.fieldsOf,hU]
        rw [run_equalIn_struct s.w D t _ _ (by rw [hfs]; exact hU) hst,hfs]
        have key : ∀ (fl : List Field) (pos : Nat) (kk : List BK) (r : Bool),flatFs P (flatK P d) pos fl = some kk → pos + kk.length ≤ cs.length → pos + kk.length ≤ ds.length → eqCells kk ((cs.drop pos).take kk.length) ((ds.drop pos).take kk.length) = some r → (Op.eqFields D xs.toArray ys.toArray fl).run P s.w = .ok r s.w := by
          intro fl
          induction fl with
          | nil => intro pos kk r hf _ _ hq; cases hf; simp [eqCells] at hq; subst hq; rfl
          | cons f fl ih =>
            intro pos kk r hf g1 g2 hq
            simp only [flatFs] at hf
            split at hf
            · rename_i k1 k2 e1 e2
              split at hf
              · rename_i hc
                obtain ⟨c1,c2,c3⟩ := hc
                cases hf
                rw [c3,Option.getD_some] at e2
                simp only [List.length_append] at g1 g2
                obtain ⟨r1,r2,q1,q2,rfl,_,_⟩ := eqCells_split k1 k2 _ _ _ hq
                rw [List.take_take,List.take_take,show min k1.length (k1 ++ k2).length = k1.length by simp] at q1
                rw [List.drop_take,List.drop_take,List.drop_drop,List.drop_drop,show (k1 ++ k2).length - k1.length = k2.length by simp] at q2
                obtain ⟨a,b,a1,b1,hr⟩ := part2 f.type k1 e1 c3 cs ds xs ys pos r1 o1 o2 v1 v2 (by omega) (by omega) q1
                simp only [Op.eqFields]
                rw [if_pos c1,c2]
                simp only [Sem.run_bind,a1,b1,hr,Result.andThen_ok]
                cases r1
                · rfl
                · simp only [Bool.not_true,Bool.false_eq_true,if_false,Bool.true_and]
                  exact ih _ k2 r2 e2 (by omega) (by omega) q2
              · cases hf
            · cases hf
        have hlen := eqCells_len _ _ _ _ he
        simp only [V.cells] at he hlen
        exact key fs.toList 0 ks r h (by omega) (by omega) (by rw [List.drop_zero,List.drop_zero,List.take_of_length_le (by omega),List.take_of_length_le (by omega)]; exact he)
      · cases h
    · rename_i n e hU
      split at h
      · rename_i kk hf
        split at h
        · rename_i hsz
          cases h
          obtain ⟨h1,h2⟩ := hs _ hU
          obtain ⟨cs,rfl,l1⟩ := h1
          obtain ⟨ds,rfl,l2⟩ := h2
          obtain ⟨xs,o1,v1,rfl⟩ := inv_agg hu
          obtain ⟨ys,o2,v2,rfl⟩ := inv_agg hv
          obtain ⟨i,hi,hisz⟩ := sizeT_info hsz
          rw [run_equalIn_array s.w D _ _ hU hi]
          have hco : P.cellsOf e = kk.length := by simp [Program.cellsOf,hi,hisz]
          rw [hco]
          have key : ∀ (m pos : Nat) (r : Bool),pos + m = n → eqCells (List.replicate m kk).flatten ((cs.drop (pos * kk.length)).take (m * kk.length)) ((ds.drop (pos * kk.length)).take (m * kk.length)) = some r → (pos + m) * kk.length ≤ cs.length → (pos + m) * kk.length ≤ ds.length → (Op.eqItems D e kk.length xs.toArray ys.toArray (List.range' pos m)).run P s.w = .ok r s.w := by
            intro m
            induction m with
            | zero => intro pos r _ hq _ _; simp [eqCells] at hq; subst hq; rfl
            | succ m ih =>
              intro pos r hp hq g1 g2
              simp only [List.replicate_succ,List.flatten_cons] at hq
              obtain ⟨r1,r2,q1,q2,rfl,_,_⟩ := eqCells_split kk _ _ _ _ hq
              have em : (m + 1) * kk.length = kk.length + m * kk.length := by rw [Nat.add_mul]; omega
              have ep : pos * kk.length + kk.length = (pos + 1) * kk.length := by rw [Nat.add_mul]; omega
              have eg : (pos + (m + 1)) * kk.length = pos * kk.length + (kk.length + m * kk.length) := by rw [Nat.add_mul,em]
              rw [em] at q1 q2
              rw [eg] at g1 g2
              rw [List.take_take,List.take_take,show min kk.length (kk.length + m * kk.length) = kk.length by omega] at q1
              rw [List.drop_take,List.drop_take,List.drop_drop,List.drop_drop,ep,show kk.length + m * kk.length - kk.length = m * kk.length by omega] at q2
              obtain ⟨a,b,a1,b1,hr⟩ := part2 e kk hf hsz cs ds xs ys (pos * kk.length) r1 o1 o2 v1 v2 (by omega) (by omega) q1
              rw [List.range'_succ]
              simp only [Op.eqItems,Sem.run_bind,a1,b1,hr,Result.andThen_ok]
              cases r1
              · rfl
              · simp only [Bool.not_true,Bool.false_eq_true,if_false,Bool.true_and]
                refine ih (pos + 1) r2 (by omega) q2 ?_ ?_
                · rw [show pos + 1 + m = pos + (m + 1) by omega,eg]; omega
                · rw [show pos + 1 + m = pos + (m + 1) by omega,eg]; omega
          have hlen := eqCells_len _ _ _ _ he
          simp only [V.cells] at he hlen
          rw [flatten_len] at hlen
          rw [List.range_eq_range']
          refine key n 0 r (by omega) ?_ (by rw [Nat.zero_add]; omega) (by rw [Nat.zero_add]; omega)
          rw [Nat.zero_mul,List.drop_zero,List.drop_zero,List.take_of_length_le (by omega),List.take_of_length_le (by omega)]
          exact he
        · cases h
      · cases h
    · cases h
theorem ptr_equal_nil {P : Program} {T e : TypeId} (hT : P.underlying T = some (.pointer e)) (a : Option Addr) (w : World) : (Op.equal T (.pointer a) (.pointer none)).run P w = .ok a.isNone w := by
  show (Op.equalIn (9999 + 1) T (.pointer a) (.pointer none)).run P w = _
  rw [Op.equalIn]
  cases a <;> simp only [Sem.run_bind,run_underlying' hT,Result.andThen_ok,Sem.run_pure] <;> rfl
theorem ifaceT {P : Program} {T : TypeId} {ks : List (Nat × IK)} (e : eqkOf P T = .iface ks) : ∃ ms,P.underlying T = some (.interface ms) ∧ ms.isEmpty = true ∧ ks = ifaceKs P := by
  unfold eqkOf at e
  split at e
  · rename_i ms hu
    unfold eqkIface at e
    split at e
    · cases e; exact ⟨ms,hu,by assumption,rfl⟩
    · cases e
  all_goals first | (cases e; done) | (rcases eqkCells_or P T with h | ⟨_,h⟩ <;> rw [h] at e <;> cases e)
theorem nil_guard {P : Program} {T : TypeId} {ms} (hT : P.underlying T = some (.interface ms)) (hm : ms.isEmpty = true) {op : BinOp} {X Y : Operand} {w : World} : (eqGuard op T X Y .nilIface .nilIface).run P w = .ok () w := by
  have h1 : (Op.eqGuardIn (9999 + 1) T .nilIface .nilIface).run P w = .ok false w := by
    rw [Op.eqGuardIn]
    simp only [Sem.run_bind,run_underlying' hT,Result.andThen_ok,hm]
    rfl
  have h2 : (Op.eqGuardIn Op.maxDepth T .nilIface .nilIface).run P w = .ok false w := h1
  unfold eqGuard
  cases op <;> first
    | rfl
    | (rw [if_pos (by decide)]; rfl)
    | (rw [if_neg (by decide)]
       dsimp only
       generalize ((_ : Bool) || _) = c
       cases c
       · simp only [Bool.false_eq_true,if_false,Sem.run_bind,h2,Result.andThen_ok]; rfl
       · rfl)
theorem nil_guard' {P : Program} {T t : TypeId} {v : Value} {op : BinOp} {X Y : Operand} {w : World} : (eqGuard op T X Y .nilIface (.iface t v)).run P w = .ok () w := by
  cases op <;> simp [eqGuard]
theorem iface_equal_nil {P : Program} {T : TypeId} {ms} (hT : P.underlying T = some (.interface ms)) (w : World) : (Op.equal T .nilIface .nilIface).run P w = .ok true w := by
  show (Op.equalIn (9999 + 1) T .nilIface .nilIface).run P w = _
  rw [Op.equalIn]
  simp only [Sem.run_bind,run_underlying' hT,Result.andThen_ok]; rfl
theorem iface_equal_nl {P : Program} {T t : TypeId} {v : Value} {ms} (hT : P.underlying T = some (.interface ms)) (w : World) : (Op.equal T .nilIface (.iface t v)).run P w = .ok false w := by
  show (Op.equalIn (9999 + 1) T _ _).run P w = _
  rw [Op.equalIn]
  simp only [Sem.run_bind,run_underlying' hT,Result.andThen_ok]; rfl
theorem iface_equal_nr {P : Program} {T t : TypeId} {v : Value} {ms} (hT : P.underlying T = some (.interface ms)) (w : World) : (Op.equal T (.iface t v) .nilIface).run P w = .ok false w := by
  show (Op.equalIn (9999 + 1) T _ _).run P w = _
  rw [Op.equalIn]
  simp only [Sem.run_bind,run_underlying' hT,Result.andThen_ok]; rfl
theorem ik_equal {P : Program} {s : St} {t : TypeId} {k : IK} {u v : V} {x y : Value} {r : Bool} (hk : ikOf P t = some k) (hx : s.val u x) (hy : s.val v y) (h : ikEq k u v = some r) :
    ∃ i,P.info? t = some i ∧ i.comparable = true ∧ (Op.equalIn (9998 + 1) t x y).run P s.w = .ok r s.w := by
  unfold ikOf at hk
  split at hk
  · rename_i i hi
    split at hk
    · rename_i hc
      refine ⟨i,hi,hc,?_⟩
      rw [Op.equalIn]
      split at hk
      all_goals first | (cases hk; done) | skip
      · rename_i hu
        cases hk
        cases u <;> cases v <;> simp only [ikEq] at h <;> first | (cases h; done) | skip
        obtain rfl := val_bool hx
        obtain rfl := val_bool hy
        cases h
        simp only [Sem.run_bind,run_underlying' hu,Result.andThen_ok]; rfl
      · rename_i hu
        cases hk
        cases u <;> cases v <;> simp only [ikEq] at h <;> first | (cases h; done) | skip
        obtain rfl := inv_int hx
        obtain rfl := inv_int hy
        split at h
        · rename_i e; subst e; cases h
          simp only [Sem.run_bind,run_underlying' hu,Result.andThen_ok,if_true,beq_dec]; rfl
        · cases h
      · rename_i hu
        cases hk
        cases u <;> cases v <;> simp only [ikEq] at h <;> first | (cases h; done) | skip
        obtain rfl := inv_str hx
        obtain rfl := inv_str hy
        rename_i a b
        cases h
        have q := run_equalIn_string (P := P) s.w 9998 t ⟨a.toArray⟩ ⟨b.toArray⟩ hu
        rw [Op.equalIn] at q
        rw [q,ba_toList,ba_toList,beq_dec]
      · rename_i hu
        cases hk
        cases u <;> cases v <;> simp only [ikEq] at h <;> first | (cases h; done) | skip
        obtain rfl : x = .complex _ _ _ := by cases hx; rfl
        obtain rfl : y = .complex _ _ _ := by cases hy; rfl
        split at h
        · rename_i e; subst e; cases h
          simp only [Sem.run_bind,run_underlying' hu,Result.andThen_ok,if_true]; rfl
        · cases h
      · rename_i hu
        split at hk
        · rename_i hf
          cases hk
          cases u <;> cases v <;> simp only [ikEq] at h <;> first | (cases h; done) | skip
          rename_i fs cs ds
          cases cs <;> cases ds <;> simp only [ikEq] at h <;> first | (cases h; done) | skip
          cases h
          obtain ⟨_,_,h1,rfl⟩ := inv_agg hx
          obtain ⟨_,_,h2,rfl⟩ := inv_agg hy
          cases h1
          cases h2
          obtain rfl : fs = #[] := by simpa using hf.1
          simp [Sem.run_bind,run_underlying' hu,Result.andThen_ok,hf.2]
        · cases hk
    · cases hk
  · cases hk
theorem iface_equal {P : Program} {s : St} {T t t' : TypeId} {u v : V} {x y : Value} {r : Bool} {ms} (hT : P.underlying T = some (.interface ms)) (hx : s.val u x) (hy : s.val v y) (h : ifEq (ifaceKs P) t u t' v = some r) :
    (Op.equal T (.iface t x) (.iface t' y)).run P s.w = .ok r s.w := by
  show (Op.equalIn (9999 + 1) T _ _).run P s.w = _
  rw [Op.equalIn]
  unfold ifEq at h
  split at h
  · rename_i e
    subst e
    split at h
    · rename_i k hk
      obtain ⟨i,hi,hc,h⟩ := ik_equal (ikAt_of hk) hx hy h
      simp [Sem.run_bind,run_underlying' hT,Result.andThen_ok,run_typeInfo s.w hi,hc,h]
    · cases h
  · rename_i e
    cases h
    simp only [Sem.run_bind,run_underlying' hT,Result.andThen_ok,ne_eq,e,not_false_eq_true,if_true]; rfl
theorem bin_sound {P : Program} {s : St} {op : BinOp} {T : TypeId} {u v : V} {x y : Value} {X Y : Operand} (hu : s.val u x) (hv : s.val v y) {K : V → Prop} (h : vbin op (eqkOf P T) u v K) :
    YieldsV P s (do eqGuard op T X Y x y; binOp op T x y) K := by
  have key : plainV x = true → YieldsV P s (binOp op T x y) K → YieldsV P s (do eqGuard op T X Y x y; binOp op T x y) K := by
    rintro hg ⟨z,q,h1,h2,h3⟩
    exact ⟨z,q,by simp only [Sem.run_bind,eqGuard_ok op T X Y hg,Result.andThen_ok,h1],h2,h3⟩
  unfold vbin at h
  split at h
  · rename_i k n k' m
    obtain rfl := inv_int hu
    obtain rfl := inv_int hv
    refine key rfl ?_
    split at h
    · obtain ⟨h0,h⟩ := h
      exact ⟨_,_,by simp only [binOp,Op.shift]; rw [if_neg (by omega)]; rfl,.int _ _,h⟩
    · obtain ⟨h0,h⟩ := h
      exact ⟨_,_,by simp only [binOp,Op.shift]; rw [if_neg (by omega)]; rfl,.int _ _,h⟩
    · obtain ⟨rfl,h⟩ := h
      exact intBin_sound h
  · obtain rfl := inv_str hu
    obtain rfl := inv_str hv
    exact key rfl (strBin_sound h)
  · rename_i p q
    obtain rfl := val_bool hu
    obtain rfl := val_bool hv
    refine key rfl ?_
    have hT : eqkOf P T = .bool → P.underlying T = some .bool := by
      intro e
      unfold eqkOf at e
      split at e <;> first | assumption | (cases e; done) | (rcases eqkCells_or P T with h | ⟨_,h⟩ <;> rw [h] at e <;> cases e) | (rcases eqkIface_or P _ with h | ⟨_,h⟩ <;> rw [h] at e <;> cases e)
    split at h
    · rename_i e; exact ⟨_,_,by simp [binOp,bool_equal (hT e)],.bool _,h⟩
    · rename_i e; exact ⟨_,_,by simp [binOp,bool_equal (hT e)],.bool _,h⟩
    · exact h.elim
  · rename_i cs ds
    have hT : ∀ ks,eqkOf P T = .cells ks → flatK P 6 T = some ks ∧ P.eqGuardType P.depth T = false ∧ ∃ U,P.underlying T = some U ∧ isAggD U = true := by
      intro ks e
      unfold eqkOf at e
      have core : eqkCells P T = .cells ks → flatK P 6 T = some ks ∧ P.eqGuardType P.depth T = false := by
        intro e
        unfold eqkCells at e
        split at e
        · rename_i ks' h1
          split at e
          · rename_i h2; cases e; exact ⟨h1,h2⟩
          · cases e
        · cases e
      split at e <;> first | exact ⟨(core e).1,(core e).2,_,by assumption,rfl⟩ | (cases e; done) | (rcases eqkIface_or P _ with h | ⟨_,h⟩ <;> rw [h] at e <;> cases e)
    have run : ∀ (ks : List BK) (r : Bool),eqkOf P T = .cells ks → eqCells ks cs ds = some r → ∃ xs ys,x = .agg xs ∧ y = .agg ys ∧ (eqGuard op T X Y x y).run P s.w = .ok () s.w ∧ (Op.equalIn 10000 T x y).run P s.w = .ok r s.w := by
      intro ks r e he
      obtain ⟨h1,h2,U,hU,hA⟩ := hT ks e
      obtain ⟨l1,l2⟩ := eqCells_len _ _ _ _ he
      have hq := flat_equal 6 T ks h1 (.agg cs) (.agg ds) x y r hu hv (fun U' hU' => by rw [hU] at hU'; cases hU'; rw [hA]; exact ⟨⟨_,rfl,l1⟩,⟨_,rfl,l2⟩⟩) he 10000 (by omega)
      obtain ⟨xs,_,_,rfl⟩ := inv_agg hu
      obtain ⟨ys,_,_,rfl⟩ := inv_agg hv
      exact ⟨_,_,rfl,rfl,run_eqGuard_agg s.w op T X Y _ _ h2,hq⟩
    split at h
    · rename_i ks e
      obtain ⟨r,hr,h⟩ := need_elim h
      obtain ⟨xs,ys,rfl,rfl,g1,g2⟩ := run ks r e hr
      exact ⟨_,_,by simp only [Sem.run_bind,g1,Result.andThen_ok,run_eql_struct,g2],.bool _,h⟩
    · rename_i ks e
      obtain ⟨r,hr,h⟩ := need_elim h
      obtain ⟨xs,ys,rfl,rfl,g1,g2⟩ := run ks r e hr
      exact ⟨_,_,by simp only [Sem.run_bind,g1,Result.andThen_ok,run_neq_struct,g2],.bool _,h⟩
    · exact h.elim
  · have hT : eqkOf P T = .ptr → ∃ e,P.underlying T = some (.pointer e) := by
      intro e
      unfold eqkOf at e
      split at e <;> first | exact ⟨_,by assumption⟩ | (cases e; done) | (rcases eqkCells_or P T with h | ⟨_,h⟩ <;> rw [h] at e <;> cases e) | (rcases eqkIface_or P _ with h | ⟨_,h⟩ <;> rw [h] at e <;> cases e)
    cases hu
    cases hv
    refine key rfl ?_
    split at h
    · rename_i e; obtain ⟨_,hT⟩ := hT e; exact ⟨_,_,by simp [binOp,ptr_equal_nil hT],.bool _,h⟩
    · rename_i e; obtain ⟨_,hT⟩ := hT e; exact ⟨_,_,by simp [binOp,ptr_equal_nil hT],.bool _,h⟩
    · exact h.elim
  · have hT : eqkOf P T = .ptr → ∃ e,P.underlying T = some (.pointer e) := by
      intro e
      unfold eqkOf at e
      split at e <;> first | exact ⟨_,by assumption⟩ | (cases e; done) | (rcases eqkCells_or P T with h | ⟨_,h⟩ <;> rw [h] at e <;> cases e) | (rcases eqkIface_or P _ with h | ⟨_,h⟩ <;> rw [h] at e <;> cases e)
    obtain ⟨b,hb,rfl⟩ := inv_ptr hu
    cases hv
    refine key rfl ?_
    split at h
    · rename_i e; obtain ⟨_,hT⟩ := hT e; exact ⟨_,_,by simp [binOp,ptr_equal_nil hT],.bool _,h⟩
    · rename_i e; obtain ⟨_,hT⟩ := hT e; exact ⟨_,_,by simp [binOp,ptr_equal_nil hT],.bool _,h⟩
    · exact h.elim
  · have hT : eqkOf P T = .ptr → ∃ e,P.underlying T = some (.pointer e) := by
      intro e
      unfold eqkOf at e
      split at e <;> first | exact ⟨_,by assumption⟩ | (cases e; done) | (rcases eqkCells_or P T with h | ⟨_,h⟩ <;> rw [h] at e <;> cases e) | (rcases eqkIface_or P _ with h | ⟨_,h⟩ <;> rw [h] at e <;> cases e)
    obtain ⟨b,o,hb,rfl⟩ := inv_rptr hu
    cases hv
    refine key rfl ?_
    split at h
    · rename_i e; obtain ⟨_,hT⟩ := hT e; exact ⟨_,_,by simp [binOp,ptr_equal_nil hT],.bool _,h⟩
    · rename_i e; obtain ⟨_,hT⟩ := hT e; exact ⟨_,_,by simp [binOp,ptr_equal_nil hT],.bool _,h⟩
    · exact h.elim
  · obtain rfl := inv_nilSl hu
    obtain rfl := inv_nilSl hv
    refine key rfl ?_
    have hT : eqkOf P T = .slice → ∃ e,P.underlying T = some (.slice e) := by
      intro e
      unfold eqkOf at e
      split at e <;> first | exact ⟨_,by assumption⟩ | (cases e; done) | (rcases eqkCells_or P T with h | ⟨_,h⟩ <;> rw [h] at e <;> cases e) | (rcases eqkIface_or P _ with h | ⟨_,h⟩ <;> rw [h] at e <;> cases e)
    split at h
    · rename_i e; obtain ⟨_,hT⟩ := hT e; exact ⟨_,_,by simp [binOp,slice_equal_nil hT],.bool _,h⟩
    · rename_i e; obtain ⟨_,hT⟩ := hT e; exact ⟨_,_,by simp [binOp,slice_equal_nil hT],.bool _,h⟩
    · exact h.elim
  · rename_i sz es t
    obtain rfl := inv_nilSl hv
    have hT : eqkOf P T = .slice → ∃ e,P.underlying T = some (.slice e) := by
      intro e
      unfold eqkOf at e
      split at e <;> first | exact ⟨_,by assumption⟩ | (cases e; done) | (rcases eqkCells_or P T with h | ⟨_,h⟩ <;> rw [h] at e <;> cases e) | (rcases eqkIface_or P _ with h | ⟨_,h⟩ <;> rw [h] at e <;> cases e)
    rcases inv_sl hu with ⟨rfl,_,_⟩ | ⟨_,_,rfl,_,_⟩ | ⟨b,o,cap,rfl,_,_,_⟩
    · split at h
      · exact absurd rfl h.1
      · exact absurd rfl h.1
      · exact h.elim
    · split at h
      · exact absurd rfl h.1
      · exact absurd rfl h.1
      · exact h.elim
    · refine key rfl ?_
      split at h
      · rename_i e; obtain ⟨_,hT⟩ := hT e; exact ⟨_,_,by simp [binOp,slice_equal_nil hT],.bool _,h.2⟩
      · rename_i e; obtain ⟨_,hT⟩ := hT e; exact ⟨_,_,by simp [binOp,slice_equal_nil hT],.bool _,h.2⟩
      · exact h.elim
  · obtain rfl : x = .nilIface := by cases hu; rfl
    obtain rfl : y = .nilIface := by cases hv; rfl
    split at h
    · rename_i e; obtain ⟨_,h1,h2,_⟩ := ifaceT e; exact ⟨_,_,by simp [nil_guard h1 h2,binOp,iface_equal_nil h1],.bool _,h⟩
    · rename_i e; obtain ⟨_,h1,h2,_⟩ := ifaceT e; exact ⟨_,_,by simp [nil_guard h1 h2,binOp,iface_equal_nil h1],.bool _,h⟩
    · exact h.elim
  · obtain rfl : x = .nilIface := by cases hu; rfl
    obtain ⟨y,hy,rfl⟩ : ∃ y',_ ∧ y = .iface _ y' := by cases hv; exact ⟨_,by assumption,rfl⟩
    split at h
    · rename_i e; obtain ⟨_,h1,h2,_⟩ := ifaceT e; exact ⟨_,_,by simp [nil_guard' (op := .eql) (T := T),binOp,iface_equal_nl h1],.bool _,h⟩
    · rename_i e; obtain ⟨_,h1,h2,_⟩ := ifaceT e; exact ⟨_,_,by simp [nil_guard' (op := .neq) (T := T),binOp,iface_equal_nl h1],.bool _,h⟩
    · exact h.elim
  · obtain ⟨x,hx,rfl⟩ : ∃ x',_ ∧ x = .iface _ x' := by cases hu; exact ⟨_,by assumption,rfl⟩
    obtain rfl : y = .nilIface := by cases hv; rfl
    refine key rfl ?_
    split at h
    · rename_i e; obtain ⟨_,h1,h2,_⟩ := ifaceT e; exact ⟨_,_,by simp [binOp,iface_equal_nr h1],.bool _,h⟩
    · rename_i e; obtain ⟨_,h1,h2,_⟩ := ifaceT e; exact ⟨_,_,by simp [binOp,iface_equal_nr h1],.bool _,h⟩
    · exact h.elim
  · rename_i t u t' v
    obtain ⟨x,hx,rfl⟩ : ∃ x',s.val u x' ∧ x = .iface t x' := by cases hu; exact ⟨_,by assumption,rfl⟩
    obtain ⟨y,hy,rfl⟩ : ∃ y',s.val v y' ∧ y = .iface t' y' := by cases hv; exact ⟨_,by assumption,rfl⟩
    refine key rfl ?_
    split at h
    · rename_i ks e
      obtain ⟨_,h1,h2,rfl⟩ := ifaceT e
      obtain ⟨r,hr,h⟩ := need_elim h
      exact ⟨_,_,by simp [binOp,iface_equal h1 hx hy hr],.bool _,h⟩
    · rename_i ks e
      obtain ⟨_,h1,h2,rfl⟩ := ifaceT e
      obtain ⟨r,hr,h⟩ := need_elim h
      exact ⟨_,_,by simp [binOp,iface_equal h1 hx hy hr],.bool _,h⟩
    · exact h.elim
  · exact h.elim
/-! ### Slices, fields, elements, lengths -/
theorem opt_opd {x : Option Operand} {y : Option Opd} (h : optOpd x = some y) : (x = none ∧ y = none) ∨ ∃ u v,x = some u ∧ y = some v ∧ opdOf u = some v := by
  cases x with
  | none => cases h; exact .inl ⟨rfl,rfl⟩
  | some u =>
    simp only [optOpd,Option.map_eq_some_iff] at h
    obtain ⟨v,h1,rfl⟩ := h
    exact .inr ⟨u,v,rfl,rfl,h1⟩
theorem run_sliceBound' {P : Program} {w : World} (k : IntKind) (i : Int) (y : Nat) (code : BoundsCode) (h : 0 ≤ i ∧ i ≤ y) : (Instr.sliceBound (.int k i) y code).run P w = .ok i.toNat w := by
  simp only [Instr.sliceBound,asIntOf,Sem.run_bind,Sem.run_pure,Result.andThen_ok]
  rw [if_pos h]; rfl
theorem bound_inv {s : St} {a : A} {act : Act} (ha : ARel s a act) {x : Option Operand} {y : Option Opd} (h : optOpd x = some y) {d : Nat} {k : Int → Prop} (hk : bound a d y k) :
    (x = none ∧ y = none ∧ k d) ∨ ∃ u i n,x = some u ∧ y ≠ none ∧ act.eval u = .int i n ∧ k n := by
  rcases opt_opd h with ⟨rfl,rfl⟩ | ⟨u,v,rfl,rfl,hu⟩
  · exact .inl ⟨rfl,rfl,hk⟩
  · simp only [bound] at hk
    obtain ⟨p,hp,hk⟩ := need_elim hk
    have hv := opd_holds ha hu hp
    cases p <;> simp only at hk <;> try exact hk.elim
    case int i n => exact .inr ⟨u,i,n,rfl,by simp,inv_int hv,hk⟩
theorem run_sliceBounds {P : Program} {w : World} (isS : Bool) (len cap : Nat) (lo hi : Option Value) (l h : Int) (hl : (lo = none ∧ l = 0) ∨ ∃ i,lo = some (.int i l)) (hh : (hi = none ∧ h = len) ∨ ∃ i,hi = some (.int i h))
    (h0 : 0 ≤ l) (h1 : l ≤ h) (h2 : h ≤ len) (h3 : len ≤ cap) : (Instr.sliceBounds isS len cap lo hi none).run P w = .ok (l.toNat,h.toNat,cap) w := by
  rcases hl with ⟨rfl,rfl⟩ | ⟨i,rfl⟩ <;> rcases hh with ⟨rfl,rfl⟩ | ⟨j,rfl⟩
  · simp [Instr.sliceBounds]
  · simp only [Instr.sliceBounds,Sem.run_bind,Sem.run_pure,Result.andThen_ok]
    rw [run_sliceBound' _ _ _ _ ⟨by omega,by omega⟩]
    simp
  · simp only [Instr.sliceBounds,Sem.run_bind,Sem.run_pure,Result.andThen_ok]
    rw [run_sliceBound' _ _ _ _ ⟨h0,by omega⟩]
    simp
  · simp only [Instr.sliceBounds,Sem.run_bind,Sem.run_pure,Result.andThen_ok]
    rw [run_sliceBound' _ _ _ _ ⟨by omega,by omega⟩]
    simp only [Result.andThen_ok,Sem.run_bind]
    rw [run_sliceBound' _ _ _ _ ⟨h0,by omega⟩]
    simp
theorem run_sliceBounds3 {P : Program} {w : World} (isS : Bool) (len cap : Nat) (lo hi : Option Value) (l h m : Int) (km : IntKind) (hl : (lo = none ∧ l = 0) ∨ ∃ i,lo = some (.int i l)) (hh : ∃ i,hi = some (.int i h))
    (h0 : 0 ≤ l) (h1 : l ≤ h) (h2 : h ≤ m) (h3 : m ≤ cap) : (Instr.sliceBounds isS len cap lo hi (some (.int km m))).run P w = .ok (l.toNat,h.toNat,m.toNat) w := by
  obtain ⟨j,rfl⟩ := hh
  rcases hl with ⟨rfl,rfl⟩ | ⟨i,rfl⟩
  · simp only [Instr.sliceBounds,Sem.run_bind,Sem.run_pure,Result.andThen_ok]
    rw [run_sliceBound' _ _ _ _ ⟨by omega,by omega⟩]
    simp only [Result.andThen_ok,Sem.run_bind]
    rw [run_sliceBound' _ _ _ _ ⟨by omega,by omega⟩]
    simp
  · simp only [Instr.sliceBounds,Sem.run_bind,Sem.run_pure,Result.andThen_ok]
    rw [run_sliceBound' _ _ _ _ ⟨by omega,by omega⟩]
    simp only [Result.andThen_ok,Sem.run_bind]
    rw [run_sliceBound' _ _ _ _ ⟨by omega,by omega⟩]
    simp only [Result.andThen_ok,Sem.run_bind]
    rw [run_sliceBound' _ _ _ _ ⟨h0,by omega⟩]
    simp
theorem take_drop_len {α : Type} (l : List α) (i n : Nat) (h : i + n ≤ l.length) : ((l.drop i).take n).length = n := by simp; omega
theorem eval_opt {s : St} {a : A} {act : Act} (ha : ARel s a act) {x : Option Operand} {y : Option Opd} (h : optOpd x = some y) {d : Nat} {k : Int → Prop} (hk : bound a d y k) :
    ∃ n,k n ∧ ((x.map act.eval = none ∧ n = d ∧ y = none) ∨ ∃ i,x.map act.eval = some (.int i n)) := by
  rcases bound_inv ha h hk with ⟨rfl,rfl,hk⟩ | ⟨u,i,n,rfl,_,hu,hk⟩
  · exact ⟨d,hk,.inl ⟨rfl,rfl,rfl⟩⟩
  · exact ⟨n,hk,.inr ⟨i,by simp [hu]⟩⟩
theorem slcS_sound {P : Program} {s : St} {a : A} {act : Act} (ha : ARel s a act) {T : TypeId} (hT : P.underlying T = some .string) {x : Value} {v : V} (hv : s.val v x) {lo hi mx : Option Operand} {lo' hi' mx' : Option Opd} (hlo : optOpd lo = some lo') (hhi : optOpd hi = some hi') (hmx : optOpd mx = some mx')
    {k : V → Prop} (h : vslc a none lo' hi' mx' v k) : YieldsV P s (Instr.sliceAt T x (lo.map act.eval) (hi.map act.eval) (mx.map act.eval)) k := by
  cases v <;> simp only [vslc] at h <;> try exact h.elim
  case nilSl =>
    obtain ⟨_,h,_⟩ := eval_opt ha hlo h
    obtain ⟨_,h,_⟩ := eval_opt ha hhi h
    exact h.elim
  case msl i z off n =>
    obtain ⟨_,h,_⟩ := eval_opt ha hlo h
    obtain ⟨_,h,_⟩ := eval_opt ha hhi h
    exact h.elim
  case sl z es t =>
    obtain ⟨_,h,_⟩ := eval_opt ha hlo h
    exact h.elim
  case str l =>
    cases mx' with
    | some m => exact h.elim
    | none =>
      simp only at h
      rcases opt_opd hmx with ⟨rfl,_⟩ | ⟨_,_,_,h0,_⟩
      case inr => cases h0
      obtain ⟨p,h,hp⟩ := eval_opt ha hlo h
      obtain ⟨q,⟨⟨h0,h1,h2⟩,h⟩,hq⟩ := eval_opt ha hhi h
      obtain rfl := inv_str hv
      refine ⟨_,_,?_,.str _,h⟩
      have hb := run_sliceBounds (P := P) (w := s.w) false l.length l.length (lo.map act.eval) (hi.map act.eval) p q (by rcases hp with ⟨e1,e2,_⟩ | e; exact .inl ⟨e1,by simpa using e2⟩; exact .inr e) (by rcases hq with ⟨e1,e2,_⟩ | e; exact .inl ⟨e1,e2⟩; exact .inr e) h0 h1 h2 (Nat.le_refl _)
      simp only [Instr.sliceAt,Instr.slice,Sem.run_bind,run_underlying' hT,Result.andThen_ok,Option.map_none,Option.isSome_none,Bool.false_eq_true,if_false,Sem.run_pure,ba_size,hb]
      rw [show ((⟨l.toArray⟩ : ByteArray).extract p.toNat q.toNat) = ⟨((l.drop p.toNat).take (q.toNat - p.toNat)).toArray⟩ from by rw [← Lib.mk_data (ByteArray.extract _ _ _),Lib.extract_data]]
theorem slcE_sound {P : Program} {s : St} {a : A} {act : Act} (ha : ARel s a act) {T e : TypeId} (hT : P.underlying T = some (.slice e)) {sz : Nat} (hsz : sizeT P e = some sz) {x : Value} {v : V} (hv : s.val v x) {lo hi mx : Option Operand} {lo' hi' mx' : Option Opd} (hlo : optOpd lo = some lo') (hhi : optOpd hi = some hi') (hmx : optOpd mx = some mx')
    {k : V → Prop} (h : vslc a (some sz) lo' hi' mx' v k) : YieldsV P s (Instr.sliceAt T x (lo.map act.eval) (hi.map act.eval) (mx.map act.eval)) k := by
  cases v <;> simp only [vslc] at h <;> try exact h.elim
  case nilSl =>
    obtain rfl := inv_nilSl hv
    obtain ⟨p,g,hp⟩ := eval_opt ha hlo h
    clear h
    obtain ⟨q,h,hq⟩ := eval_opt ha hhi g
    clear g
    cases mx' with
    | some m => exact h.elim
    | none =>
      rcases opt_opd hmx with ⟨rfl,_⟩ | ⟨_,_,_,h0,_⟩
      case inr => cases h0
      obtain ⟨⟨rfl,rfl⟩,h⟩ := h
      refine ⟨_,_,?_,.nilSl,h⟩
      have hb := run_sliceBounds (P := P) (w := s.w) true 0 0 (lo.map act.eval) (hi.map act.eval) 0 0 (by rcases hp with ⟨e1,e2,_⟩ | e; exact .inl ⟨e1,rfl⟩; exact .inr e) (by rcases hq with ⟨e1,e2,_⟩ | e; exact .inl ⟨e1,rfl⟩; exact .inr e) (by omega) (by omega) (by omega) (Nat.le_refl _)
      simp only [Instr.sliceAt,Instr.slice,Sem.run_bind,run_underlying' hT,Result.andThen_ok,Option.map_none,Sem.run_pure,hb,sizeT_run hsz]
      simp
  case msl i z off n =>
    obtain ⟨b,o,cap,hb,hc,ho,rfl⟩ := inv_msl hv
    obtain ⟨p,g,hp⟩ := eval_opt ha hlo h
    clear h
    obtain ⟨q,h,hq⟩ := eval_opt ha hhi g
    clear g
    cases mx' with
    | some m => exact h.elim
    | none =>
      rcases opt_opd hmx with ⟨rfl,_⟩ | ⟨_,_,_,h0,_⟩
      case inr => cases h0
      obtain ⟨⟨rfl,h0,h1,h2⟩,h⟩ := h
      have hbd := run_sliceBounds (P := P) (w := s.w) true n cap (lo.map act.eval) (hi.map act.eval) p q (by rcases hp with ⟨e1,e2,_⟩ | e; exact .inl ⟨e1,by simpa using e2⟩; exact .inr e) (by rcases hq with ⟨e1,e2,_⟩ | e; exact .inl ⟨e1,e2⟩; exact .inr e) h0 h1 h2 hc
      refine ⟨.slice (some (if cap = p.toNat then ⟨b,o,none⟩ else ⟨b,o + p.toNat * z,none⟩)) (q.toNat - p.toNat) (cap - p.toNat),_,?_,?_,h⟩
      · simp only [Instr.sliceAt,Instr.slice,Sem.run_bind,run_underlying' hT,Result.andThen_ok,Option.map_none,Sem.run_pure,hbd,sizeT_run hsz]
        split <;> simp [add_plain]
      · split
        · exact .msl _ _ _ _ _ _ _ hb (by omega) (.inl (by omega))
        · refine .msl _ _ _ _ _ _ _ hb (by omega) ?_
          rcases ho with ho | ho
          · exact .inl (by omega)
          · exact .inr (by rw [ho])
  case sl z es t =>
    obtain ⟨p,h,hp⟩ := eval_opt ha hlo h
    cases mx' with
    | none =>
      rcases opt_opd hmx with ⟨rfl,_⟩ | ⟨_,_,_,h0,_⟩
      case inr => cases h0
      simp only at h
      obtain ⟨q,h,hq⟩ := eval_opt ha hhi h
      obtain ⟨⟨rfl,h0,h1,h2⟩,h⟩ := h
      rcases inv_sl hv with ⟨rfl,rfl,ht⟩ | ⟨ad,cap,rfl,rfl,ht⟩ | ⟨b,o,cap,rfl,he,hc,ht⟩
      · simp only [List.length_nil] at h2
        obtain rfl : q = 0 := by simp at h2; omega
        obtain rfl : p = 0 := by omega
        have hb := run_sliceBounds (P := P) (w := s.w) true 0 0 (lo.map act.eval) (hi.map act.eval) 0 0 (by rcases hp with ⟨e1,e2,_⟩ | e; exact .inl ⟨e1,rfl⟩; exact .inr e) (by rcases hq with ⟨e1,e2,_⟩ | e; exact .inl ⟨e1,rfl⟩; exact .inr e) (by omega) (by omega) (by omega) (Nat.le_refl _)
        refine ⟨.slice none 0 0,_,?_,?_,h⟩
        · simp only [Instr.sliceAt,Instr.slice,Sem.run_bind,run_underlying' hT,Result.andThen_ok,Option.map_none,Sem.run_pure,hb,sizeT_run hsz]
          simp
        · simp only [List.length_nil]
          exact .slNil _ _ (by simpa using ht)
      · simp only [List.length_nil] at h2
        obtain rfl : q = 0 := by simp at h2; omega
        obtain rfl : p = 0 := by omega
        have hb := run_sliceBounds (P := P) (w := s.w) true 0 cap (lo.map act.eval) (hi.map act.eval) 0 0 (by rcases hp with ⟨e1,e2,_⟩ | e; exact .inl ⟨e1,rfl⟩; exact .inr e) (by rcases hq with ⟨e1,e2,_⟩ | e; exact .inl ⟨e1,rfl⟩; exact .inr e) (by omega) (by omega) (by omega) (Nat.zero_le _)
        have hrun : (Instr.sliceAt T (.slice (some ad) 0 cap) (lo.map act.eval) (hi.map act.eval) (Option.map act.eval none)).run P s.w = .ok (.slice (some ad) 0 cap) s.w := by
          simp only [Instr.sliceAt,Instr.slice,Sem.run_bind,run_underlying' hT,Result.andThen_ok,Option.map_none,Sem.run_pure,hb,sizeT_run hsz]
          split <;> simp [Addr.add]
        refine ⟨_,_,hrun,?_,h⟩
        simp only [List.drop_nil,List.take_nil]
        refine .slEmp _ _ _ _ ?_
        simpa using ht
      · have hb := run_sliceBounds (P := P) (w := s.w) true es.length cap (lo.map act.eval) (hi.map act.eval) p q (by rcases hp with ⟨e1,e2,_⟩ | e; exact .inl ⟨e1,by simpa using e2⟩; exact .inr e) (by rcases hq with ⟨e1,e2,_⟩ | e; exact .inl ⟨e1,e2⟩; exact .inr e) h0 h1 h2 hc
        have hl : ((es.drop p.toNat).take (q.toNat - p.toNat)).length = q.toNat - p.toNat := take_drop_len _ _ _ (by omega)
        have hrun : (Instr.sliceAt T (.slice (some ⟨b,o,none⟩) es.length cap) (lo.map act.eval) (hi.map act.eval) (Option.map act.eval none)).run P s.w = .ok (.slice (some (if cap = p.toNat then ⟨b,o,none⟩ else ⟨b,o + p.toNat * z,none⟩)) ((es.drop p.toNat).take (q.toNat - p.toNat)).length (cap - p.toNat)) s.w := by
          simp only [Instr.sliceAt,Instr.slice,Sem.run_bind,run_underlying' hT,Result.andThen_ok,Option.map_none,Sem.run_pure,hb,sizeT_run hsz,hl]
          split <;> simp [add_plain]
        refine ⟨_,_,hrun,?_,h⟩
        by_cases hcp : cap = p.toNat
        · rw [if_pos hcp]
          have hqp : q = p := by omega
          subst hqp
          have e0 : (es.drop q.toNat).take (q.toNat - q.toNat) = [] := by simp
          rw [e0]
          refine .sl _ _ _ b o _ (.elsNil _ _ _) (by simp) ?_
          split
          · rename_i hh
            obtain ⟨rfl,hh⟩ := hh
            have : es = [] := List.length_eq_zero_iff.1 (by omega)
            subst this
            simp only [List.length_nil,Int.toNat_zero,Nat.sub_zero] at ht hcp ⊢
            subst hcp
            exact ht
          · trivial
        · rw [if_neg hcp]
          refine .sl _ _ _ b _ _ (els_take (els_drop he p.toNat (by omega)) _) (by rw [hl]; omega) ?_
          split
          · rename_i hh
            obtain ⟨rfl,rfl⟩ := hh
            have e1 : (es.drop (Int.toNat 0)).take (Int.toNat (es.length : Int) - Int.toNat 0) = es := by simp
            rw [e1]
            simpa using ht
          · trivial
    | some m =>
      cases hi' with
      | none => exact h.elim
      | some hi' =>
      simp only at h
      obtain ⟨q,h,hq⟩ := eval_opt ha hhi h
      obtain ⟨r,h,hr⟩ := eval_opt ha hmx h
      obtain ⟨⟨rfl,h0,h1,rfl,h2⟩,h⟩ := h
      obtain ⟨km,hr⟩ : ∃ i,mx.map act.eval = some (.int i q) := by rcases hr with ⟨_,_,h⟩ | h; cases h; exact h
      have hq' : ∃ i,hi.map act.eval = some (.int i q) := by rcases hq with ⟨_,_,h⟩ | h; cases h; exact h
      rcases inv_sl hv with ⟨rfl,rfl,ht⟩ | ⟨ad,cap,rfl,rfl,ht⟩ | ⟨b,o,cap,rfl,he,hc,ht⟩
      · simp only [List.length_nil] at h2
        obtain rfl : q = 0 := by simp at h2; omega
        obtain rfl : p = 0 := by omega
        have hb := run_sliceBounds3 (P := P) (w := s.w) true 0 0 (lo.map act.eval) (hi.map act.eval) 0 0 0 km (by rcases hp with ⟨e1,e2,_⟩ | e; exact .inl ⟨e1,rfl⟩; exact .inr e) hq' (by omega) (by omega) (by omega) (by omega)
        refine ⟨.slice none 0 0,_,?_,?_,h⟩
        · simp only [Instr.sliceAt,Instr.slice,Sem.run_bind,run_underlying' hT,Result.andThen_ok,hr,Sem.run_pure,hb,sizeT_run hsz]
          simp
        · exact .slNil _ _ rfl
      · simp only [List.length_nil] at h2
        obtain rfl : q = 0 := by simp at h2; omega
        obtain rfl : p = 0 := by omega
        have hb := run_sliceBounds3 (P := P) (w := s.w) true 0 cap (lo.map act.eval) (hi.map act.eval) 0 0 0 km (by rcases hp with ⟨e1,e2,_⟩ | e; exact .inl ⟨e1,rfl⟩; exact .inr e) hq' (by omega) (by omega) (by omega) (by omega)
        have hrun : (Instr.sliceAt T (.slice (some ad) 0 cap) (lo.map act.eval) (hi.map act.eval) (mx.map act.eval)).run P s.w = .ok (.slice (some ad) 0 0) s.w := by
          simp only [Instr.sliceAt,Instr.slice,Sem.run_bind,run_underlying' hT,Result.andThen_ok,hr,Sem.run_pure,hb,sizeT_run hsz]
          simp [Addr.add]
        refine ⟨_,_,hrun,?_,h⟩
        exact .slEmp _ _ _ _ rfl
      · have hb := run_sliceBounds3 (P := P) (w := s.w) true es.length cap (lo.map act.eval) (hi.map act.eval) p q q km (by rcases hp with ⟨e1,e2,_⟩ | e; exact .inl ⟨e1,by simpa using e2⟩; exact .inr e) hq' h0 h1 (by omega) (by omega)
        have hl : ((es.drop p.toNat).take (q.toNat - p.toNat)).length = q.toNat - p.toNat := take_drop_len _ _ _ (by omega)
        have hrun : (Instr.sliceAt T (.slice (some ⟨b,o,none⟩) es.length cap) (lo.map act.eval) (hi.map act.eval) (mx.map act.eval)).run P s.w = .ok (.slice (some (if q.toNat = p.toNat then ⟨b,o,none⟩ else ⟨b,o + p.toNat * z,none⟩)) ((es.drop p.toNat).take (q.toNat - p.toNat)).length (q.toNat - p.toNat)) s.w := by
          simp only [Instr.sliceAt,Instr.slice,Sem.run_bind,run_underlying' hT,Result.andThen_ok,hr,Sem.run_pure,hb,sizeT_run hsz,hl]
          split <;> simp [add_plain]
        refine ⟨_,_,hrun,?_,h⟩
        by_cases hcp : q.toNat = p.toNat
        · rw [if_pos hcp]
          have e0 : (es.drop p.toNat).take (q.toNat - p.toNat) = [] := by rw [hcp]; simp
          rw [e0]
          refine .sl _ _ _ b o _ (.elsNil _ _ _) (by simp) ?_
          show _ = _
          simp; omega
        · rw [if_neg hcp]
          exact .sl _ _ _ b _ _ (els_take (els_drop he p.toNat (by omega)) _) (by rw [hl]; omega) (by show _ = _; rw [hl])
/-! ### Fields -/
theorem fieldOf_inv {P : Program} {T : TypeId} {f : Nat} {off : Nat} {agg : Bool} {sz : Nat} (h : fieldOf P T f = some (off,agg,sz)) :
    ∃ fs x,P.underlying T = some (.struct fs) ∧ fs[f]? = some x ∧ tinfo P x.type = some (agg,sz) ∧ sz ≠ 0 ∧ x.offset = off := by
  unfold fieldOf at h
  split at h
  · rename_i fs h1
    split at h
    · rename_i x h2
      split at h
      · rename_i a z h3
        split at h
        · cases h
        · cases h; exact ⟨fs,x,h1,h2,h3,by assumption,rfl⟩
      · cases h
    · cases h
  · cases h
theorem fieldPlace_run {P : Program} {x : Field} {sz : Nat} {agg : Bool} (ti : TI P x.type agg sz) (h0 : sz ≠ 0) (b o : Nat) (w : World) : (fieldPlace ⟨b,o,none⟩ x).run P w = .ok ⟨b,o + x.offset,none⟩ w := by
  simp only [fieldPlace,Sem.run_bind,ti.size,Result.andThen_ok]
  rw [if_neg h0]
  simp [add_plain]
/-! ### Bytes and strings -/
theorem bytesOf_vals {s : St} {f : Value → ByteArray → Sem (ForInStep ByteArray)} (hf : ∀ n r,f (.int .u8 n) r = Pure.pure (.yield (r.push (UInt8.ofNat n.toNat)))) {vs : List V} {l : List UInt8} (h : bytesOf vs = some l) {xs : List Value} (hv : s.vals vs xs) :
    xs.length = l.length ∧ ∀ acc : ByteArray,forIn xs acc f = (Pure.pure ⟨acc.data ++ l.toArray⟩ : Sem ByteArray) := by
  induction vs generalizing xs l with
  | nil => cases h; cases hv; exact ⟨rfl,fun acc => by simp⟩
  | cons v vs ih =>
    cases hv with
    | cons _ x _ xs h1 h2 =>
      unfold bytesOf at h
      split at h
      · rename_i e; cases e
      · rename_i n us e
        cases e
        split at h
        · rename_i l' h3
          cases h
          obtain ⟨k1,k2⟩ := ih h3 h2
          obtain rfl := inv_int h1
          refine ⟨by simp [k1],fun acc => ?_⟩
          simp only [List.forIn_cons,hf,pure_bind]
          rw [k2]
          congr 2
          apply Array.ext'
          simp [ByteArray.push]
        · cases h
      · cases h
end Go.Vm
