/- Every operation, sound. -/
import Derived.Test.YtkldmgnhbomknaaGreatVm9
import Derived.Lib.ConvBytes
set_option linter.unusedVariables false
set_option linter.unusedSimpArgs false
namespace Go.Vm
theorem evs_args {s : St} {a : A} {act : Act} (ha : ARel s a act) {xs : Array Operand} {ys : List Opd} (h : opdsOf xs.toList = some ys) {vs : List V} (hv : a.evs ys = some vs) : ∃ zs : List Value,xs.map act.eval = zs.toArray ∧ s.vals vs zs :=
  ⟨_,map_toArr xs act.eval,opds_holds ha h hv⟩
theorem run_callFunc {P : Program} {f : FuncId} (h : entered P f = true) (args : Array Value) (w : World) : (callFunc f args).run P w = .ok (.enter f args) w := by
  unfold entered at h
  split at h
  · rename_i fn hf
    rw [Bool.and_eq_true,Bool.not_eq_true'] at h
    simp only [callFunc,Sem.run_bind,run_program,Result.andThen_ok,hf,h.2,Bool.false_eq_true,if_false]
    rw [if_neg (by cases hb : fn.body <;> simp_all)]
    rfl
  · cases h
theorem call_sound {P : Program} {o : Oper} {s : St} {act : Act} {H : AH} (hr : HRel s H) {f : FuncId} {vs : List V} {xs : List Value} (hv : s.vals vs xs) {k : V → AH → Prop} {kp : AH → Prop} (h : ACalls P f vs H (outK k kp))
    (hrun : (execOp act.eval o).run P s.w = .ok (.enter f xs.toArray) s.w) : o.wp P act s.w (Went s act o.dst k) (Fell s act kp) := by
  unfold Oper.wp
  rw [hrun]
  refine (h s xs hr hv).mono fun e w' hp => ?_
  obtain ⟨s',H',out,rfl,hx,hr',ho,hk⟩ := hp
  cases e with
  | returned x =>
    cases out with
    | ret v => exact ⟨s',x,v,H',rfl,hx,hr',rfl,ho,hk⟩
    | pan => exact ho.elim
  | panicked ch =>
    cases out with
    | ret v => exact ho.elim
    | pan => exact ⟨ch,s',H',rfl,ho,rfl,rfl,hx,hr',hk⟩
  | outgrown => cases out <;> exact ho.elim
def enters (P : Program) : MOp → Bool
  | .call f _ => entered P f
  | _ => true
theorem lay_sound {s : St} {a : A} {act : Act} (ha : ARel s a act) {place : Nat → Option (Nat × Nat)} {ps : List (Nat × Operand)} {qs : List (Nat × Nat × Opd)} (h : partsOf place ps = some qs) {cs ds : List V} {ys : Array Value} (hone : ones cs = true) (hv : s.vals cs ys.toList) (hl : lay a cs qs = some ds) :
    ∃ zs : Array Value,Instr.fill place ys (ps.map fun (i,x) => (i,act.eval x)) = some zs ∧ s.vals ds zs.toList ∧ ones ds = true ∧ zs.size = ys.size := by
  induction ps generalizing qs cs ys with
  | nil => cases h; cases hl; exact ⟨ys,rfl,hv,hone,rfl⟩
  | cons p ps ih =>
    obtain ⟨i,x⟩ := p
    simp only [partsOf] at h
    split at h
    · rename_i off sz y qs' h1 h2 h3
      cases h
      simp only [lay] at hl
      split at hl
      · rename_i v hev
        split at hl
        · rename_i hc
          obtain ⟨c1,c2,c3⟩ := hc
          have hx := opd_holds ha h2 hev
          have hcells := val_cells hx
          have hn := vals_length hcells
          have hny := vals_length hv
          have hsz : (act.eval x).cells.size = sz := by rw [← c2,← hn]; simp
          have hov := vals_over (ys := ys) hv off hcells
          have hfold : ∀ (xs : List Value) (zs : Array Value) (j : Nat),(xs.zipIdx j).foldl (fun (cs : Array Value) (p : Value × Nat) => cs.setIfInBounds (off + p.2) p.1) zs = overW zs (off + j) xs := by
            intro xs
            induction xs with
            | nil => intro zs j; rfl
            | cons x xs ih => intro zs j; simp only [List.zipIdx_cons,List.foldl_cons,ih,overW]; rw [show off + (j + 1) = off + j + 1 by omega]
          have hstep : Instr.fill place ys ((i,act.eval x) :: ps.map fun (i,x) => (i,act.eval x)) = Instr.fill place (overW ys off (act.eval x).cells.toList) (ps.map fun (i,x) => (i,act.eval x)) := by
            rw [Instr.fill,h1]
            simp only
            have hys : ys.size = cs.length := by simpa using hny
            rw [if_neg (by simp [hsz]; omega)]
            congr 1
            have := hfold (act.eval x).cells.toList ys 0
            rw [Nat.add_zero] at this
            rw [← this]
            rw [← Array.foldl_toList]
            congr 1
            simp
          obtain ⟨zs,z1,z2,z3,z4⟩ := ih h3 (ones_over hone off (cells_ones hx c1)) hov hl
          exact ⟨zs,by rw [List.map_cons,hstep]; exact z1,z2,z3,by rw [z4,overW_size]⟩
        · cases hl
      · cases hl
    · cases h
theorem chop_els {s : St} {b : Nat} {ys : Array Value} {T : TypeId} (hb : s.w.heap[b]? = some (.cells ys T (0,0))) (hr : s.role b = none) (sz : Nat) : ∀ (n : Nat) (cs : List V) (o : Nat),cs.length = n * sz → ones cs = true → s.vals cs ((ys.toList.drop o).take (n * sz)) → Holds s (.els b o sz (chop sz n cs)) ∧ (chop sz n cs).length = n
  | 0,_,_,_,_,_ => ⟨.elsNil _ _ _,rfl⟩
  | n + 1,cs,o,hl,hone,hv => by
    rw [Nat.add_mul,Nat.one_mul] at hl hv
    have hsplit : cs = cs.take sz ++ cs.drop sz := (List.take_append_drop sz cs).symm
    rw [hsplit] at hv
    obtain ⟨h1,h2⟩ := vals_split hv
    have hlt : (cs.take sz).length = sz := by rw [List.length_take]; omega
    rw [hlt,List.take_take,show min sz (n * sz + sz) = sz by omega] at h1
    rw [hlt,List.drop_take,List.drop_drop,show n * sz + sz - sz = n * sz by omega] at h2
    obtain ⟨k1,k2⟩ := chop_els hb hr sz n (cs.drop sz) (o + sz) (by rw [List.length_drop]; omega) (ones_drop hone _) h2
    refine ⟨.elsCons _ _ _ _ _ hlt (row_of_cells hb _ o (ones_take hone _) (by rw [hlt]; exact h1) fun k e he => by rw [hr] at he; cases he) k1,by simp [chop,k2]⟩
theorem flatten_replicate_vals {s : St} {cs : List V} {ys : List Value} (h : s.vals cs ys) : ∀ n,s.vals (List.replicate n cs).flatten (List.replicate n ys).flatten
  | 0 => .nil
  | n + 1 => by
    simp only [List.replicate_succ,List.flatten_cons]
    exact vals_append h (flatten_replicate_vals h n)
theorem flatten_replicate_ones {cs : List V} (h : ones cs = true) : ∀ n,ones (List.replicate n cs).flatten = true
  | 0 => rfl
  | n + 1 => by
    simp only [List.replicate_succ,List.flatten_cons]
    exact ones_append h (flatten_replicate_ones h n)
theorem flatten_replicate_len {α : Type} (cs : List α) : ∀ n,(List.replicate n cs).flatten.length = n * cs.length
  | 0 => by simp
  | n + 1 => by
    simp only [List.replicate_succ,List.flatten_cons,List.length_append,flatten_replicate_len cs n,Nat.add_mul]; omega
theorem zero_cells {α : Type} [Inhabited α] (z : Array α) (n : Nat) (hz : z.size ≠ 0) : ((Array.range (n * z.size)).map (fun i => z[i % z.size]!)).toList = (List.replicate n z.toList).flatten := by
  apply List.ext_getElem?
  intro j
  by_cases hj : j < n * z.size
  · have h1 : ((Array.range (n * z.size)).map (fun i => z[i % z.size]!)).toList[j]? = some (z[j % z.size]!) := by
      simp [hj]
    rw [h1]
    have hm : j % z.size < z.size := Nat.mod_lt _ (by omega)
    have key : ∀ (n j : Nat),j < n * z.size → (List.replicate n z.toList).flatten[j]? = some (z[j % z.size]!) := by
      intro n
      induction n with
      | zero => intro j h; simp at h
      | succ n ih =>
        intro j h
        simp only [List.replicate_succ,List.flatten_cons]
        by_cases hlt : j < z.size
        · rw [List.getElem?_append_left (by simpa using hlt),Nat.mod_eq_of_lt hlt]
          simp [hlt]
        · rw [List.getElem?_append_right (by simp; omega)]
          rw [Nat.add_mul,Nat.one_mul] at h
          have := ih (j - z.size) (by omega)
          rw [Array.length_toList,this,← Nat.mod_eq_sub_mod (by omega)]
    rw [key n j hj]
  · rw [List.getElem?_eq_none (by simp; omega),List.getElem?_eq_none (by rw [flatten_replicate_len]; simp; omega)]
theorem placesOf_inv {P : Program} : ∀ (fs : List Field) (pl : List (Nat × Nat)),placesOf P fs = some pl → ∀ w,(fs.mapM fun f => do Pure.pure (f.offset,← sizeOf f.type) : Sem (List (Nat × Nat))).run P w = .ok pl w
  | [],pl,h,w => by cases h; rfl
  | f :: fs,pl,h,w => by
    simp only [placesOf] at h
    split at h
    · rename_i sz ps h1 h2
      cases h
      have := placesOf_inv fs ps h2 w
      simp only [List.mapM_cons,Sem.run_bind,sizeT_run h1,Result.andThen_ok,Sem.run_pure,this]
    · cases h
theorem run_assertion_fails {P : Program} {e : TypeId} (hel : P.underlying P.rt.typeAssertionError = some (.pointer e)) (i c : Option TypeId) (T : TypeId) (m : String) (w : World) :
    ∃ o r,(runtimePanic (α := Value) (.typeAssertion i c T m)).run P w = .halt (.panic (.iface P.rt.typeAssertionError (.pointer (some r)))) (w.alloc o) :=
  ⟨.cells (Value.agg #[match i with | some t => typeHandle P t | none => .pointer none,match c with | some t => typeHandle P t | none => .pointer none,typeHandle P T,strVal m]).cells e (0,0),⟨w.heap.size,0,none⟩,by
    simp only [runtimePanic,Sem.run_bind,elemOf,run_underlying' hel,newVar,newRow,Result.andThen_ok]
    cases i <;> cases c <;> simp [goPanic,run_underlying' hel] <;> rfl⟩
theorem mop_sound {P : Program} {imm : Nat → Bool} {o : Oper} {m : MOp} (h : mopOf P imm o = some m) (he : enters P m = true) {a : A} {H : AH} {s : St} {act : Act} (hr : HRel s H) (ha : ARel s a act) {k : V → AH → Prop} {kp : AH → Prop} (hk : mop P m a H k kp) :
    o.wp P act s.w (Went s act o.dst k) (Fell s act kp) := by
  obtain ⟨dst,op,type,pos,after,guard⟩ := o
  unfold mopOf at h
  simp only at h
  split at h
  · rename_i q hq
    cases h
    exact wp_of_yields hr (vop_sound (o := ⟨dst,op,type,pos,after,guard⟩) hq hr ha hk)
  · rename_i hno
    clear hno
    cases op <;> (try simp only at h) <;> try (cases h; done)
    case alloc T =>
      split at h
      · split at h
        · rename_i hz2
          simp only [Option.map_eq_some_iff] at h
          obtain ⟨e,_,rfl⟩ := h
          have hk : ∀ i,H i = none → k (.ptr i 0) (H.put i (.bld T e [])) := hk
          have hz : zeroOf P T = some [.nilPtr,.nilSl] := by
            unfold Option.isEqSome2 at hz2
            split at hz2
            · assumption
            · cases hz2
          obtain ⟨z,z1,z2,z3⟩ := zero_holds hz
          have hzz : z.cells = #[.pointer none,.slice none 0 0] := by
            have h0 := z2 s
            apply Array.ext'
            cases hq : z.cells.toList with
            | nil => rw [hq] at h0; cases h0
            | cons x xs =>
              rw [hq] at h0
              cases h0 with
              | cons _ _ _ _ g1 g2 =>
                cases g1
                cases g2 with
                | cons _ _ _ _ g3 g4 =>
                  cases g3
                  cases g4
                  rfl
          have hx := St.ext_newObj hr (.cells #[.pointer none,.slice none 0 0] T (0,0))
          have hb : (s.newObj (.cells #[.pointer none,.slice none 0 0] T (0,0))).blk s.nx = some s.w.heap.size := by simp [St.newObj]
          exact wp_of_run (s' := s.newObj (.cells #[.pointer none,.slice none 0 0] T (0,0))) (by simp [execOp,Instr.alloc,z1,hzz,newVar,newRow,St.newObj]) hx
            (hr.newObj _ (.bld T e []) ⟨s.w.heap.size,.pointer none,.slice none 0 0,hb,by simp [St.newObj],heap_alloc_new,.inl rfl,World.ownsRow_nil _ _ _ _,by simp [Value.ownBlock],fun g hg => by simp [Value.ownBlock] at hg⟩) (.ptr _ _ _ hb) (hk s.nx hr.fresh)
        · cases h
      simp only [Option.map_eq_some_iff] at h
      obtain ⟨cs,hz,rfl⟩ := h
      obtain ⟨z,z1,z2,z3⟩ := zero_holds hz
      obtain ⟨n1,n2,n3⟩ := newCells hr z3 (z2 s) T
      exact wp_of_run (s' := s.newObj (.cells z.cells T (0,0))) (by simp [execOp,Instr.alloc,z1,newVar,newRow,St.newObj]) n1 n2 n3 (hk s.nx hr.fresh)
    case typeAssert x xT T ok =>
      split at h
      · rename_i hok
        obtain ⟨rfl,htap⟩ := hok
        split at h
        · cases h
        · rename_i d x' hd hT h2
          cases h
          obtain ⟨v,hv,hk⟩ := need_elim hk
          have hx := opd_holds ha h2 hv
          obtain ⟨e,hel⟩ : ∃ e,P.underlying P.rt.typeAssertionError = some (.pointer e) := by
            unfold tapOk at htap
            split at htap
            · exact ⟨_,by assumption⟩
            · cases htap
          have fall : ∀ y : Value,(∀ w,∃ o : Obj,∃ r : Addr,((Instr.typeAssert y xT T false).run P w) = .halt (.panic (.iface P.rt.typeAssertionError (.pointer (some r)))) (w.alloc o)) → act.eval x = y → kp H →
              Oper.wp P ⟨dst,.typeAssert x xT T false,type,pos,after,guard⟩ act s.w (Went s act dst k) (Fell s act kp) := by
            intro y hy hev hkp
            obtain ⟨o,r,hr2⟩ := hy s.w
            unfold Oper.wp
            have : (execOp act.eval ⟨dst,.typeAssert x xT T false,type,pos,after,guard⟩).run P s.w = .halt (.panic (.iface P.rt.typeAssertionError (.pointer (some r)))) (s.w.alloc o) := by
              simp only [execOp,Sem.run_bind,hev,hr2]; rfl
            rw [this]
            exact ⟨_,s.newFroz o,H,rfl,⟨_,_,rfl⟩,rfl,rfl,St.ext_newFroz s o,hr.newFroz o,hkp⟩
          cases v <;> simp only [tapK] at hk <;> try exact hk.elim
          · rename_i u v
            obtain ⟨y,hy,ey⟩ := inv_iface hx
            by_cases hu : u = T
            · subst hu
              rw [if_pos rfl] at hk
              refine wp_of_yields hr ⟨y,v,?_,hy,hk⟩
              simp only [execOp,ey,Instr.typeAssert,Sem.run_bind,run_underlying' hT,Result.andThen_ok]
              cases d <;> first | exact absurd rfl (hd _) | simp
            · rw [if_neg hu] at hk
              refine fall _ (fun w => ?_) ey hk
              obtain ⟨o, r, hf⟩ := run_assertion_fails hel (some xT) (some u) T "" w
              refine ⟨o,r,?_⟩
              rw [← hf]
              simp only [Instr.typeAssert,Sem.run_bind,run_underlying' hT,Result.andThen_ok]
              cases d <;> first | exact absurd rfl (hd _) | simp [hu]
          · refine fall _ (fun w => ?_) (inv_nilIface hx) hk
            obtain ⟨o, r, hf⟩ := run_assertion_fails hel (some xT) none T "" w
            refine ⟨o,r,?_⟩
            rw [← hf]
            simp only [Instr.typeAssert,Sem.run_bind,run_underlying' hT,Result.andThen_ok]
            cases d <;> first | exact absurd rfl (hd _) | simp
        · cases h
      · cases h
    case binOp bop T x y yT =>
      split at h
      · rename_i hT
        have hT : ∃ e,P.underlying T = some (.slice e) := by
          unfold eqkOf at hT
          split at hT <;> first | exact ⟨_,by assumption⟩ | (cases hT; done) | (rcases eqkCells_or P T with h | ⟨_,h⟩ <;> rw [h] at hT <;> cases hT) | (rcases eqkIface_or P _ with h | ⟨_,h⟩ <;> rw [h] at hT <;> cases hT)
        obtain ⟨e,hT⟩ := hT
        have core : ∀ (neg : Bool) (x' : Opd),bop = (if neg then .neq else .eql) → opdOf x = some x' → opdOf y = some (.c .nilSl) → mop P (.isnil neg x') a H k kp →
            (Oper.mk dst (.binOp bop T x y yT) type pos after guard).wp P act s.w (Went s act dst k) (Fell s act kp) := by
          intro neg x' hb h1 h2 hk
          obtain ⟨u,hu,hk⟩ := need_elim hk
          have hx := opd_holds ha h1 hu
          have hy : act.eval y = .slice none 0 0 := inv_nilSl (opd_holds ha h2 (v := .nilSl) rfl)
          have run : ∀ (ad : Option Addr) (n c : Nat),act.eval x = .slice ad n c → (execOp act.eval (Oper.mk dst (.binOp bop T x y yT) type pos after guard)).run P s.w = .ok (.value (.bool (if neg then !ad.isNone else ad.isNone))) s.w := by
            intro ad n c hs
            simp only [execOp,hs,hy,hb]
            cases neg <;> (simp [binOp,slice_equal_nil hT]; rw [eqGuard_ok _ _ _ _ rfl]; rfl)
          cases u <;> (try simp only at hk) <;> try exact hk.elim
          case msl i z off n =>
            obtain ⟨b,o,cap,_,_,_,e⟩ := inv_msl hx
            refine wp_of_run (s' := s) (run (some _) n cap e) (.refl s) hr (.bool _) ?_
            cases neg <;> exact hk
          case nilSl =>
            obtain e := inv_nilSl hx
            refine wp_of_run (s' := s) (run none 0 0 e) (.refl s) hr (.bool _) ?_
            cases neg <;> exact hk
          case sl z es t =>
            rcases inv_sl hx with ⟨rfl,e,_⟩ | ⟨ad,cap,rfl,e,_⟩ | ⟨b,o,cap,e,_,_,_⟩
            · refine wp_of_run (s' := s) (run none 0 0 e) (.refl s) hr (.bool _) ?_
              cases neg
              · exact hk.1
              · exact hk.2
            · refine wp_of_run (s' := s) (run (some ad) 0 cap e) (.refl s) hr (.bool _) ?_
              cases neg
              · exact hk.2
              · exact hk.1
            · refine wp_of_run (s' := s) (run (some _) _ cap e) (.refl s) hr (.bool _) ?_
              cases es with
              | nil =>
                cases neg
                · exact hk.2
                · exact hk.1
              | cons c es => cases neg <;> exact hk
        split at h
        · rename_i x' h1 h2; cases h; exact core false x' rfl h1 h2 hk
        · rename_i x' h1 h2; cases h; exact core true x' rfl h1 h2 hk
        · cases h
      · cases h
    case makeMap T res =>
      split at h
      · cases h
        have hk : ∀ i,H i = none → k (.map i) (H.put i (.map [])) := hk
        have hx := St.ext_newObj hr (.map #[] 0)
        have hb : (s.newObj (.map #[] 0)).blk s.nx = some s.w.heap.size := by simp [St.newObj]
        exact wp_of_run (s' := s.newObj (.map #[] 0)) (by simp [execOp,Instr.makeMap,St.newObj]) hx
          (hr.newObj _ (.map []) ⟨s.w.heap.size,#[],0,hb,by simp [St.newObj],heap_alloc_new,.entsNil,by simp,by simp⟩) (.map _ _ hb) (hk s.nx hr.fresh)
      · cases h
    case mapUpdate T m' x y =>
      split at h
      · rename_i kk e m x' y' hT h1 h2 h3
        cases h
        obtain ⟨vs,hvs,hk⟩ := need_elim hk
        cases hu : a.ev m with
        | none => simp [A.evs,hu] at hvs
        | some u =>
          cases hw : a.ev x' with
          | none => simp [A.evs,hu,hw] at hvs
          | some key =>
            cases hz : a.ev y' with
            | none => simp [A.evs,hu,hw,hz] at hvs
            | some v =>
              simp only [A.evs,hu,hw,hz,Option.some.injEq] at hvs
              subst hvs
              cases u <;> simp only [xsem] at hk <;> try exact hk.elim
              rename_i i
              obtain ⟨ob,hob,hk⟩ := need_elim hk
              cases ob <;> (try simp only at hk) <;> try exact hk.elim
              rename_i es
              obtain ⟨r,hf,hk⟩ := need_elim hk
              obtain ⟨s',r1,r2,r3⟩ := mset_sound hT hr hob (opd_holds ha h1 hu) (opd_holds ha h2 hw) (opd_holds ha h3 hz) hf
              have hrun : (execOp act.eval ⟨dst,.mapUpdate T m' x y,type,pos,after,guard⟩).run P s.w = .ok .skip s'.w := by simp [execOp,r1]
              unfold Oper.wp
              rw [hrun]
              exact ⟨s',undef,unitV,_,rfl,r2,r3,rfl,.tuple [] [] .nil,hk⟩
      · cases h
    case range T x =>
      split at h
      · rename_i p x' hT h1
        obtain ⟨kk,e⟩ := p
        cases h
        obtain ⟨vs,hvs,hk⟩ := need_elim hk
        cases hu : a.ev x' with
        | none => simp [A.evs,hu] at hvs
        | some u =>
          simp only [A.evs,hu,Option.some.injEq] at hvs
          subst hvs
          have hx := opd_holds ha h1 hu
          cases u <;> simp only [xsem] at hk <;> try exact hk.elim
          · have hx := inv_nilMap hx
            obtain ⟨k',d,g1,g2,g3⟩ := mapT_spec hT
            have hx2 := St.ext_newObj hr (.mapIter none 0 #[] 0)
            have hb : (s.newObj (.mapIter none 0 #[] 0)).blk s.nx = some s.w.heap.size := by simp [St.newObj]
            exact wp_of_run (s' := s.newObj (.mapIter none 0 #[] 0)) (by simp [execOp,Instr.range,run_underlying' g1,St.newObj,hx]) hx2
              (hr.newObj _ (.iter none) ⟨s.w.heap.size,hb,fun _ => ⟨by simp [St.newObj],heap_alloc_new⟩⟩) (.ptr _ _ _ hb) (hk s.nx hr.fresh)
          · rename_i i
            obtain ⟨ob,hob,hk⟩ := need_elim hk
            cases ob <;> (try simp only at hk) <;> try exact hk.elim
            obtain ⟨s',y,r1,r2,r3,r4⟩ := mrange_sound hT hr hob hx
            exact wp_of_run (s' := s') (by simp [execOp,r1]) r2 r3 r4 (hk s.nx hr.fresh)
          · obtain ⟨s',y,r1,r2,r3,r4⟩ := mrangev_sound hT hr hx
            exact wp_of_run (s' := s') (by simp [execOp,r1]) r2 r3 r4 (hk s.nx hr.fresh)
      · cases h
    case next x isS =>
      cases isS
      · simp only [Option.map_eq_some_iff] at h
        obtain ⟨x',h1,rfl⟩ := h
        obtain ⟨vs,hvs,hk⟩ := need_elim hk
        cases hu : a.ev x' with
        | none => simp [A.evs,hu] at hvs
        | some u =>
          simp only [A.evs,hu,Option.some.injEq] at hvs
          subst hvs
          have hx := opd_holds ha h1 hu
          cases u <;> simp only [xsem] at hk <;> try exact hk.elim
          rename_i j off
          cases off with
          | succ n => simp [xsem] at hk
          | zero =>
            obtain ⟨s',y,v,H',r1,r2,r3,r4,r5⟩ := mnext_sound (P := P) (ty := type) hr hx hk
            exact wp_of_run (s' := s') (by simp [execOp,r1]) r2 r3 r4 r5
      · cases h
    case box T x =>
      split at h
      · rename_i d
        split at h
        · simp only [Option.map_eq_some_iff] at h
          obtain ⟨y,hy,rfl⟩ := h
          obtain ⟨v,hv,hf,hk⟩ := need_elim hk
          have hx := opd_holds ha hy hv
          have hrow := row_new hr (val_cells hx) (cells_ones hx hf) [] T (0,0) []
          simp only [List.nil_append,List.append_nil,List.length_nil,Array.toArray_toList] at hrow
          exact wp_of_run (s' := s.newFroz (.cells (act.eval x).cells T (0,0))) (by simp [execOp,Instr.box,newVar,newRow,St.newFroz]) (St.ext_newFroz _ _) (hr.newFroz _) (.rptr _ 0 _ 0 hrow) hk
        · simp only [Option.map_eq_some_iff] at h
          obtain ⟨y,hy,rfl⟩ := h
          obtain ⟨v,hv,hf,hk⟩ := need_elim hk
          have hx := opd_holds ha hy hv
          obtain ⟨n1,n2,n3⟩ := newCells hr (cells_ones hx hf) (val_cells hx) T
          exact wp_of_run (s' := s.newObj (.cells (act.eval x).cells T (0,0))) (by simp [execOp,Instr.box,newVar,newRow,St.newObj]) n1 n2 n3 (hk s.nx hr.fresh)
      · cases h
    case build T ps =>
      split at h
      · rename_i fs zero hT hz
        split at h
        · rename_i pl hpl
          simp only [Option.map_eq_some_iff] at h
          obtain ⟨qs,hq,rfl⟩ := h
          obtain ⟨cs,hcs,hk⟩ := need_elim hk
          obtain ⟨z,z1,z2,z3⟩ := zero_holds hz
          obtain ⟨zs,f1,f2,f3,_⟩ := lay_sound ha hq z3 (z2 s) hcs
          refine wp_of_run (s' := s) (x := .agg zs) ?_ (.refl s) hr (vals_agg f3 f2) hk
          have hpl' := placesOf_inv fs.toList pl hpl s.w
          have hm : (fs.mapM fun f => do Pure.pure (f.offset,← sizeOf f.type) : Sem (Array (Nat × Nat))).run P s.w = .ok pl.toArray s.w := by
            rw [Array.mapM_eq_mapM_toList,Sem.run_map,hpl']
            rfl
          have e : (Array.map (fun x => match x with | (i,x) => (i,act.eval x)) ps).toList = ps.toList.map (fun (i,x) => (i,act.eval x)) := by simp
          simp only [execOp,Instr.build,Sem.run_bind,z1,Result.andThen_ok,run_underlying' hT,hm,e]
          simp only [List.getElem?_toArray] at *
          rw [f1]
          rfl
        · cases h
      · rename_i n e zero hT hz
        split at h
        · rename_i sz hsz
          simp only [Option.map_eq_some_iff] at h
          obtain ⟨qs,hq,rfl⟩ := h
          obtain ⟨cs,hcs,hk⟩ := need_elim hk
          obtain ⟨z,z1,z2,z3⟩ := zero_holds hz
          obtain ⟨zs,f1,f2,f3,_⟩ := lay_sound ha hq z3 (z2 s) hcs
          refine wp_of_run (s' := s) (x := .agg zs) ?_ (.refl s) hr (vals_agg f3 f2) hk
          have e : (Array.map (fun x => match x with | (i,x) => (i,act.eval x)) ps).toList = ps.toList.map (fun (i,x) => (i,act.eval x)) := by simp
          simp only [execOp,Instr.build,Sem.run_bind,z1,Result.andThen_ok,run_underlying' hT,sizeT_run hsz,e]
          rw [f1]
          rfl
        · cases h
      · cases h
    case buildSlice T n ps =>
      split at h
      · rename_i e hT
        split at h
        · rename_i sz zero hsz hz
          split at h
          · rename_i hc
            obtain ⟨c1,c2⟩ := hc
            simp only [Option.map_eq_some_iff] at h
            obtain ⟨qs,hq,rfl⟩ := h
            obtain ⟨cs,hcs,hk⟩ := need_elim hk
            obtain ⟨z,z1,z2,z3⟩ := zero_holds hz
            have hzl : z.cells.size = sz + 1 := by have := vals_length (z2 s); rw [← c2,← this]; simp
            have hT' : P.underlying T = some (.slice e) := by
              unfold sliceElem at hT
              split at hT
              · cases hT; assumption
              · cases hT
            have hzz := zero_cells z.cells n (by omega)
            rw [hzl] at hzz
            obtain ⟨zs,f1,f2,f3,f4⟩ := lay_sound ha hq (flatten_replicate_ones z3 n) (ys := (Array.range (n * (sz + 1))).map (fun i => z.cells[i % (sz + 1)]!)) (by rw [hzz]; exact flatten_replicate_vals (z2 s) n) hcs
            have hlen : cs.length = n * (sz + 1) := by
              have := vals_length f2
              rw [← this]; simp [f4]
            have hh : (s.newFroz (.cells zs e (0,0))).w.heap[s.w.heap.size]? = some (.cells zs e (0,0)) := heap_alloc_new
            obtain ⟨e1,e2⟩ := chop_els hh hr.role_new (sz + 1) n cs 0 hlen f3 (by
              rw [List.drop_zero,List.take_of_length_le (by simp [f4])]
              exact f2.mono (St.ext_newFroz _ _))
            refine wp_of_run (s' := s.newFroz (.cells zs e (0,0))) (x := .slice (some ⟨s.w.heap.size,0,none⟩) n n) ?_ (St.ext_newFroz _ _) (hr.newFroz _) ?_ hk
            · have e0 : (Array.map (fun x => match x with | (i,x) => (i,act.eval x)) ps).toList = ps.toList.map (fun (i,x) => (i,act.eval x)) := by simp
              have hsz' : sizeT P e = some (sz + 1) := hsz
              by_cases h0 : n * (sz + 1) = 0
              · have hr0 : (Array.range (n * (sz + 1))).map (fun i => (#[] : Array Value)[i % (#[] : Array Value).size]!) = (Array.range (n * (sz + 1))).map (fun i => z.cells[i % (sz + 1)]!) := by rw [h0]; simp
                simp only [execOp,Instr.buildSlice,Sem.run_bind,run_underlying' hT',Result.andThen_ok,sizeT_run hsz',e0]
                rw [if_neg (by omega),if_pos h0]
                simp only [Sem.run_pure,Result.andThen_ok,Sem.run_bind]
                rw [hr0,f1]
                simp [newRow,St.newFroz]
              · simp only [execOp,Instr.buildSlice,Sem.run_bind,run_underlying' hT',Result.andThen_ok,sizeT_run hsz',e0]
                rw [if_neg (by omega),if_neg h0]
                simp only [Sem.run_pure,Result.andThen_ok,Sem.run_bind,z1,hzl]
                rw [f1]
                simp [newRow,St.newFroz]
            · have := Holds.sl (sz + 1) (chop (sz + 1) n cs) .tight s.w.heap.size 0 n e1 (by omega) (by show _ = _; exact e2.symm)
              rw [e2] at this
              exact this
          · cases h
        · cases h
      · cases h
    case store T x y =>
      split at h
      · rename_i sz x' y' hsz h1 h2
        cases h
        obtain ⟨p,hp,hk⟩ := need_elim hk
        have hx := opd_holds ha h1 hp
        cases p <;> (try simp only at hk) <;> try exact hk.elim
        rename_i i off
        obtain ⟨v,hv,hk⟩ := need_elim hk
        have hy := opd_holds ha h2 hv
        obtain ⟨ob,hob,hk⟩ := need_elim hk
        cases ob <;> (try simp only at hk) <;> try exact hk.elim
        rename_i cs
        obtain ⟨⟨c0,c1,c2⟩,hk⟩ := hk
        obtain ⟨b,hb,e⟩ := inv_ptr hx
        obtain ⟨b',ys,zs,U,fr,o1,o2,o3,o0,o4,o5⟩ := hr.obj i _ hob
        rw [hb] at o1; cases o1
        have hcl := vals_length (val_cells hy)
        have hyl := vals_length o4
        have hle : off + (act.eval y).cells.toList.length ≤ ys.size := by rw [hcl,c1]; simp at hyl; omega
        have hst := run_storeCells (P := P) (act.eval y).cells.toList s.w (ys ++ zs) off 0 o3 o0 (fits_one (val_cells hy) (cells_ones hy c0)) (by rw [Array.size_append,Nat.add_zero]; omega)
        rw [Nat.add_zero,overW_append hle] at hst
        have hrun : (execOp act.eval ⟨dst,.store T x y,type,pos,after,guard⟩).run P s.w = .ok .skip (s.write b (.cells (overW ys off (act.eval y).cells.toList ++ zs) U fr)).w := by
          simp only [execOp,e,Instr.storeAt,Instr.sureAddr,storeVar,Sem.run_bind,Sem.run_pure,Result.andThen_ok,sizeT_run hsz]
          rw [if_neg (by simp at hcl; omega)]
          rw [hst]
          rfl
        unfold Oper.wp
        rw [hrun]
        have hblt : b < s.w.heap.size := (hr.role b i 0 o2).2
        refine ⟨_,undef,unitV,_,rfl,St.ext_write o2 _,hr.write o2 _ (.cells (over cs off v.cells)) ⟨b,_,zs,U,fr,hb,o2,heap_setBlock_same hblt,by rw [Array.size_append,overW_size]; simpa using o0,?_,ones_over o5 off (cells_ones hy c0)⟩,rfl,?_,hk⟩
        · exact (vals_over o4 off (val_cells hy)).mono (St.ext_write o2 _)
        · exact .tuple [] [] .nil
      · cases h
    case convert S T x =>
      split at h
      · rename_i e x' hS hT h1
        split at h
        · rename_i hE
          obtain ⟨l,hxl,hk⟩ : ∃ l,a.ev x' = some (.str l) ∧ ((h = h ∧ m = .xo .s2bm [x'] ∧ ∀ i,H i = none → k (.msl i 1 0 l.length) (H.put i (.cells (bytesV l)))) ∨ (m = .s2b x' ∧ k (.sl 1 (byteCells l) .no) H)) := by
            split at h
            · cases h
              obtain ⟨vs,hvs,hk⟩ := need_elim hk
              simp only [A.evs] at hvs
              cases hv : a.ev x' with
              | none => rw [hv] at hvs; cases hvs
              | some v =>
                rw [hv] at hvs
                cases hvs
                cases v <;> simp only [xsem] at hk <;> try exact hk.elim
                exact ⟨_,rfl,.inl ⟨rfl,rfl,hk⟩⟩
            · cases h
              obtain ⟨v,hv,hk⟩ := need_elim hk
              cases v <;> (try simp only at hk) <;> try exact hk.elim
              exact ⟨_,hv,.inr ⟨rfl,hk⟩⟩
          have hx := opd_holds ha h1 hxl
          have hxe := inv_str hx
          let cap := (Question.appendCap l.length 0 e).cut (s.w.tape s.w.drawn (.appendCap l.length 0 e))
          let row : Array Value := l.toArray.map (fun b => Value.int .u8 b.toNat) ++ Array.replicate (cap - l.length) (Value.int .u8 0)
          have hcap : l.length ≤ cap := by simp only [cap,Question.cut]; omega
          have hrow : row.size = cap := by simp [row]; omega
          let s1 := s.drew.newFroz (.cells row e (cap,cap + 1))
          have hx1 : Ext s s1 := (St.ext_drew s).trans (St.ext_newFroz _ _)
          have hr1 : HRel s1 H := (hr.drew).newFroz _
          have hh : s1.w.heap[s.w.heap.size]? = some (.cells row e (cap,cap + 1)) := heap_alloc_new (w := s.w.drew)
          have hels : Holds s1 (.els s.w.heap.size 0 1 (byteCells l)) := by
            refine els_of_cells hh (byteCells l) 0 (by simp [byteCells]) (by simp [byteCells,ones]; intros; rfl) ?_ (fun k' e' he' => ?_)
            · have e1 : (row.toList.drop 0).take ((byteCells l).length * 1) = l.map fun b => Value.int .u8 b.toNat := by
                simp [row,byteCells]
              rw [e1]
              have : ∀ l : List UInt8,s1.vals (byteCells l).flatten (l.map fun b => Value.int .u8 b.toNat) := by
                intro l
                induction l with
                | nil => exact .nil
                | cons b l ih => exact .cons _ _ _ _ (.int _ _) ih
              exact this l
            · have : s1.role s.w.heap.size = none := hr.role_new
              rw [this] at he'; cases he'
          have hrunx : (execOp act.eval (Oper.mk dst (.convert S T x) type pos after guard)).run P s.w = .ok (.value (.slice (some ⟨s.w.heap.size,0,none⟩) l.length cap)) s1.w := by
            have hsz : (⟨l.toArray⟩ : ByteArray).size = l.length := ba_size l
            have hfz : ((s.w.drew).alloc (.cells row e)).freeze { block := s.w.heap.size,off := row.size } 1 = s1.w := by
              simp only [World.freeze]
              rw [if_neg (by omega)]
              show ({ (s.w.drew.alloc (.cells row e)) with heap := _ } : World) = s.w.drew.alloc (.cells row e (cap,cap + 1))
              simp only [World.alloc]
              congr 1
              apply Array.ext_getElem?
              intro j
              rw [Array.getElem?_modify,Array.getElem?_push,Array.getElem?_push]
              simp only [World.drew]
              by_cases hj : j = s.w.heap.size
              · subst hj; simp [hrow]
              · by_cases hj2 : s.w.heap.size = j
                · exact absurd hj2.symm hj
                · simp [hj,hj2]
            have hcells : Lib.bytesCells s.w e ⟨l.toArray⟩ = row := by
              unfold Lib.bytesCells
              rw [hsz]
              rfl
            have hw : Lib.bytesWorld s.w e ⟨l.toArray⟩ = s1.w := by
              unfold Lib.bytesWorld
              rw [hcells]
              exact hfz
            have hconv := Lib.run_convert_string_bytes s.w S T e ⟨l.toArray⟩ hS hT hE
            rw [hw,hsz] at hconv
            simp only [execOp,hxe,Sem.run_bind,hconv,Result.andThen_ok,Sem.run_pure]
            rfl
          rcases hk with ⟨_,_,hk⟩ | ⟨_,hk⟩
          · let s2 := s.drew.newObj (.cells row e (cap,cap + 1))
            have hx2 : Ext s s2 := (St.ext_drew s).trans (St.ext_newObj hr.drew _)
            have hb2 : s2.blk s.nx = some s.w.heap.size := by simp [s2,St.newObj,St.drew]
            have hbv : ∀ l : List UInt8,s2.vals (bytesV l) (l.map fun b => Value.int .u8 b.toNat) := by
              intro l
              induction l with
              | nil => exact .nil
              | cons b l ih => exact .cons _ _ _ _ (.int _ _) ih
            have ho2 : ∀ l : List UInt8,ones (bytesV l) = true := by intro l; simp [bytesV,ones]; intros; rfl
            refine wp_of_run (s' := s2) hrunx hx2 (hr.drew.newObj _ (.cells (bytesV l)) ⟨s.w.heap.size,l.toArray.map (fun b => Value.int .u8 b.toNat),Array.replicate (cap - l.length) (Value.int .u8 0),e,(cap,cap + 1),by simp [St.newObj,St.drew],by simp [St.newObj,St.drew],heap_alloc_new (w := s.w.drew),.inr (by show row.size ≤ cap; omega),by simpa using hbv l,ho2 l⟩) (.msl _ _ _ _ _ _ _ hb2 hcap (.inr rfl)) (hk s.nx hr.fresh)
          refine wp_of_run (s' := s1) (x := .slice (some ⟨s.w.heap.size,0,none⟩) l.length cap) hrunx hx1 hr1 (v := .sl 1 (byteCells l) .no) ?_ hk
          · have := Holds.sl 1 (byteCells l) .no s.w.heap.size 0 cap hels (by simpa [byteCells] using hcap) trivial
            simpa [byteCells] using this
        · cases h
      · cases h
    case call c =>
      obtain ⟨callee,args,Ts⟩ := c
      simp only at h
      split at h
      · rename_i f
        simp only [Option.map_eq_some_iff] at h
        obtain ⟨ys,hys,rfl⟩ := h
        obtain ⟨vs,hvs,hk⟩ := need_elim hk
        obtain ⟨zs,z1,z2⟩ := evs_args ha hys hvs
        refine call_sound hr z2 hk ?_
        simp only [execOp,resolve,Deferred.ofValue,Act.eval,Sem.run_bind,Sem.run_pure,Result.andThen_ok,invoke]
        rw [show args.map act.eval = zs.toArray from z1]
        simpa using run_callFunc he zs.toArray s.w
      · rename_i x hnf
        split at h
        · rename_i y ys h1 h2
          cases h
          obtain ⟨v,hv,hk⟩ := need_elim hk
          have hx := opd_holds ha h1 hv
          cases v <;> (try simp only at hk) <;> try exact hk.elim
          rename_i fn us ws
          cases fn <;> (try simp only at hk) <;> try exact hk.elim
          rename_i f
          obtain ⟨vs,hvs,hent,hk⟩ := need_elim hk
          obtain ⟨zs,z1,z2⟩ := evs_args ha h2 hvs
          obtain ⟨as,bs,g1,g2,e⟩ := inv_func hx
          refine call_sound hr (vals_append (vals_append g1 z2) g2) hk ?_
          simp only [execOp,resolve,e,Deferred.ofValue,Sem.run_bind,Sem.run_pure,Result.andThen_ok,invoke]
          rw [show args.map act.eval = zs.toArray from z1]
          have := run_callFunc hent (as.toArray ++ zs.toArray ++ bs.toArray) s.w
          simpa using this
        · cases h
      · split at h
        · rename_i m x T U hargs hTs
          obtain rfl : args = #[m,x] := by rw [← @Array.toArray_toList _ args,hargs]
          obtain rfl : Ts = #[T,U] := by rw [← @Array.toArray_toList _ Ts,hTs]
          split at h
          · rename_i kk e m' x' hT h1 h2
            cases h
            obtain ⟨vs,hvs,hk⟩ := need_elim hk
            cases hu : a.ev m' with
            | none => simp [A.evs,hu] at hvs
            | some u =>
              cases hw : a.ev x' with
              | none => simp [A.evs,hu,hw] at hvs
              | some key =>
                simp only [A.evs,hu,hw,Option.some.injEq] at hvs
                subst hvs
                cases u <;> simp only [xsem] at hk <;> try exact hk.elim
                rename_i i
                obtain ⟨ob,hob,hk⟩ := need_elim hk
                cases ob <;> (try simp only at hk) <;> try exact hk.elim
                rename_i es
                obtain ⟨r,hf,hk⟩ := need_elim hk
                obtain ⟨s',r1,r2,r3⟩ := mdel_sound (U := U) (ty := type) hT hr hob (opd_holds ha h1 hu) (opd_holds ha h2 hw) hf
                refine wp_of_run (s' := s') (x := .tuple #[]) ?_ r2 r3 (.tuple [] [] .nil) hk
                simp only [execOp,resolve,Sem.run_bind,Sem.run_pure,Result.andThen_ok,invoke,builtin]
                rw [show (#[m,x] : Array Operand).map act.eval = #[act.eval m,act.eval x] by simp,r1]
                rfl
          · cases h
        · cases h
      · split at h
        · rename_i x y T U hargs hTs
          obtain rfl : args = #[x,y] := by rw [← @Array.toArray_toList _ args,hargs]
          obtain rfl : Ts = #[T,U] := by rw [← @Array.toArray_toList _ Ts,hTs]
          split at h
          · rename_i e x' y' hT h1 h2
            have hT' : P.underlying T = some (.slice e) := by
              unfold sliceElem at hT
              split at hT
              · cases hT; assumption
              · cases hT
            split at h
            · cases h
            · rename_i d sz b hd0 hU hsz hby
              split at h
              · rename_i zc hzc
                split at h
                · rename_i hc
                  split at h
                  · cases h
                    obtain ⟨vs,hvs,hk⟩ := need_elim hk
                    simp only [A.evs] at hvs
                    cases hu : a.ev x' with
                    | none => rw [hu] at hvs; cases hvs
                    | some u =>
                      cases hv : a.ev y' with
                      | none => rw [hu,hv] at hvs; cases hvs
                      | some v =>
                        rw [hu,hv] at hvs
                        cases hvs
                        obtain ⟨fs,hfs,hk⟩ := need_elim hk
                        obtain ⟨s',z,q,H',r1,r2,r3,r4,r5⟩ := appg_sound type hT' hU hd0 hsz hby hzc hc.2 hc.1 hr (opd_holds ha h1 hu) (opd_holds ha h2 hv) hfs hk
                        refine wp_of_run (s' := s') (x := z) ?_ r2 r3 r4 r5
                        simp only [execOp,resolve,Sem.run_bind,Sem.run_pure,Result.andThen_ok,invoke,builtin]
                        rw [show (#[x,y] : Array Operand).map act.eval = #[act.eval x,act.eval y] by simp,r1]
                        rfl
                  split at h
                  · cases h
                    obtain ⟨vs,hvs,hk⟩ := need_elim hk
                    simp only [A.evs] at hvs
                    cases hu : a.ev x' with
                    | none => rw [hu] at hvs; cases hvs
                    | some u =>
                      cases hv : a.ev y' with
                      | none => rw [hu,hv] at hvs; cases hvs
                      | some v =>
                        rw [hu,hv] at hvs
                        cases hvs
                        obtain ⟨fs,hfs,hk⟩ := need_elim hk
                        obtain ⟨s',z,q,H',r1,r2,r3,r4,r5⟩ := appm_sound type hT' hU hd0 hsz hby hzc hc.2 hc.1 hr (opd_holds ha h1 hu) (opd_holds ha h2 hv) hfs hk
                        refine wp_of_run (s' := s') (x := z) ?_ r2 r3 r4 r5
                        simp only [execOp,resolve,Sem.run_bind,Sem.run_pure,Result.andThen_ok,invoke,builtin]
                        rw [show (#[x,y] : Array Operand).map act.eval = #[act.eval x,act.eval y] by simp,r1]
                        rfl
                  cases h
                  obtain ⟨u,hu,hk⟩ := need_elim hk
                  obtain ⟨v,hv,hk⟩ := need_elim hk
                  obtain ⟨fs,hfs,hk⟩ := need_elim hk
                  obtain ⟨s',z,q,H',r1,r2,r3,r4,r5⟩ := app_sound type hT' hU hd0 hsz hby hzc hc.2 hc.1 hr (opd_holds ha h1 hu) (opd_holds ha h2 hv) hfs hk
                  refine wp_of_run (s' := s') (x := z) ?_ r2 r3 r4 r5
                  simp only [execOp,resolve,Sem.run_bind,Sem.run_pure,Result.andThen_ok,invoke,builtin]
                  rw [show (#[x,y] : Array Operand).map act.eval = #[act.eval x,act.eval y] by simp,r1]
                  rfl
                · cases h
              · cases h
            · cases h
          · cases h
        · cases h
      · cases h
end Go.Vm
