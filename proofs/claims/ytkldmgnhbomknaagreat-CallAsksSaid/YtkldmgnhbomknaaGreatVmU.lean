/- Contracts of functions of the given program. Conditions: as each theorem says. -/
import Derived.Test.YtkldmgnhbomknaaGreatVm12
set_option linter.unusedVariables false
set_option linter.unusedSimpArgs false
/- Regions that draw their order: operations that leave the abstract heap, in whatever order; then a tail that waits for all of them. -/
namespace Go.Vm
def stepE (P : Program) (m : MO) (a : A) (H : AH) (k : A → AH → Prop) (Kp : AH → Prop) : Prop :=
  match m.g with
  | none => mop P m.op a H (fun v H' => k (a.putD m.dst v) H') Kp
  | some (t,w) => need (a.get t) fun
    | .bool b => if b = w then mop P m.op a H (fun v H' => k (a.putD m.dst v) H') Kp else k (a.putD m.dst unitV) H
    | .tuple _ => k (a.putD m.dst unitV) H
    | _ => False
theorem step_sound {P : Program} {imm : Nat → Bool} {N : Nat} {ops : Array Oper} {o : Oper} {m : MO} (hm : moOf P imm N ops o = some m) {i : Nat} (hi : ops[i]? = some o) {k : A → AH → Prop} {Kp : AH → Prop} {K : A → AH → Prop} {a : A} {H : AH} {s : St} {act : Act} (h : stepE P m a H k Kp) (hn : act.tmps.size = N) (hr : HRel s H) (ha : ARel s a act)
    {s0 : St} (hx : Ext s0 s) :
    wpOp P ops (RegQ s0 act.defers N K Kp) i (Abs s0 act.defers N k) act s.w := by
  obtain ⟨m1,m2,m3,m4,m5⟩ := moOf_inv hm
  have run : mop P m.op a H (fun v H' => k (a.putD m.dst v) H') Kp → o.wp P act s.w (Abs s0 act.defers N k) (RegQ s0 act.defers N K Kp) := by
    intro hmop
    have hw := mop_sound m1 m3 hr ha hmop
    unfold Oper.wp at hw ⊢
    generalize (execOp act.eval o).run P s.w = r at *
    have next : ∀ act' w',Went s act o.dst (fun v H' => k (a.putD m.dst v) H') act' w' → Abs s0 act.defers N k act' w' := by
      rintro act' w' ⟨s',x,v,H',rfl,hx',hr',rfl,hv,hk⟩
      rw [m4] at hk
      exact ⟨s',_,H',rfl,hx.trans hx',hr',(ha.mono hx').put (fun t ht => by rw [hn]; exact m5 t ht) hv,by rw [put_defers],by rw [put_size,hn],hk⟩
    have fell : ∀ e act' w',Fell s act Kp e act' w' → RegQ s0 act.defers N K Kp e act' w' := by
      rintro e act' w' ⟨ch,s',H',rfl,hch,rfl,rfl,hx',hr',hk⟩
      exact .inr ⟨ch,rfl,hch,s',[],H',rfl,hx.trans hx',hr',⟨fun t v ht => by simp [A.get] at ht⟩,rfl,hn,rfl,hk⟩
    cases r with
    | ok n w' =>
      cases n <;> simp only [Oper.upon] at hw ⊢
      case value u => exact next _ _ hw
      case skip => exact next _ _ hw
      case defer dd => exact absurd hw (by
        rintro ⟨s',x,v,H',_,_,_,h,_⟩
        have := congrArg Act.defers h
        simp only [put_defers] at this
        exact absurd this (by simp))
      case enter f args =>
        refine hw.mono fun e w'' he => ?_
        cases e with
        | returned u => exact next _ _ he
        | panicked c => exact fell _ _ _ he
        | outgrown =>
          obtain ⟨a',w3,ch,s',H',h,_⟩ := he
          cases h
      case row row args => exact hw.mono fun _ _ he => next _ _ he
    | halt x w' => cases x <;> simp only [Oper.upon] at hw ⊢; exact fell _ _ _ hw
  have skip : k (a.putD m.dst unitV) H → Abs s0 act.defers N k (act.put o.dst undef) s.w := by
    intro hk
    rw [m4] at hk
    exact ⟨s,_,H,rfl,hx,hr,ha.put (fun t ht => by rw [hn]; exact m5 t ht) (.tuple [] [] .nil),by rw [put_defers],by rw [put_size,hn],hk⟩
  unfold wpOp
  simp only [hi]
  unfold stepE at h
  split at h
  · rename_i hg
    rw [hg] at m2
    rw [wanted_none m2,if_pos rfl]
    exact .inl (run h)
  · rename_i t w hg
    rw [hg] at m2
    obtain ⟨b,hb,h⟩ := need_elim h
    cases b <;> (try simp only at h) <;> try exact h.elim
    · rename_i b
      rw [wanted_of ha m2 hb]
      split at h
      · rename_i e
        rw [if_pos (by simpa using e)]
        exact .inl (run h)
      · rename_i e
        rw [if_neg (by simpa using e)]
        exact skip h
    · rw [wanted_tuple ha m2 hb]
      exact skip h
/-! ### What an operation looks at -/
def Opd.tmps : Opd → List Nat
  | .t n => [n]
  | .c _ => []
def oTmps : Option Opd → List Nat
  | some x => x.tmps
  | none => []
def VOp.tmps : VOp → List Nat
  | .yo _ xs => xs.flatMap Opd.tmps
  | .mv x | .load _ _ x | .nilc x | .not x | .neg x | .i2i _ x | .b2s x | .s2s x | .fld _ _ _ x | .tya _ _ _ x | .faddr _ x | .ext x _ | .len _ x | .mkif _ x => x.tmps
  | .pick c x y => c.tmps ++ (x.tmps ++ y.tmps)
  | .bin _ _ x y | .iaddr _ x y | .idx x y | .aidx _ _ _ x y => x.tmps ++ y.tmps
  | .mx _ x y => x.tmps ++ y.tmps
  | .slc _ x lo hi m => x.tmps ++ (oTmps lo ++ (oTmps hi ++ oTmps m))
  | .mkfn _ xs ys => xs.flatMap Opd.tmps ++ ys.flatMap Opd.tmps
def MOp.tmps : MOp → List Nat
  | .xo _ xs => xs.flatMap Opd.tmps
  | .val q => q.tmps
  | .zalloc _ => []
  | .box x | .boxi x | .s2b x | .isnil _ x | .tap _ x => x.tmps
  | .build _ ps | .bslice _ _ _ ps => ps.flatMap fun p => p.2.2.tmps
  | .store _ x y | .app _ _ x y => x.tmps ++ y.tmps
  | .call _ xs | .scall _ xs => xs.flatMap Opd.tmps
  | .callv x xs => x.tmps ++ xs.flatMap Opd.tmps
def MO.looks (m : MO) : List Nat :=
  m.op.tmps ++ (match m.g with | some (t,_) => [t] | none => [])
def Agree (l : List Nat) (a a' : A) : Prop := ∀ t ∈ l,a'.get t = a.get t
theorem Agree.ev {l : List Nat} {a a' : A} (h : Agree l a a') {x : Opd} (hx : ∀ t ∈ x.tmps,t ∈ l) : a'.ev x = a.ev x := by
  cases x with
  | t n => exact h n (hx n (by simp [Opd.tmps]))
  | c v => rfl
theorem Agree.evs {l : List Nat} {a a' : A} (h : Agree l a a') : ∀ (xs : List Opd),(∀ t ∈ xs.flatMap Opd.tmps,t ∈ l) → a'.evs xs = a.evs xs
  | [],_ => rfl
  | x :: xs,hx => by
    simp only [A.evs]
    rw [h.ev (x := x) (fun t ht => hx t (by simp [ht])),Agree.evs h xs (fun t ht => hx t (by
      simp only [List.flatMap_cons,List.mem_append]; exact .inr ht))]
theorem Agree.bound {l : List Nat} {a a' : A} (h : Agree l a a') {x : Option Opd} (hx : ∀ t ∈ oTmps x,t ∈ l) (d : Nat) (k : Int → Prop) : bound a' d x k = bound a d x k := by
  cases x with
  | none => rfl
  | some x => simp only [Go.Vm.bound]; rw [h.ev (x := x) (fun t ht => hx t ht)]
theorem Agree.lay {l : List Nat} {a a' : A} (h : Agree l a a') : ∀ (ps : List (Nat × Nat × Opd)) (cs : List V),(∀ t ∈ ps.flatMap (fun p => p.2.2.tmps),t ∈ l) → lay a' cs ps = lay a cs ps
  | [],_,_ => rfl
  | (off,sz,x) :: ps,cs,hx => by
    simp only [Go.Vm.lay]
    rw [h.ev (x := x) (fun t ht => hx t (by simp [ht]))]
    cases a.ev x with
    | none => rfl
    | some v =>
      simp only
      split
      · exact Agree.lay h ps _ (fun t ht => hx t (by simp only [List.flatMap_cons,List.mem_append]; exact .inr ht))
      · rfl
theorem vop_congr {q : VOp} {a a' : A} {H : AH} {k : V → Prop} (h : Agree q.tmps a a') : vop q a' H k = vop q a H k := by
  have e : ∀ x : Opd,(∀ t ∈ x.tmps,t ∈ q.tmps) → a'.ev x = a.ev x := fun x hx => h.ev hx
  cases q <;> simp only [vop,VOp.tmps] at * <;> try (rw [e _ (fun t ht => ht)]; done)
  case yo q xs => rw [Agree.evs h xs (fun t ht => ht)]
  case pick c x y => rw [e c (fun t ht => by simp [ht]),e x (fun t ht => by simp [ht]),e y (fun t ht => by simp [ht])]
  case bin op ek x y => rw [e x (fun t ht => by simp [ht]),e y (fun t ht => by simp [ht])]
  case iaddr z x y => rw [e x (fun t ht => by simp [ht]),e y (fun t ht => by simp [ht])]
  case idx x y => rw [e x (fun t ht => by simp [ht]),e y (fun t ht => by simp [ht])]
  case aidx g z n x y => rw [e x (fun t ht => by simp [ht]),e y (fun t ht => by simp [ht])]
  case mx b x y => rw [e x (fun t ht => by simp [ht]),e y (fun t ht => by simp [ht])]
  case slc z x lo hi mx =>
    rw [e x (fun t ht => by simp [ht])]
    congr 1
    funext v
    cases v <;> simp only [vslc]
    case str l => cases z <;> cases mx <;> simp only [Agree.bound h (x := lo) (fun t ht => by simp [ht]),Agree.bound h (x := hi) (fun t ht => by simp [ht])]
    case msl i z' off n => cases z <;> cases mx <;> simp only [Agree.bound h (x := lo) (fun t ht => by simp [ht]),Agree.bound h (x := hi) (fun t ht => by simp [ht])]
    case nilSl => simp only [Agree.bound h (x := lo) (fun t ht => by simp [ht]),Agree.bound h (x := hi) (fun t ht => by simp [ht])]
    case sl z' es t =>
      have hlo := fun d k => Agree.bound h (x := lo) (fun t ht => by simp [ht]) d k
      have hhi := fun d k => Agree.bound h (x := hi) (fun t ht => by simp [ht]) d k
      have hmx := fun d k => Agree.bound h (x := mx) (fun t ht => by simp [ht]) d k
      rw [hlo]
      congr 1
      funext l
      cases z <;> cases hi <;> cases mx <;> simp only [hhi,hmx]
  case mkfn fn xs ys => rw [Agree.evs h xs (fun t ht => by simp only [List.mem_append]; exact .inl ht),Agree.evs h ys (fun t ht => by simp only [List.mem_append]; exact .inr ht)]
theorem mop_congr {P : Program} {m : MOp} {a a' : A} {H : AH} {k : V → AH → Prop} {kp : AH → Prop} (h : Agree m.tmps a a') : mop P m a' H k kp = mop P m a H k kp := by
  have e : ∀ x : Opd,(∀ t ∈ x.tmps,t ∈ m.tmps) → a'.ev x = a.ev x := fun x hx => h.ev hx
  cases m <;> simp only [mop,MOp.tmps] at * <;> try (rw [e _ (fun t ht => ht)]; done)
  case val q => exact vop_congr h
  case xo q xs => rw [Agree.evs h xs (fun t ht => ht)]
  case build z ps => rw [Agree.lay h ps _ (fun t ht => ht)]
  case bslice z n zs ps => rw [Agree.lay h ps _ (fun t ht => ht)]
  case store z x y => rw [e x (fun t ht => by simp [ht]),e y (fun t ht => by simp [ht])]
  case app z b x y => rw [e x (fun t ht => by simp [ht]),e y (fun t ht => by simp [ht])]
  case call f xs => rw [Agree.evs h xs (fun t ht => ht)]
  case scall f xs => rw [Agree.evs h xs (fun t ht => ht)]
  case callv x xs => rw [e x (fun t ht => by simp [ht]),Agree.evs h xs (fun t ht => by simp only [List.mem_append]; exact .inr ht)]
/-! ### Quiet operations -/
theorem vbin_fun {op : BinOp} {e : EqK} {u v : V} {k : V → Prop} (h : vbin op e u v k) : ∃ x,k x ∧ ∀ k',k' x → vbin op e u v k' := by
  unfold vbin at h
  split at h
  · split at h
    · exact ⟨_,h.2,fun k' hk => ⟨h.1,hk⟩⟩
    · exact ⟨_,h.2,fun k' hk => ⟨h.1,hk⟩⟩
    · obtain ⟨h0,h⟩ := h
      rename_i n1 n2
      cases op <;> simp only [intBin] at h <;> first
        | exact h.elim
        | exact absurd rfl n1
        | exact absurd rfl n2
        | exact ⟨_,h.2,fun k' hk => ⟨h0,h.1,hk⟩⟩
        | exact ⟨_,h,fun k' hk => ⟨h0,hk⟩⟩
  · cases op <;> simp only [strBin] at h <;> first
      | exact h.elim
      | exact ⟨_,h.2,fun k' hk => ⟨h.1,hk⟩⟩
      | exact ⟨_,h,fun k' hk => hk⟩
  · split at h <;> first | exact h.elim | exact ⟨_,h,fun k' hk => hk⟩
  · split at h
    · obtain ⟨r,hr,h⟩ := need_elim h; exact ⟨_,h,fun k' hk => by simp only [vbin,hr,need_some]; exact hk⟩
    · obtain ⟨r,hr,h⟩ := need_elim h; exact ⟨_,h,fun k' hk => by simp only [vbin,hr,need_some]; exact hk⟩
    · exact h.elim
  · split at h <;> first | exact h.elim | exact ⟨_,h,fun k' hk => hk⟩
  · split at h <;> first | exact h.elim | exact ⟨_,h,fun k' hk => hk⟩
  · split at h <;> first | exact h.elim | exact ⟨_,h,fun k' hk => hk⟩
  · split at h <;> first | exact h.elim | exact ⟨_,h,fun k' hk => hk⟩
  · split at h <;> first | exact h.elim | exact ⟨_,h.2,fun k' hk => ⟨h.1,hk⟩⟩
  · split at h <;> first | exact h.elim | exact ⟨_,h,fun k' hk => hk⟩
  · split at h <;> first | exact h.elim | exact ⟨_,h,fun k' hk => hk⟩
  · split at h <;> first | exact h.elim | exact ⟨_,h,fun k' hk => hk⟩
  · split at h
    · obtain ⟨r,hr,h⟩ := need_elim h; exact ⟨_,h,fun k' hk => by simp only [vbin,hr,need_some]; exact hk⟩
    · obtain ⟨r,hr,h⟩ := need_elim h; exact ⟨_,h,fun k' hk => by simp only [vbin,hr,need_some]; exact hk⟩
    · exact h.elim
  · exact h.elim
theorem yval_lec {q : YOp} {H H' : AH} {vs : List V} {v : V} (hl : H.lec H') (h : yval q H vs = some v) : yval q H' vs = some v := by
  unfold yval at h ⊢
  split at h
  · exact h
  · exact h
  · rename_i i key
    cases ho : H i with
    | none => rw [ho] at h; cases h
    | some o => cases o <;> rw [ho] at h <;> (try simp only at h) <;> first | (cases h; done) | (rw [hl i _ ho (by intros; simp)]; exact h)
  · rename_i j
    cases ho : H j with
    | none => rw [ho] at h; cases h
    | some o =>
      cases o <;> rw [ho] at h <;> (try simp only at h) <;> try (cases h; done)
      case iterv left cur =>
        rw [hl j _ ho (by intros; simp)]
        cases cur with
        | none => cases h
        | some kv => exact h
      rename_i m
      cases m with
      | none => cases h
      | some i =>
        simp only at h
        rw [hl j _ ho (by intros; simp)]
        simp only
        cases hi : H i with
        | none => rw [hi] at h; cases h
        | some p => cases p <;> rw [hi] at h <;> (try simp only at h) <;> first | (cases h; done) | (rw [hl i _ hi (by intros; simp)]; exact h)
  · exact h
  · exact h
  · exact h
  · exact h
  · exact h
  · cases h
theorem bound_fun {a : A} {d : Nat} {x : Option Opd} {f : Int → (V → Prop) → Prop} {k : V → Prop} (h : bound a d x (fun n => f n k)) (hf : ∀ n,f n k → ∃ v,k v ∧ ∀ k',k' v → f n k') : ∃ v,k v ∧ ∀ k',k' v → bound a d x (fun n => f n k') := by
  cases x with
  | none => exact hf _ h
  | some x =>
    simp only [bound] at h ⊢
    obtain ⟨v,hv,h⟩ := need_elim h
    rw [hv]
    cases v <;> simp only [need_some] at h ⊢ <;> first | exact h.elim | exact hf _ h
theorem AH.lec_refl (H : AH) : H.lec H := fun _ _ h _ => h
theorem AH.lec_trans {H H' H'' : AH} (h : H.lec H') (k : H'.lec H'') : H.lec H'' := fun i o hi ho => k i o (h i o hi ho) ho
theorem AH.lec_of_le {H H' : AH} (h : H.le H') : H.lec H' := fun i o hi _ => h i o hi
theorem AH.lec_put {H H' : AH} (h : H.lec H') {k : Nat} (hk : H' k = none) (o : AObj) : H.lec (H'.put k o) := fun i p hp ho => by
  by_cases e : i = k
  · subst e; rw [h i p hp ho] at hk; cases hk
  · rw [AH.put_ne _ _ e]; exact h i p hp ho
theorem AH.lec_put_top {H H' : AH} (h : H.lec H') {k y n : Nat} (hk : H' k = some (.top y n)) (o : AObj) : H.lec (H'.put k o) := fun i p hp ho => by
  by_cases e : i = k
  · subst e; rw [h i p hp ho] at hk; cases hk; exact absurd rfl (ho _ _)
  · rw [AH.put_ne _ _ e]; exact h i p hp ho
theorem vbytesH_mono {H H' : AH} (hle : H.lec H') {v : V} {l : List UInt8} (h : vbytesH H v = some l) : vbytesH H' v = some l := by
  unfold vbytesH at h ⊢
  split at h
  · split at h
    · rename_i cs hk
      rw [hle _ _ hk (by intros; simp)]
      exact h
    · cases h
  · exact h
theorem vop_fun {q : VOp} {a : A} {H : AH} {k : V → Prop} (h : vop q a H k) : ∃ v,k v ∧ ∀ H',H.lec H' → ∀ k',k' v → vop q a H' k' := by
  cases q <;> simp only [vop] at h ⊢
  case mv x => obtain ⟨v,hv,h⟩ := need_elim h; exact ⟨v,h,fun H' _ k' hk => by rw [hv]; exact hk⟩
  case pick c x y =>
    obtain ⟨v,hv,h⟩ := need_elim h
    rw [hv]
    cases v <;> (try simp only at h) <;> try exact h.elim
    rename_i b
    cases b <;> (obtain ⟨u,hu,h⟩ := need_elim h; exact ⟨u,h,fun H' _ k' hk => by simp only [need_some]; rw [hu]; exact hk⟩)
  case load g z x =>
    obtain ⟨v,hv,h⟩ := need_elim h
    rw [hv]
    cases v <;> simp only [vload] at h <;> try exact h.elim
    · obtain ⟨ob,hob,h⟩ := need_elim h
      cases ob <;> (try simp only at h) <;> try exact h.elim
      obtain ⟨u,hu,h⟩ := need_elim h
      exact ⟨u,h,fun H' hl k' hk => by simp only [need_some,vload,hl _ _ hob (by intros; simp),hu]; exact hk⟩
    · obtain ⟨u,hu,h⟩ := need_elim h
      exact ⟨u,h,fun H' hl k' hk => by simp only [need_some,vload,hu]; exact hk⟩
  case nilc x =>
    obtain ⟨v,hv,h⟩ := need_elim h
    rw [hv]
    cases v <;> (try simp only at h) <;> try exact h.elim
    · exact ⟨_,h,fun H' _ k' hk => hk⟩
    · exact ⟨_,h,fun H' _ k' hk => hk⟩
    · rename_i fn _ _
      cases fn <;> (try simp only at h) <;> try exact h.elim
      exact ⟨_,h,fun H' _ k' hk => hk⟩
  case bin op e x y =>
    obtain ⟨u,hu,h⟩ := need_elim h
    obtain ⟨v,hv,h⟩ := need_elim h
    rw [hu,hv]
    obtain ⟨r,h1,h2⟩ := vbin_fun h
    exact ⟨r,h1,fun H' _ k' hk => h2 k' hk⟩
  case slc z x lo hi mx =>
    obtain ⟨v,hv,h⟩ := need_elim h
    rw [hv]
    simp only [need_some]
    suffices hh : ∃ r,k r ∧ ∀ k',k' r → vslc a z lo hi mx v k' from let ⟨r,h1,h2⟩ := hh; ⟨r,h1,fun H' _ k' hk => h2 k' hk⟩
    cases v <;> simp only [vslc] at h ⊢ <;> try exact h.elim
    case str l =>
      cases z <;> cases mx <;> simp only at h ⊢ <;> try exact h.elim
      exact bound_fun (f := fun n k => bound a l.length hi fun h => (0 ≤ n ∧ n ≤ h ∧ h ≤ l.length) ∧ k (.str ((l.drop n.toNat).take (h.toNat - n.toNat)))) h fun n h => bound_fun (f := fun m k => (0 ≤ n ∧ n ≤ m ∧ m ≤ l.length) ∧ k (.str ((l.drop n.toNat).take (m.toNat - n.toNat)))) h fun m h => ⟨_,h.2,fun k' hk => ⟨h.1,hk⟩⟩
    case nilSl =>
      cases z <;> cases mx <;> simp only at h ⊢
      · exact bound_fun (f := fun n k => bound a 0 hi fun h => False) h fun n h => bound_fun (f := fun m k => False) h fun m h => h.elim
      · exact bound_fun (f := fun n k => bound a 0 hi fun h => False) h fun n h => bound_fun (f := fun m k => False) h fun m h => h.elim
      · exact bound_fun (f := fun n k => bound a 0 hi fun h => (n = 0 ∧ h = 0) ∧ k .nilSl) h fun n h => bound_fun (f := fun m k => (n = 0 ∧ m = 0) ∧ k .nilSl) h fun m h => ⟨_,h.2,fun k' hk => ⟨h.1,hk⟩⟩
      · exact bound_fun (f := fun n k => bound a 0 hi fun h => False) h fun n h => bound_fun (f := fun m k => False) h fun m h => h.elim
    case msl i w off n =>
      rcases z with _ | z <;> cases mx <;> simp only at h ⊢
      · exact bound_fun (f := fun p k => bound a n hi fun h => False) h fun p h => bound_fun (f := fun m k => False) h fun m h => h.elim
      · exact bound_fun (f := fun p k => bound a n hi fun h => False) h fun p h => bound_fun (f := fun m k => False) h fun m h => h.elim
      · exact bound_fun (f := fun p k => bound a n hi fun h => (w = z ∧ 0 ≤ p ∧ p ≤ h ∧ h ≤ n) ∧ k (.msl i z (off + p.toNat * z) (h.toNat - p.toNat))) h fun p h => bound_fun (f := fun m k => (w = z ∧ 0 ≤ p ∧ p ≤ m ∧ m ≤ n) ∧ k (.msl i z (off + p.toNat * z) (m.toNat - p.toNat))) h fun m h => ⟨_,h.2,fun k' hk => ⟨h.1,hk⟩⟩
      · exact bound_fun (f := fun p k => bound a n hi fun h => False) h fun p h => bound_fun (f := fun m k => False) h fun m h => h.elim
    case sl w es t =>
      cases z with
      | none => exact bound_fun (f := fun n k => False) (by cases hi <;> cases mx <;> exact h) fun n h => h.elim
      | some z =>
        cases mx with
        | none =>
          have h' : bound a 0 lo (fun l => bound a es.length hi fun h => (w = z ∧ 0 ≤ l ∧ l ≤ h ∧ h ≤ es.length) ∧ k (.sl z ((es.drop l.toNat).take (h.toNat - l.toNat)) (if l = 0 ∧ h = es.length then t else .no))) := by cases hi <;> exact h
          obtain ⟨r,h1,h2⟩ := bound_fun (f := fun l k => bound a es.length hi fun h => (w = z ∧ 0 ≤ l ∧ l ≤ h ∧ h ≤ es.length) ∧ k (.sl z ((es.drop l.toNat).take (h.toNat - l.toNat)) (if l = 0 ∧ h = es.length then t else .no))) h' fun n h => bound_fun (f := fun m k => (w = z ∧ 0 ≤ n ∧ n ≤ m ∧ m ≤ es.length) ∧ k (.sl z ((es.drop n.toNat).take (m.toNat - n.toNat)) (if n = 0 ∧ m = es.length then t else .no))) h fun m h => ⟨_,h.2,fun k' hk => ⟨h.1,hk⟩⟩
          exact ⟨r,h1,fun k' hk => by cases hi <;> exact h2 k' hk⟩
        | some mx =>
          cases hi with
          | none => exact bound_fun (f := fun n k => False) h fun n h => h.elim
          | some hi =>
            exact bound_fun (f := fun l k => bound a 0 (some hi) fun h => bound a 0 (some mx) fun m => (w = z ∧ 0 ≤ l ∧ l ≤ h ∧ h = m ∧ m ≤ es.length) ∧ k (.sl z ((es.drop l.toNat).take (h.toNat - l.toNat)) .tight)) h fun l h =>
              bound_fun (f := fun h k => bound a 0 (some mx) fun m => (w = z ∧ 0 ≤ l ∧ l ≤ h ∧ h = m ∧ m ≤ es.length) ∧ k (.sl z ((es.drop l.toNat).take (h.toNat - l.toNat)) .tight)) h fun p h =>
                bound_fun (f := fun m k => (w = z ∧ 0 ≤ l ∧ l ≤ p ∧ p = m ∧ m ≤ es.length) ∧ k (.sl z ((es.drop l.toNat).take (p.toNat - l.toNat)) .tight)) h fun m h => ⟨_,h.2,fun k' hk => ⟨h.1,hk⟩⟩
  case len lk x =>
    obtain ⟨v,hv,h⟩ := need_elim h
    rw [hv]
    cases v <;> simp only [vlen] at h <;> try exact h.elim
    case map i =>
      obtain ⟨ob,hob,h⟩ := need_elim h
      cases ob <;> (try simp only at h) <;> try exact h.elim
      exact ⟨_,h.2,fun H' hl k' hk => by simp only [need_some,vlen,hl _ _ hob (by intros; simp)]; exact ⟨h.1,hk⟩⟩
    all_goals exact ⟨_,h.2,fun H' _ k' hk => ⟨h.1,hk⟩⟩
  case mkfn fn xs ys =>
    obtain ⟨us,hu,h⟩ := need_elim h
    obtain ⟨vs,hv,h⟩ := need_elim h
    rw [hu,hv]
    exact ⟨_,h,fun H' _ k' hk => hk⟩
  case b2s x =>
    obtain ⟨v,hv,h⟩ := need_elim h
    obtain ⟨l,hl,h⟩ := need_elim h
    rw [hv]
    refine ⟨_,h,fun H' hle k' hk => ?_⟩
    simp only [need_some]
    rw [vbytesH_mono hle hl]
    exact hk
  case iaddr z x y =>
    obtain ⟨v,hv,h⟩ := need_elim h
    rw [hv]
    cases v <;> (try simp only at h) <;> try exact h.elim
    · obtain ⟨u,hu,h⟩ := need_elim h
      rw [hu]
      cases u <;> (try simp only at h) <;> try exact h.elim
      obtain ⟨h0,h⟩ := h
      obtain ⟨c,hc,h⟩ := need_elim h
      exact ⟨_,h,fun H' _ k' hk => by simp only [need_some,hc]; exact ⟨h0,hk⟩⟩
    · obtain ⟨u,hu,h⟩ := need_elim h
      rw [hu]
      cases u <;> (try simp only at h) <;> try exact h.elim
      obtain ⟨h0,h⟩ := h
      exact ⟨_,h,fun H' _ k' hk => by simp only [need_some]; exact ⟨h0,hk⟩⟩
  case idx x y =>
    obtain ⟨v,hv,h⟩ := need_elim h
    rw [hv]
    cases v <;> (try simp only at h) <;> try exact h.elim
    obtain ⟨u,hu,h⟩ := need_elim h
    rw [hu]
    cases u <;> (try simp only at h) <;> try exact h.elim
    obtain ⟨h0,h⟩ := h
    obtain ⟨c,hc,h⟩ := need_elim h
    exact ⟨_,h,fun H' _ k' hk => by simp only [need_some,hc]; exact ⟨h0,hk⟩⟩
  case aidx g z n x y =>
    obtain ⟨v,hv,h⟩ := need_elim h
    rw [hv]
    cases v <;> (try simp only at h) <;> try exact h.elim
    obtain ⟨u,hu,h⟩ := need_elim h
    rw [hu]
    cases u <;> (try simp only at h) <;> try exact h.elim
    obtain ⟨h0,h⟩ := h
    obtain ⟨c,hc,h⟩ := need_elim h
    exact ⟨_,h,fun H' _ k' hk => by simp only [need_some,hc]; exact ⟨h0,hk⟩⟩
  case yo q xs =>
    obtain ⟨vs,hv,h⟩ := need_elim h
    obtain ⟨v,hy,h⟩ := need_elim h
    exact ⟨v,h,fun H' hl k' hk => by simp only [need_some,hv,yval_lec hl hy]; exact hk⟩
  case tya t ok z x =>
    obtain ⟨v,hv,h⟩ := need_elim h
    rw [hv]
    cases v <;> (try simp only at h) <;> try exact h.elim
    · exact ⟨_,h.2,fun H' _ k' hk => ⟨h.1,hk⟩⟩
    · exact ⟨_,h.2,fun H' _ k' hk => ⟨h.1,hk⟩⟩
  case mx b x y =>
    obtain ⟨v,hv,h⟩ := need_elim h
    rw [hv]
    cases v <;> (try simp only at h) <;> try exact h.elim
    obtain ⟨u,hu,h⟩ := need_elim h
    rw [hu]
    cases u <;> (try simp only at h) <;> try exact h.elim
    exact ⟨_,h.2,fun H' _ k' hk => ⟨h.1,hk⟩⟩
  case fld g z off x =>
    obtain ⟨v,hv,h⟩ := need_elim h
    rw [hv]
    cases v <;> (try simp only at h) <;> try exact h.elim
    obtain ⟨u,hu,h⟩ := need_elim h
    exact ⟨_,h,fun H' _ k' hk => by simp only [need_some,hu]; exact hk⟩
  case ext x i =>
    obtain ⟨v,hv,h⟩ := need_elim h
    rw [hv]
    cases v <;> (try simp only at h) <;> try exact h.elim
    obtain ⟨u,hu,h⟩ := need_elim h
    exact ⟨_,h,fun H' _ k' hk => by simp only [need_some,hu]; exact hk⟩
  all_goals
    obtain ⟨v,hv,h⟩ := need_elim h
    rw [hv]
    cases v <;> (try simp only at h) <;> first | exact h.elim | exact ⟨_,h,fun H' _ k' hk => hk⟩
end Go.Vm
/- A region that draws: quiet operations in whatever order, then a tail that waits for all of them. -/
namespace Go.Vm
def PureAt (P : Program) (f : FuncId) (vs : List V) (H : AH) (v : V) : Prop :=
  ∀ H',H.lec H' → ACalls P f vs H' (fun o H'' => o = .ret v ∧ H'' = H')
theorem pureAt_of {P : Program} {f : FuncId} {vs : List V} {v : V} (h : ∀ H,ACalls P f vs H (fun o H' => o = .ret v ∧ H' = H)) (H : AH) : PureAt P f vs H v := fun H' _ => h H'
def qmop (P : Program) : MOp → A → AH → (V → Prop) → Prop
  | .val q,a,H,k => vop q a H k
  | .boxi x,a,_,k => need (a.ev x) fun v => v.flat = true ∧ k (.rptr v.cells 0)
  | .tap t x,a,_,k => need (a.ev x) (tapK t k False)
  | .build z ps,a,_,k => need (lay a z ps) fun cs => k (.agg cs)
  | .bslice sz n z ps,a,_,k => need (lay a z ps) fun cs => k (.sl sz (chop sz n cs) .tight)
  | .s2b x,a,_,k => need (a.ev x) (strK fun l => k (.sl 1 (byteCells l) .no))
  | .call f xs,a,H,k => need (a.evs xs) fun vs => ∃ v,PureAt P f vs H v ∧ k v
  | _,_,_,_ => False
theorem qmop_fun {P : Program} {m : MOp} {a : A} {H : AH} {k : V → Prop} (h : qmop P m a H k) : ∃ v,k v ∧ ∀ a' H',Agree m.tmps a a' → H.lec H' → ∀ (k' : V → AH → Prop) kp,k' v H' → mop P m a' H' k' kp := by
  cases m <;> simp only [qmop] at h <;> try exact h.elim
  case val q =>
    obtain ⟨v,h1,h2⟩ := vop_fun h
    exact ⟨v,h1,fun a' H' hag hl k' kp hk => by rw [mop_congr hag]; exact h2 H' hl (fun v => k' v H') hk⟩
  case boxi x =>
    obtain ⟨v,hv,h1,h2⟩ := need_elim h
    exact ⟨_,h2,fun a' H' hag hl k' kp hk => by rw [mop_congr hag]; simp only [mop,hv,need_some]; exact ⟨h1,hk⟩⟩
  case tap t x =>
    obtain ⟨v,hv,h2⟩ := need_elim h
    cases v <;> simp only [tapK] at h2 <;> try exact h2.elim
    rename_i u v
    by_cases e : u = t
    · rw [if_pos e] at h2
      exact ⟨v,h2,fun a' H' hag hl k' kp hk => by rw [mop_congr hag]; simp only [mop,hv,need_some,tapK,if_pos e]; exact hk⟩
    · rw [if_neg e] at h2; exact h2.elim
  case build z ps =>
    obtain ⟨v,hv,h2⟩ := need_elim h
    exact ⟨_,h2,fun a' H' hag hl k' kp hk => by rw [mop_congr hag]; simp only [mop,hv,need_some]; exact hk⟩
  case bslice sz n z ps =>
    obtain ⟨v,hv,h2⟩ := need_elim h
    exact ⟨_,h2,fun a' H' hag hl k' kp hk => by rw [mop_congr hag]; simp only [mop,hv,need_some]; exact hk⟩
  case s2b x =>
    obtain ⟨v,hv,h2⟩ := need_elim h
    cases v <;> simp only [strK] at h2 <;> try exact h2.elim
    exact ⟨_,h2,fun a' H' hag hl k' kp hk => by rw [mop_congr hag]; simp only [mop,hv,need_some]; exact hk⟩
  case call f xs =>
    obtain ⟨vs,hv,v,h1,h2⟩ := need_elim h
    refine ⟨v,h2,fun a' H' hag hl k' kp hk => ?_⟩
    rw [mop_congr hag]
    simp only [mop,hv,need_some]
    exact (h1 H' hl).mono (by rintro o H'' ⟨rfl,rfl⟩; exact hk)
def quietE (P : Program) (m : MO) (a : A) (H : AH) (k : A → Prop) : Prop :=
  match m.g with
  | none => qmop P m.op a H (fun v => k (a.putD m.dst v))
  | some (t,w) => need (a.get t) (guardK w (qmop P m.op a H (fun v => k (a.putD m.dst v))) (k (a.putD m.dst unitV)))
def QF (P : Program) (m : MO) (a : A) (H : AH) (v : V) : Prop :=
  ∀ a' H',Agree m.looks a a' → H.lec H' → ∀ (k' : A → AH → Prop) Kp,k' (a'.putD m.dst v) H' → stepE P m a' H' k' Kp
theorem quietE_fun {P : Program} {m : MO} {a : A} {H : AH} {k : A → Prop} (h : quietE P m a H k) : ∃ v,k (a.putD m.dst v) ∧ QF P m a H v := by
  obtain ⟨d,g,op⟩ := m
  cases g with
  | none =>
    simp only [quietE] at h
    obtain ⟨v,h1,h2⟩ := qmop_fun h
    refine ⟨v,h1,fun a' H' hag hl k' Kp hk => ?_⟩
    simp only [stepE]
    exact h2 a' H' (fun t ht => hag t (by simp [MO.looks,ht])) hl _ _ hk
  | some p =>
    obtain ⟨t,w⟩ := p
    simp only [quietE] at h
    obtain ⟨b,hb,h⟩ := need_elim h
    cases b <;> simp only [guardK] at h <;> try exact h.elim
    · rename_i b
      by_cases e : b = w
      · subst e
        simp only [gif,beq_self_eq_true,if_true] at h
        obtain ⟨v,h1,h2⟩ := qmop_fun h
        refine ⟨v,h1,fun a' H' hag hl k' Kp hk => ?_⟩
        simp only [stepE]
        rw [hag t (by simp [MO.looks]),hb]
        simp only [need_some,if_true]
        exact h2 a' H' (fun t ht => hag t (by simp [MO.looks,ht])) hl _ _ hk
      · have e' : (b == w) = false := by simpa using e
        simp only [gif,e',Bool.false_eq_true,if_false] at h
        refine ⟨unitV,h,fun a' H' hag hl k' Kp hk => ?_⟩
        simp only [stepE]
        rw [hag t (by simp [MO.looks]),hb]
        simp only [need_some,e,if_false]
        exact hk
    · refine ⟨unitV,h,fun a' H' hag hl k' Kp hk => ?_⟩
      simp only [stepE]
      rw [hag t (by simp [MO.looks]),hb]
      exact hk
def drawE (P : Program) : List MO → A → AH → (A → Prop) → Prop
  | [],a,_,K => K a
  | m :: ms,a,H,K => quietE P m a H fun a' => drawE P ms a' H K
inductive Run (P : Program) (H : AH) : List MO → List V → A → A → Prop where
  | nil (a : A) : Run P H [] [] a a
  | cons (m : MO) (ms : List MO) (v : V) (vs : List V) (a a' : A) : QF P m a H v → Run P H ms vs (a.putD m.dst v) a' → Run P H (m :: ms) (v :: vs) a a'
theorem drawE_run {P : Program} {H : AH} {K : A → Prop} : ∀ {ms : List MO} {a : A},drawE P ms a H K → ∃ vs a',Run P H ms vs a a' ∧ K a'
  | [],a,h => ⟨[],a,.nil a,h⟩
  | m :: ms,a,h => by
    obtain ⟨v,h1,h2⟩ := quietE_fun h
    obtain ⟨vs,a',h3,h4⟩ := drawE_run h1
    exact ⟨v :: vs,a',.cons m ms v vs a a' h2 h3,h4⟩
def lookV : List MO → List V → Nat → (Nat → Bool) → Nat → Option V → Option V
  | m :: ms,v :: vs,k,L,t,d => lookV ms vs (k + 1) L t (if L k = true ∧ m.dst = some t then some v else d)
  | _,_,_,_,_,d => d
theorem putD_get (a : A) (d : Option Nat) (v : V) (t : Nat) : (a.putD d v).get t = if d = some t then some v else a.get t := by
  cases d with
  | none => simp [A.putD]
  | some d => simp [A.putD,A.get_put]
theorem run_get {P : Program} {H : AH} {ms : List MO} {vs : List V} {a a' : A} (h : Run P H ms vs a a') (k : Nat) (t : Nat) : a'.get t = lookV ms vs k (fun _ => true) t (a.get t) := by
  induction h generalizing k with
  | nil a => rfl
  | cons m ms v vs a a' _ _ ih => rw [ih (k + 1)]; simp [lookV,putD_get]
theorem lookV_congr {L L' : Nat → Bool} {t : Nat} : ∀ (ms : List MO) (vs : List V) (k : Nat) (d : Option V),(∀ j m,ms[j]? = some m → m.dst = some t → L (k + j) = L' (k + j)) → lookV ms vs k L t d = lookV ms vs k L' t d
  | [],_,_,_,_ => rfl
  | _ :: _,[],_,_,_ => rfl
  | m :: ms,v :: vs,k,d,h => by
    simp only [lookV]
    have h0 := h 0 m rfl
    have hif : (if L k = true ∧ m.dst = some t then some v else d) = (if L' k = true ∧ m.dst = some t then some v else d) := by
      by_cases e : m.dst = some t
      · rw [show L k = L' k from by simpa using h0 e]
      · simp [e]
    rw [hif]
    exact lookV_congr ms vs (k + 1) _ (fun j m hm hd => by have := h (j + 1) m (by simpa using hm) hd; rw [show k + 1 + j = k + (j + 1) by omega]; exact this)
theorem lookV_none {L : Nat → Bool} {t : Nat} : ∀ (ms : List MO) (vs : List V) (k : Nat) (d : Option V),(∀ j m,ms[j]? = some m → m.dst = some t → L (k + j) = false) → lookV ms vs k L t d = d
  | [],_,_,_,_ => rfl
  | _ :: _,[],_,_,_ => rfl
  | m :: ms,v :: vs,k,d,h => by
    simp only [lookV]
    have h0 := h 0 m rfl
    rw [lookV_none ms vs (k + 1) _ (fun j m hm hd => by have := h (j + 1) m (by simpa using hm) hd; rw [show k + 1 + j = k + (j + 1) by omega]; exact this)]
    by_cases e : m.dst = some t
    · have := h0 e; simp at this; simp [this]
    · simp [e]
theorem run_at {P : Program} {H : AH} {ms : List MO} {vs : List V} {a a' : A} (h : Run P H ms vs a a') {i : Nat} {m : MO} (hm : ms[i]? = some m) (k : Nat) :
    ∃ ai v,vs[i]? = some v ∧ QF P m ai H v ∧ (∀ t L,(∀ j mj,ms[j]? = some mj → mj.dst = some t → j < i → L (k + j) = true) → (∀ j mj,ms[j]? = some mj → mj.dst = some t → i ≤ j → L (k + j) = false) → lookV ms vs k L t (a.get t) = ai.get t) ∧
      (∀ t L,m.dst = some t → L (k + i) = true → (∀ j mj,ms[j]? = some mj → mj.dst = some t → i < j → L (k + j) = false) → lookV ms vs k L t (a.get t) = some v) := by
  induction h generalizing i k with
  | nil a => simp at hm
  | cons m0 ms v0 vs a a' hq hr ih =>
    cases i with
    | zero =>
      simp at hm; subst hm
      refine ⟨a,v0,rfl,hq,fun t L _ h2 => ?_,fun t L hd hl h2 => ?_⟩
      · simp only [lookV]
        rw [lookV_none ms vs (k + 1) _ (fun j mj hj hd => by have := h2 (j + 1) mj (by simpa using hj) hd (by omega); rw [show k + 1 + j = k + (j + 1) by omega]; exact this)]
        by_cases e : m0.dst = some t
        · have := h2 0 m0 rfl e (Nat.le_refl _); simp at this; simp [this]
        · simp [e]
      · simp only [lookV]
        rw [lookV_none ms vs (k + 1) _ (fun j mj hj hd => by have := h2 (j + 1) mj (by simpa using hj) hd (by omega); rw [show k + 1 + j = k + (j + 1) by omega]; exact this)]
        rw [if_pos ⟨hl,hd⟩]
    | succ i =>
      simp at hm
      obtain ⟨ai,v,h1,h2,h3,h4⟩ := ih hm (k + 1)
      refine ⟨ai,v,by simpa using h1,h2,fun t L g1 g2 => ?_,fun t L hd hl g2 => ?_⟩
      · rw [← h3 t L (fun j mj hj hd hlt => by have := g1 (j + 1) mj (by simpa using hj) hd (by omega); rw [show k + 1 + j = k + (j + 1) by omega]; exact this) (fun j mj hj hd hlt => by have := g2 (j + 1) mj (by simpa using hj) hd (by omega); rw [show k + 1 + j = k + (j + 1) by omega]; exact this)]
        simp only [lookV,putD_get]
        congr 1
        by_cases e : m0.dst = some t
        · have := g1 0 m0 rfl e (by omega); simp at this; simp [this]
        · simp [e]
      · have := h4 t L hd (by rw [show k + 1 + i = k + (i + 1) by omega]; exact hl) (fun j mj hj hd hlt => by have := g2 (j + 1) mj (by simpa using hj) hd (by omega); rw [show k + 1 + j = k + (j + 1) by omega]; exact this)
        simp only [lookV]
        -- the last writer hides what was there
        have hide : ∀ (ms : List MO) (vs : List V) (k i : Nat) (m : MO) (v : V) (d d' : Option V),ms[i]? = some m → vs[i]? = some v → m.dst = some t → L (k + i) = true → lookV ms vs k L t d = lookV ms vs k L t d' := by
          intro ms
          induction ms with
          | nil => intro vs k i m v d d' hm; simp at hm
          | cons m1 ms ih1 =>
            intro vs k i m v d d' hm hv hd hl
            cases vs with
            | nil => simp at hv
            | cons v1 vs =>
              simp only [lookV]
              cases i with
              | zero => simp at hm; subst hm; simp at hl; simp [hl,hd]
              | succ i => exact ih1 vs (k + 1) i m v _ _ (by simpa using hm) (by simpa using hv) hd (by rw [show k + 1 + i = k + (i + 1) by omega]; exact hl)
        rw [hide ms vs (k + 1) i m v _ ((a.putD m0.dst v0).get t) hm h1 hd (by rw [show k + 1 + i = k + (i + 1) by omega]; exact hl)]
        exact this
end Go.Vm
