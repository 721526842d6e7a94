/- Of the walks of this seat: contracts of functions of the given program, proved over the abstract values of the texts Vm. Conditions: as each theorem says. -/
import Derived.Test.YtjlphncecdlmcaaVmQ
import Derived.Recover
set_option linter.unusedVariables false
set_option linter.unusedSimpArgs false
/- A slice that grew, and is written no more, becomes a value. -/
namespace Go.Vm
end Go.Vm
/- A map that nobody writes any more becomes a value. -/
namespace Go.Vm
def FrozeM (s : St) (k : Nat) (es : List (V × V)) : Prop := ∀ x, s.val (.map k) x → s.val (.mapv es) x
theorem HRel.freezeM {s : St} {H : AH} (hr : HRel s H) {k : Nat} {es : List (V × V)} (hk : H k = some (.map es)) : ∃ s', s'.w = s.w ∧ Ext s s' ∧ HRel s' (H.del k) ∧ FrozeM s' k es := by
  obtain ⟨b, ms, c, r1, r2, r3, r4, r5, r6⟩ := hr.obj k _ hk
  have hx : Ext s (s.loose b) := St.ext_loose
  refine ⟨s.loose b, rfl, hx, hr.loose r2, fun x hv => ?_⟩
  cases hv with
  | map _ b' hb =>
    have hb' : s.blk k = some b' := hb
    rw [r1] at hb'; cases hb'
    exact .mapv es b ms c (hr.role _ _ _ r2).2 (by simp [St.loose]) r3 (r4.mono hx) r5 r6
theorem AM.freezeM {P : Program} {N : Nat} {m : MC} {Q : AExit → A → AH → Prop} {a a' : A} {H : AH} {k : Nat} {es : List (V × V)} (hk : H k = some (.map es)) (hs : ∀ s : St, FrozeM s k es → ASub s a a') (h : AM P N m Q a' (H.del k)) : AM P N m Q a H :=
  fun imm lv c hm s act hn hr ha => by
    obtain ⟨s', h1, h2, h3, h4⟩ := hr.freezeM hk
    have := h imm lv c hm s' act hn h3 ((ha.mono h2).subs (hs s' h4))
    rw [← h1]
    exact wp_mono this fun _ _ _ h => h.of_ext h2
theorem ACalls.freezeM {P : Program} {f : FuncId} {vs : List V} {H : AH} {Q : Out → AH → Prop} {R : V → AH → Prop} (h : ACalls P f vs H Q)
    (hq : ∀ o H', Q o H' → ∃ v, o = .ret v ∧ (R v H' ∨ ∃ k es v', H' k = some (.map es) ∧ (∀ s : St, FrozeM s k es → ∀ x, s.val v x → s.val v' x) ∧ R v' (H'.del k))) : ACalls P f vs H (fun o H' => ∃ v, o = .ret v ∧ R v H') :=
  fun s xs hr hv => (h s xs hr hv).mono fun e w p => by
    obtain ⟨s', H', o, rfl, h2, h3, h4, h5⟩ := p
    obtain ⟨v, rfl, h6 | ⟨k, es, v', k1, k2, k3⟩⟩ := hq o H' h5
    · exact ⟨s', H', .ret v, rfl, h2, h3, h4, v, rfl, h6⟩
    · obtain ⟨s2, g1, g2, g3, g4⟩ := h3.freezeM k1
      cases e with
      | returned x => exact ⟨s2, _, .ret v', g1, h2.trans g2, g3, k2 s2 g4 _ (Holds.mono g2 h4), v', rfl, k3⟩
      | panicked c => exact h4.elim
      | outgrown => exact h4.elim
end Go.Vm
/- A function that defers a guard: its panics are told by a result. -/
namespace Go.Vm
variable {P : Program}
/-! ### Regions whose panics keep some temporaries -/
def RegQa (a0 : A) (s : St) (d : List Deferred) (N : Nat) (K : A → AH → Prop) (Kp : AH → Prop) (e : Exit) (act : Act) (w : World) : Prop :=
  (e = .normal ∧ Abs s d N K act w) ∨ (∃ ch, e = .panic ch ∧ Chain ch ∧ Abs s d N (fun a H => a = a0 ∧ Kp H) act w)
def keepsB (a0 : A) (ms : List MO) : Bool := ms.all fun m => match m.dst with
  | some t => (a0.get t).isNone
  | none => true
theorem aw_opsA {imm : Nat → Bool} {N : Nat} {ops : Array Oper} {K : A → AH → Prop} {Kp : AH → Prop} {a0 : A} : ∀ (l : List Oper) (k : Nat) (ms : List MO) (a : A) (H : AH) (s : St) (act : Act), (∀ j, l[j]? = ops[k + j]?) → mosOf P imm N ops l = some ms → keepsB a0 ms = true → (∀ t v, a0.get t = some v → a.get t = some v) → awOps P ms a H K Kp → act.tmps.size = N → HRel s H → ARel s a act →
    ∀ s0 d, Ext s0 s → act.defers = d → wpOps P ops (RegQa a0 s0 d N K Kp) (List.range' k l.length) act s.w
  | [], k, ms, a, H, s, act, _, hm, _, _, h, hn, hr, ha, s0, d, hx, hd => by
    cases hm
    exact .inl ⟨rfl, s, a, H, rfl, hx, hr, ha, hd, hn, h⟩
  | o :: l, k, ms, a, H, s, act, hl, hm, hkp, hsub, h, hn, hr, ha, s0, d, hx, hd => by
    have h0 : ops[k]? = some o := by simpa using (hl 0).symm
    simp only [mosOf] at hm
    split at hm
    case h_2 => cases hm
    rename_i m ms' hmo hms
    cases hm
    obtain ⟨m1, m2, m3, m4, m5⟩ := moOf_inv hmo
    rw [keepsB, List.all_cons, Bool.and_eq_true] at hkp
    have hkp2 : keepsB a0 ms' = true := hkp.2
    have hdst : ∀ v t u, a0.get t = some u → (a.putD m.dst v).get t = some u := by
      intro v t u ht
      rw [putD_get]
      have h1 := hkp.1
      split
      · rename_i e
        rw [e] at h1
        simp only [ht] at h1
        cases h1
      · exact hsub t u ht
    have hl' : ∀ j, l[j]? = ops[k + 1 + j]? := fun j => by have := hl (j + 1); simpa [Nat.add_assoc, Nat.add_comm 1 j] using this
    have run : mop P m.op a H (fun v H' => awOps P ms' (a.putD m.dst v) H' K Kp) Kp → o.wp P act s.w (wpOps P ops (RegQa a0 s0 d N K Kp) (List.range' (k + 1) l.length)) (RegQa a0 s0 d N K Kp) := by
      intro hmop
      have hw := mop_sound m1 m3 hr ha hmop
      unfold Oper.wp at hw ⊢
      generalize (execOp act.eval o).run P s.w = r at *
      have next : ∀ act' w', Went s act o.dst (fun v H' => awOps P ms' (a.putD m.dst v) H' K Kp) act' w' → wpOps P ops (RegQa a0 s0 d N K Kp) (List.range' (k + 1) l.length) act' w' := by
        rintro act' w' ⟨s', x, v, H', rfl, hx', hr', rfl, hv, hk⟩
        rw [m4] at hk
        exact aw_opsA l (k + 1) ms' _ H' s' _ hl' hms hkp2 (by rw [← m4]; exact hdst v) hk (by rw [put_size, hn]) hr' ((ha.mono hx').put (fun t ht => by rw [hn]; exact m5 t ht) hv) s0 d (hx.trans hx') (by rw [put_defers]; exact hd)
      have fell : ∀ e act' w', Fell s act Kp e act' w' → RegQa a0 s0 d N K Kp e act' w' := by
        rintro e act' w' ⟨ch, s', H', rfl, hch, rfl, rfl, hx', hr', hk⟩
        exact .inr ⟨ch, rfl, hch, s', a0, H', rfl, hx.trans hx', hr', (ha.mono hx').sub hsub, hd, hn, rfl, hk⟩
      cases r with
      | ok n w' =>
        cases n <;> simp only [Oper.upon] at hw ⊢
        case value u => exact next _ _ hw
        case skip => exact next _ _ hw
        case defer dd => exact absurd hw (by
          rintro ⟨s', x, v, H', _, _, _, h, _⟩
          have := congrArg Act.defers h
          simp only [put_defers] at this
          exact absurd this (by simp))
        case enter f args =>
          refine hw.mono fun e w'' he => ?_
          cases e with
          | returned u => exact next _ _ he
          | panicked c => exact fell _ _ _ he
          | outgrown =>
            obtain ⟨a', w3, ch, s', H', h, _⟩ := he
            cases h
        case row row args => exact hw.mono fun _ _ he => next _ _ he
      | halt x w' => cases x <;> simp only [Oper.upon] at hw ⊢; exact fell _ _ _ hw
    have skip : awOps P ms' (a.putD m.dst unitV) H K Kp → wpOps P ops (RegQa a0 s0 d N K Kp) (List.range' (k + 1) l.length) (act.put o.dst undef) s.w := by
      intro hk
      rw [m4] at hk
      exact aw_opsA l (k + 1) ms' _ H s _ hl' hms hkp2 (by rw [← m4]; exact hdst unitV) hk (by rw [put_size, hn]) hr (ha.put (fun t ht => by rw [hn]; exact m5 t ht) (.tuple [] [] .nil)) s0 d hx (by rw [put_defers]; exact hd)
    rw [List.length_cons, List.range'_succ]
    simp only [wpOps, h0]
    unfold awOps at h
    split at h
    · rename_i hg
      rw [hg] at m2
      rw [wanted_none m2, if_pos rfl]
      exact .inl (run h)
    · rename_i t w hg
      rw [hg] at m2
      obtain ⟨b, hb, h⟩ := need_elim h
      cases b <;> (try simp only at h) <;> try exact h.elim
      · rename_i b
        rw [wanted_of ha m2 hb]
        split at h
        · rename_i e
          rw [if_pos (by simpa using e)]
          exact .inl (run h)
        · rename_i e
          rw [if_neg (by simpa using e)]
          exact skip h
      · rw [wanted_tuple ha m2 hb]
        exact skip h
theorem aw_regionA {imm : Nat → Bool} {N : Nat} {id : Nat} {ops : Array Oper} {ms : List MO} {lv : List Nat} {Q : AExit → A → AH → Prop} {a : A} {H : AH} (a0 : A) (hm : mosOf P imm N ops ops.toList = some ms) (hk : keepsB a0 ms = true) (hsub : ∀ t v, a0.get t = some v → a.get t = some v) (h : awOps P ms a H (regK lv Q) (fun H => Q .panic a0 H)) : AW P N (.region id ops false) Q a H := by
  intro s act hn hr ha
  have := aw_opsA (K := regK lv Q) (Kp := fun H => Q .panic a0 H) (a0 := a0) ops.toList 0 ms a H s act (by simp) hm hk hsub h hn hr ha s act.defers (.refl s) rfl
  rw [Array.length_toList] at this
  have conv : ∀ e act' w', RegQa a0 s act.defers N (regK lv Q) (fun H => Q .panic a0 H) e act' w' → AbsQ s act.defers N Q e act' w' := by
    rintro e act' w' (⟨rfl, s', a', H', e1, hx, hr', ha', hd, hn', k⟩ | ⟨ch, rfl, hch, h⟩)
    · exact ⟨.normal, trivial, s', _, H', e1, hx, hr', ha'.sub (A.get_only lv a'), hd, hn', k⟩
    · exact ⟨.panic, hch, h.mono (by rintro a H ⟨rfl, h⟩; exact h)⟩
  exact wp_mono (wp_region (by rw [List.range_eq_range']; exact this)) conv
theorem am_regA {N : Nat} {Q : AExit → A → AH → Prop} {a : A} {H : AH} {ms : List MO} {l : List Nat} (a0 : A) (hk : keepsB a0 ms = true) (hsub : ∀ t v, a0.get t = some v → a.get t = some v) (h : awOps P ms a H (regK l Q) (fun H => Q .panic a0 H)) : AM P N (.reg ms l) Q a H := by
  intro imm lv c hc
  cases c <;> (try simp only [mcOf] at hc) <;> try (cases hc; done)
  case region id ops d =>
    cases d <;> simp only [mcOf] at hc <;> refine (orStuck_eq hc).elim (fun hc => ?_) (fun hc => by cases hc)
    · simp only [Option.map_eq_some_iff] at hc
      obtain ⟨ms', h1, h2⟩ := hc
      cases h2
      exact aw_regionA a0 h1 hk hsub h
    · obtain ⟨ms', h1, h2⟩ := Option.bind_eq_some_iff.1 hc
      replace h2 := drwOf2_of (by intros; simp) h2
      unfold drwOf at h2
      split at h2 <;> (try split at h2) <;> simp at h2
  all_goals (first | (simp at hc; done) | (split at hc <;> simp at hc))
/-! ### A deferred guard -/
def GuardOK (P : Program) (g : FuncId) (e : Int) : Prop := ∀ (p : Addr) (x : Int) (w : World),
  (∀ (u : TypeId) (pv : Value) (older : List PanicEntry), w.cell? p = some (.int .i64 x) → w.frozen? p = false → CallsD P g #[.pointer (some p)] (.panicking ({ v := .iface u pv, recovered := false } :: older)) w fun en u' w' => en = .returned (.tuple #[]) ∧ u' = .panicking ({ v := .iface u pv, recovered := true } :: older) ∧ w' = w.setCell p (.int .i64 e)) ∧
  CallsD P g #[.pointer (some p)] .returning w fun en u' w' => en = .returned (.tuple #[]) ∧ u' = .returning ∧ w' = w
def BodyG (rs : List RV) (ko : Nat) (e : Int) (Q : Out → AH → Prop) : AExit → A → AH → Prop
  | .normal, a, H | .ret, a, H => need (rvsGet a H rs) fun vs => Q (.ret (resOne vs)) H
  | .panic, a, H => ∃ x : Int, H ko = some (.cells [.int .i64 x]) ∧ need (rvsGet a (H.put ko (.cells [.int .i64 e])) rs) fun vs => Q (.ret (resOne vs)) (H.put ko (.cells [.int .i64 e]))
  | _, _, _ => False
theorem settled {u : TypeId} {pv : Value} : settle (.panicking [{ v := .iface u pv, recovered := true }]) = .returning := rfl
theorem acalls_guard {f g : FuncId} {fn : Func} {imm : Nat → Bool} {lv : Nat → List Nat × List Nat} {m0 m1 : MC} {rs : List RV} {vs : List V} {H : AH} {Q : Out → AH → Prop} {p : Nat} {e : Int} {c0 c1 : Code} {id : Nat} {Ts : Array TypeId} {ty : TypeId} {pos : String}
    (hf : P.funcs[f]? = some fn) (hb : fn.body = some (.seq c0 (.seq (.region id #[⟨none, .defer ⟨.value (.func g), #[.tmp p], Ts⟩, ty, pos, #[], none⟩] false) c1)))
    (h0 : mcOf P imm lv fn.ntmps c0 = some m0) (h1 : mcOf P imm lv fn.ntmps c1 = some m1) (hrs : rvsOf P fn.results.toList = some rs) (hN : vs.length ≤ fn.ntmps) (hg : GuardOK P g e)
    (hgf : ∀ (x : Array Value) (w : World), (invoke (.fn (.func g) #[]) x).run P w = .ok (.enter g x) w)
    (h : AM P fn.ntmps m0 (fun ae a H => match ae with | .normal => ∃ ko, a.get p = some (.ptr ko 0) ∧ AM P fn.ntmps m1 (BodyG rs ko e Q) a H | _ => False) (params 0 vs) H) : ACalls P f vs H Q := by
  intro s xs hr hv
  have hl := vals_length hv
  refine calls_of_wp_defers hf hb ?_
  have hsz : (xs.toArray ++ Array.replicate (fn.ntmps - xs.toArray.size) undef).size = fn.ntmps := by simp; omega
  have ha : ARel s (params 0 vs) { tmps := xs.toArray ++ Array.replicate (fn.ntmps - xs.toArray.size) undef, defers := [] } := by
    refine ⟨fun t v ht => ?_⟩
    obtain ⟨_, h2⟩ := params_get vs 0 t v ht
    obtain ⟨x, x1, x2⟩ := vals_get hv (by simpa using h2)
    have hlt : t < xs.length := (List.getElem?_eq_some_iff.1 x1).1
    exact ⟨x, by rw [Array.getElem?_append_left (by simpa using hlt)]; simpa using x1, x2⟩
  refine wp_seq (wp_mono (h imm lv c0 h0 s _ hsz hr ha) ?_)
  rintro e1 act1 w1 ⟨ae, hfit, s1, a1, H1, rfl, hx1, hr1, ha1, hd1, hn1, hq⟩
  cases e1 <;> cases ae <;> simp only [AExit.fits] at hfit <;> try exact hq.elim
  obtain ⟨ko, hko, hq⟩ := hq
  obtain ⟨y, hy, hyv⟩ := ha1.get p _ hko
  obtain ⟨b, hb1, rfl⟩ := inv_ptr hyv
  refine wp_seq (wp_region ?_)
  have hev : act1.eval (.tmp p) = .pointer (some ⟨b, 0, none⟩) := by simp [Act.eval, hy]
  have hdef : (execOp act1.eval ⟨none, .defer ⟨.value (.func g), #[.tmp p], Ts⟩, ty, pos, #[], none⟩).run P s1.w = .ok (.defer { target := .fn (.func g) #[], args := #[.pointer (some ⟨b, 0, none⟩)] }) s1.w := by
    simp [execOp, resolve, Deferred.ofValue, Act.eval, hy]
  show wpOps P _ _ [0] act1 s1.w
  simp only [wpOps, List.getElem?_toArray, List.getElem?_cons_zero]
  rw [if_pos (by simp [Region.wanted])]
  refine .inl ?_
  unfold Oper.wp
  rw [hdef]
  simp only [Oper.upon]
  have hn2 : (({ act1 with defers := { target := .fn (.func g) #[], args := #[.pointer (some ⟨b, 0, none⟩)] } :: act1.defers } : Act).put none undef).tmps.size = fn.ntmps := hn1
  have ha2 : ARel s1 a1 (({ act1 with defers := { target := .fn (.func g) #[], args := #[.pointer (some ⟨b, 0, none⟩)] } :: act1.defers } : Act).put none undef) := ⟨ha1.get⟩
  have hd0 : act1.defers = [] := hd1
  show Code.wp P c1 (bodyPostD P fn (Post s Q)) _ _
  refine wp_mono (hq imm lv c1 h1 s1 _ hn2 hr1 ha2) ?_
  rintro e2 act2 w2 ⟨ae2, hfit2, s2, a2, H2, rfl, hx2, hr2, ha3, hd3, hn3, hq2⟩
  have hd3' : act2.defers = [{ target := .fn (.func g) #[], args := #[.pointer (some ⟨b, 0, none⟩)] }] := by rw [hd3]; rw [put_defers]; rw [hd0]
  have fin : need (rvsGet a2 H2 rs) (fun vs => Q (.ret (resOne vs)) H2) → Leaves P fn act2.tmps (Post s Q) act2.defers .returning s2.w := by
    intro hq
    obtain ⟨us, g1, g2⟩ := need_elim hq
    obtain ⟨x, x1, x2⟩ := results_sound hrs hr2 ha3 g1
    rw [hd3']
    refine leaves_cons (f := g) (args := #[.pointer (some ⟨b, 0, none⟩)]) (by simp) (hgf _ _) ?_
    refine ((hg ⟨b, 0, none⟩ 0 s2.w).2).mono ?_
    rintro en u' w' ⟨rfl, rfl, rfl⟩
    exact ⟨x, x1, s2, H2, .ret (resOne us), rfl, hx1.trans hx2, hr2, x2, g2⟩
  cases e2 <;> cases ae2 <;> simp only [AExit.fits] at hfit2 <;> simp only [BodyG] at hq2
  case normal.normal => exact fin hq2
  case ret.ret => exact fin hq2
  case panic.panic ch =>
    obtain ⟨u, pv, rfl⟩ := hfit2
    obtain ⟨x, hx, hq2⟩ := hq2
    obtain ⟨us, g1, g2⟩ := need_elim hq2
    obtain ⟨b', ys, zs, T, fr, o1, o2, o3, o4, o5, o6⟩ := hr2.obj ko _ hx
    have hb2 : s2.blk ko = some b := hx2.blk _ _ hb1
    rw [hb2] at o1; cases o1
    obtain ⟨y0, hys, rfl⟩ : ∃ y0, ys.toList = [y0] ∧ y0 = .int .i64 x := by
      cases hl : ys.toList with
      | nil => rw [hl] at o5; cases o5
      | cons y0 t =>
        rw [hl] at o5
        cases o5 with
        | cons _ _ _ _ q1 q2 =>
          cases q2
          exact ⟨y0, rfl, inv_int q1⟩
    have hys' : ys = #[.int .i64 x] := by apply Array.ext'; rw [hys]
    subst hys'
    have hc : s2.w.cell? ⟨b, 0, none⟩ = some (.int .i64 x) := by
      rw [obj_cell o3, Array.getElem?_append_left (by simp)]; rfl
    have hz : s2.w.frozen? ⟨b, 0, none⟩ = false := by
      have o4' := o4
      unfold NF at o4'
      rw [Array.size_append] at o4'
      simp only [World.frozen?, o3, Bool.and_eq_false_iff, decide_eq_false_iff_not]
      have : (#[Value.int IntKind.i64 x] : Array Value).size = 1 := rfl
      omega
    have hblt : b < s2.w.heap.size := (hr2.role b ko 0 o2).2
    have hset := setCell_eq o3 0 (.int .i64 e)
    have hob : ORel (s2.write b (.cells (#[.int .i64 e] ++ zs) T fr)) ko (.cells [.int .i64 e]) := ⟨b, #[Value.int .i64 e], zs, T, fr, hb2, o2, heap_setBlock_same hblt, by simpa using o4, .cons _ _ _ _ (.int _ _) .nil, by simp [ones, V.one]⟩
    have hr3 := hr2.write o2 (.cells (#[.int .i64 e] ++ zs) T fr) (.cells [.int .i64 e]) hob
    have hx3 := St.ext_write (s := s2) o2 (.cells (#[.int .i64 e] ++ zs) T fr)
    have hw : s2.w.setCell ⟨b, 0, none⟩ (.int .i64 e) = (s2.write b (.cells (#[.int .i64 e] ++ zs) T fr)).w := by
      rw [hset]; simp [St.write]
    obtain ⟨v, v1, v2⟩ := results_sound hrs hr3 (ha3.mono hx3) g1
    show Leaves P fn act2.tmps (Post s Q) act2.defers _ s2.w
    rw [hd3']
    refine leaves_cons (f := g) (args := #[.pointer (some ⟨b, 0, none⟩)]) (by simp) (hgf _ _) ?_
    refine ((hg ⟨b, 0, none⟩ x s2.w).1 u pv [] hc hz).mono ?_
    rintro en u' w' ⟨rfl, rfl, rfl⟩
    show Leaves P fn act2.tmps (Post s Q) [] (settle _) _
    rw [settled, hw]
    exact ⟨v, v1, _, _, .ret (resOne us), rfl, (hx1.trans hx2).trans hx3, hr3, v2, g2⟩
  all_goals exact hq2.elim
end Go.Vm
