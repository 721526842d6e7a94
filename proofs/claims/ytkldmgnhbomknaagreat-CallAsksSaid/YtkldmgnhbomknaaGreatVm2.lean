/- The abstract heap, the judgements of calls, codes and operations over it, and the rules of control. -/
import Derived.Test.YtkldmgnhbomknaaGreatVm1
import Derived.Laws.AppendOwn
import Derived.Orders
import Derived.MapKept
import Derived.Maps.RangeRun
set_option linter.unusedVariables false
set_option linter.unusedSimpArgs false
namespace Go.Vm
inductive AObj where
  | cells (cs : List V)
  | map (es : List (V × V))
  | top (sz n : Nat)
  | bld (T e : Nat) (l : List UInt8)
  /-- A slice that grows and may be written: its cells. -/
  | gr (sz n : Nat) (cs : List V)
  /-- A number that is taken,of which nothing is known. -/
  | dead
  /-- no object: draws are not told in these states -/
  | nodr
  /-- An iterator,over a numbered map or over none. -/
  | iter (m : Option Nat)
  /-- A map that an iterator goes over: what is left,and what it stands at. -/
  | mapi (es : List (V × V)) (j : Nat) (left : List (V × V)) (cur : Option (V × V))
  /-- An iterator over a map that nobody writes: what is left,and what it stands at. -/
  | iterv (left : List (V × V)) (cur : Option (V × V))
abbrev AH := Nat → Option AObj
def AH.put (H : AH) (k : Nat) (o : AObj) : AH := fun i => if i = k then some o else H i
theorem AH.put_same (H : AH) (k : Nat) (o : AObj) : (H.put k o) k = some o := by simp [AH.put]
theorem AH.put_ne (H : AH) {k i : Nat} (o : AObj) (h : i ≠ k) : (H.put k o) i = H i := by simp [AH.put,h]
theorem AH.put_put (H : AH) (k : Nat) (o o' : AObj) : (H.put k o).put k o' = H.put k o' := by funext i; simp only [AH.put]; split <;> rfl
theorem AH.put_none (H : AH) (k : Nat) (o : AObj) (i : Nat) : (H.put k o) i = none ↔ i ≠ k ∧ H i = none := by
  simp only [AH.put]; by_cases h : i = k <;> simp [h]
def AH.le (H H' : AH) : Prop := ∀ k o,H k = some o → H' k = some o
theorem AH.le_refl (H : AH) : H.le H := fun _ _ h => h
theorem AH.le_put {H H' : AH} (h : H.le H') {k : Nat} (hk : H k = none) (o : AObj) : H.le (H'.put k o) := fun i p hp => by
  by_cases e : i = k
  · subst e; rw [hk] at hp; cases hp
  · rw [AH.put_ne _ _ e]; exact h i p hp
theorem AH.put_le {H H' : AH} (h : H.le H') (k : Nat) (o : AObj) : (H.put k o).le (H'.put k o) := fun i p hp => by
  by_cases e : i = k
  · subst e; rw [AH.put_same] at hp ⊢; exact hp
  · rw [AH.put_ne _ _ e] at hp ⊢; exact h i p hp
def TopOk (s : St) (k sz : Nat) (st : TS) : Prop :=
  (st.n = 0 ∧ ∃ a,st.v = .slice a 0 0) ∨
  ∃ b o cap ys T,st.v = .slice (some ⟨b,o,none⟩) st.n cap ∧ s.role b = some (k,o + st.n * sz) ∧ s.w.heap[b]? = some (.cells ys T (0,0)) ∧ o + cap * sz ≤ ys.size ∧ st.n ≤ cap
def NF (fr : Nat × Nat) (n : Nat) : Prop := fr.2 ≤ fr.1 ∨ n ≤ fr.1
def ORel (s : St) (k : Nat) : AObj → Prop
  | .cells cs => ∃ b ys zs T fr,s.blk k = some b ∧ s.role b = some (k,0) ∧ s.w.heap[b]? = some (.cells (ys ++ zs) T fr) ∧ NF fr (ys ++ zs).size ∧ s.vals cs ys.toList ∧ ones cs = true
  | .bld T e l => ∃ b p v,s.blk k = some b ∧ s.role b = some (k,0) ∧ s.w.heap[b]? = some (.cells #[p,v] T (0,0)) ∧ (p = .pointer none ∨ p = .pointer (some ⟨b,0,none⟩)) ∧ s.w.ownsRow 0 e 1 v l.length (l.map fun b => Value.int .u8 b.toNat) ∧ v.ownBlock ≠ some b ∧ ∀ g,v.ownBlock = some g → s.role g = some (k,0)
  | .map es => ∃ b ms clock,s.blk k = some b ∧ s.role b = some (k,0) ∧ s.w.heap[b]? = some (.map ms clock) ∧ Holds s (.ents es ms.toList) ∧ (∀ m ∈ ms.toList,m.born < clock) ∧ (ms.toList.map (·.born)).Nodup
  | .dead => True
  | .nodr => s.dr = false
  | .gr sz n cs => ∃ b cap ys T,s.tok k = some ⟨n,.slice (some ⟨b,0,none⟩) n cap⟩ ∧ s.role b = some (k,0) ∧ s.w.heap[b]? = some (.cells ys T (0,0)) ∧ cap * sz ≤ ys.size ∧ n ≤ cap ∧ cs.length = n * sz ∧ s.vals cs (ys.toList.take (n * sz)) ∧ ones cs = true
  | .iter m => ∃ b,s.blk k = some b ∧ (m = none → s.role b = some (k,0) ∧ s.w.heap[b]? = some (.mapIter none 0 #[] 0))
  | .mapi es j left cur => ∃ b bi ms clock since seen,s.blk k = some b ∧ s.role b = some (k,0) ∧ s.w.heap[b]? = some (.map ms clock) ∧ Holds s (.ents es ms.toList) ∧ (∀ m ∈ ms.toList,m.born < clock) ∧ (ms.toList.map (·.born)).Nodup ∧
      s.blk j = some bi ∧ s.role bi = some (k,0) ∧ bi ≠ b ∧ s.w.heap[bi]? = some (.mapIter (some b) since seen clock) ∧ (∀ m ∈ ms.toList,m.born < since) ∧ since ≤ clock ∧ Holds s (.ents left (leftOf ms seen).toList) ∧
      (∀ kv,cur = some kv → ∃ (sn : Array Nat) (m : MapEntry),seen = sn.push m.born ∧ m ∈ ms.toList ∧ s.val kv.1 m.key ∧ s.val kv.2 m.val)
  | .iterv left cur => ∃ b bi ms clock since seen,s.blk k = some bi ∧ s.role bi = some (k,0) ∧ b < s.w.heap.size ∧ s.role b = none ∧ s.w.heap[b]? = some (.map ms clock) ∧ (ms.toList.map (·.born)).Nodup ∧
      s.w.heap[bi]? = some (.mapIter (some b) since seen clock) ∧ (∀ m ∈ ms.toList,m.born < since) ∧ since ≤ clock ∧ Holds s (.ents left (leftOf ms seen).toList) ∧
      (∀ kv,cur = some kv → ∃ (sn : Array Nat) (m : MapEntry),seen = sn.push m.born ∧ m ∈ ms.toList ∧ s.val kv.1 m.key ∧ s.val kv.2 m.val)
  | .top sz n => ∃ st,s.tok k = some st ∧ st.n = n ∧ TopOk s k sz st
structure HRel (s : St) (H : AH) : Prop where
  obj : ∀ k o,H k = some o → ORel s k o
  lt : ∀ k o,H k = some o → k < s.nx
  blk : ∀ k b,s.blk k = some b → k < s.nx
  tok : ∀ k t,s.tok k = some t → k < s.nx
  role : ∀ b k e,s.role b = some (k,e) → k < s.nx ∧ b < s.w.heap.size
theorem HRel.weaken {s : St} {H H' : AH} (h : HRel s H') (hl : H.le H') : HRel s H :=
  ⟨fun k o hk => h.obj k o (hl k o hk),fun k o hk => h.lt k o (hl k o hk),h.blk,h.tok,h.role⟩
def AH.lec (H H' : AH) : Prop := ∀ k o,H k = some o → (∀ y n,o ≠ .top y n) → H' k = some o
abbrev A := List (Nat × V)
def A.get : A → Nat → Option V
  | [],_ => none
  | (t,v) :: a,u => if t = u then some v else A.get a u
def A.put : A → Nat → V → A
  | [],d,v => [(d,v)]
  | (t,u) :: a,d,v => if t = d then (d,v) :: a else (t,u) :: A.put a d v
def A.keep (p : Nat → Bool) : A → A
  | [] => []
  | (t,u) :: a => if p t then (t,u) :: A.keep p a else A.keep p a
theorem A.get_put (a : A) (d : Nat) (v : V) (u : Nat) : (a.put d v).get u = if d = u then some v else a.get u := by
  induction a with
  | nil => simp [A.put,A.get]
  | cons p a ih =>
    obtain ⟨t,x⟩ := p
    simp only [A.put]
    by_cases h : t = d
    · subst h; simp only [if_true,A.get]; split <;> rfl
    · simp only [h,if_false,A.get,ih]
      by_cases h1 : t = u
      · subst h1; simp [Ne.symm h]
      · simp [h1]
structure ARel (s : St) (a : A) (act : Act) : Prop where
  get : ∀ t v,a.get t = some v → ∃ x,act.tmps[t]? = some x ∧ s.val v x
def Chain (ch : List PanicEntry) : Prop := ∃ (u : TypeId) (pv : Value),ch = [{ v := .iface u pv,recovered := false }]
inductive AExit where
  | normal
  | exit (id : Nat)
  | goto (l : Nat)
  | ret
  | panic
def AExit.fits : AExit → Exit → Prop
  | .normal,.normal => True
  | .exit i,.exit j => i = j
  | .goto i,.goto j => i = j
  | .ret,.ret => True
  | .panic,.panic ch => Chain ch
  | _,_ => False
def Abs (s : St) (d : List Deferred) (n : Nat) (K : A → AH → Prop) (act : Act) (w : World) : Prop :=
  ∃ s' a H,s'.w = w ∧ Ext s s' ∧ HRel s' H ∧ ARel s' a act ∧ act.defers = d ∧ act.tmps.size = n ∧ K a H
def AbsQ (s : St) (d : List Deferred) (n : Nat) (Q : AExit → A → AH → Prop) (e : Exit) (act : Act) (w : World) : Prop :=
  ∃ ae,ae.fits e ∧ Abs s d n (Q ae) act w
def AW (P : Program) (N : Nat) (c : Code) (Q : AExit → A → AH → Prop) (a : A) (H : AH) : Prop :=
  ∀ s act,act.tmps.size = N → HRel s H → ARel s a act → c.wp P (AbsQ s act.defers N Q) act s.w
theorem Abs.mono {s : St} {d : List Deferred} {n : Nat} {K K' : A → AH → Prop} {act : Act} {w : World} (h : Abs s d n K act w) (hk : ∀ a H,K a H → K' a H) : Abs s d n K' act w :=
  let ⟨s',a,H,e,x,hr,ha,hd,hn,k⟩ := h; ⟨s',a,H,e,x,hr,ha,hd,hn,hk _ _ k⟩
theorem Abs.of_ext {s s0 : St} {d : List Deferred} {n : Nat} {K : A → AH → Prop} {act : Act} {w : World} (hx : Ext s s0) (h : Abs s0 d n K act w) : Abs s d n K act w :=
  let ⟨s',a,H,e,x,hr,ha,hd,hn,k⟩ := h; ⟨s',a,H,e,hx.trans x,hr,ha,hd,hn,k⟩
theorem AbsQ.of_ext {s s0 : St} {d : List Deferred} {n : Nat} {Q : AExit → A → AH → Prop} {e : Exit} {act : Act} {w : World} (hx : Ext s s0) (h : AbsQ s0 d n Q e act w) : AbsQ s d n Q e act w :=
  let ⟨ae,hf,h⟩ := h; ⟨ae,hf,h.of_ext hx⟩
theorem AW.mono {P : Program} {N : Nat} {c : Code} {Q Q' : AExit → A → AH → Prop} {a : A} {H : AH} (h : AW P N c Q a H) (hq : ∀ e a H,Q e a H → Q' e a H) : AW P N c Q' a H :=
  fun s act hn hr ha => wp_mono (h s act hn hr ha) fun _ _ _ ⟨ae,hf,h⟩ => ⟨ae,hf,h.mono (hq ae)⟩
theorem AW.weaken {P : Program} {N : Nat} {c : Code} {Q : AExit → A → AH → Prop} {a : A} {H H' : AH} (h : AW P N c Q a H) (hl : H.le H') : AW P N c Q a H' :=
  fun s act hn hr ha => h s act hn (hr.weaken hl) ha
theorem ARel.sub {s : St} {a a' : A} {act : Act} (h : ARel s a act) (hs : ∀ t v,a'.get t = some v → a.get t = some v) : ARel s a' act :=
  ⟨fun t v ht => h.get t v (hs t v ht)⟩
theorem AW.sub {P : Program} {N : Nat} {c : Code} {Q : AExit → A → AH → Prop} {a a' : A} {H : AH} (h : AW P N c Q a' H) (hs : ∀ t v,a'.get t = some v → a.get t = some v) : AW P N c Q a H :=
  fun s act hn hr ha => h s act hn hr (ha.sub hs)
section control
variable {P : Program} {N : Nat} {Q : AExit → A → AH → Prop} {a : A} {H : AH}
theorem here {s : St} {act : Act} {K : A → AH → Prop} (hn : act.tmps.size = N) (hr : HRel s H) (ha : ARel s a act) (h : K a H) : Abs s act.defers N K act s.w :=
  ⟨s,a,H,rfl,.refl s,hr,ha,rfl,hn,h⟩
theorem aw_skip (h : Q .normal a H) : AW P N .skip Q a H := fun _ _ hn hr ha => wp_skip ⟨.normal,trivial,here hn hr ha h⟩
theorem aw_exit {i : Nat} (h : Q (.exit i) a H) : AW P N (.exit i) Q a H := fun _ _ hn hr ha => wp_exit ⟨.exit i,rfl,here hn hr ha h⟩
theorem aw_ret (h : Q .ret a H) : AW P N .ret Q a H := fun _ _ hn hr ha => wp_ret ⟨.ret,trivial,here hn hr ha h⟩
def AExit.then (K : A → AH → Prop) (Q : AExit → A → AH → Prop) : AExit → A → AH → Prop
  | .normal => K
  | e => Q e
theorem aw_seq {x y : Code} (h : AW P N x (AExit.then (AW P N y Q) Q) a H) : AW P N (.seq x y) Q a H := by
  intro s act hn hr ha
  refine wp_seq (wp_mono (h s act hn hr ha) ?_)
  rintro e act' w' ⟨ae,hf,habs⟩
  cases e with
  | normal =>
    cases ae <;> simp only [AExit.fits] at hf
    obtain ⟨s',a',H',rfl,hx,hr',ha',hd,hn',k⟩ := habs
    have := k s' act' hn' hr' ha'
    rw [hd] at this
    exact wp_mono this fun _ _ _ h => h.of_ext hx
  | _ => cases ae <;> simp only [AExit.fits] at hf <;> exact ⟨_,(by first | exact hf | trivial),habs⟩
theorem aw_cond {c : Operand} {x y : Code} {b : Bool} (hc : ∀ s act,ARel s a act → act.eval c = .bool b) (ht : b = true → AW P N x Q a H) (hf : b = false → AW P N y Q a H) : AW P N (.cond c x y) Q a H := by
  intro s act hn hr ha
  refine wp_cond (hc s act ha) ?_
  cases b
  · exact hf rfl s act hn hr ha
  · exact ht rfl s act hn hr ha
theorem val_bool {s : St} {b : Bool} {x : Value} (h : s.val (.bool b) x) : x = .bool b := by cases h; rfl
def AExit.inBlock (id : Nat) (Q : AExit → A → AH → Prop) : AExit → A → AH → Prop
  | .exit i => if i = id then Q .normal else Q (.exit i)
  | e => Q e
theorem aw_block {id : Nat} {c : Code} (h : AW P N c (AExit.inBlock id Q) a H) : AW P N (.block id c) Q a H := by
  intro s act hn hr ha
  refine wp_block (wp_mono (h s act hn hr ha) ?_)
  rintro e act' w' ⟨ae,hf,habs⟩
  cases e with
  | exit i =>
    cases ae <;> simp only [AExit.fits] at hf
    subst hf
    simp only [Exit.inBlock]
    simp only [AExit.inBlock] at habs
    split
    · rename_i h; simp only [h,if_true] at habs; exact ⟨.normal,trivial,habs⟩
    · rename_i h; simp only [h,if_false] at habs; exact ⟨.exit _,rfl,habs⟩
  | _ => cases ae <;> simp only [AExit.fits] at hf <;> exact ⟨_,(by first | exact hf | trivial),habs⟩
theorem aw_loop {c : Code} (I : Nat → A → AH → Prop) (round : ∀ n a H,I n a H → AW P N c (AExit.then (fun a' H' => ∃ m,m < n ∧ I m a' H') Q) a H) (n : Nat) (h0 : I n a H) : AW P N (.loop c) Q a H := by
  intro s act hn hr ha b k cs
  have key : ∀ n act w,Abs s act.defers N (I n) act w → ∀ d,act.defers = d →
      ∃ e a' w',AbsQ s d N Q e a' w' ∧ Arrives P (lone (b.at act (.code c :: .inLoop c :: k)) cs w) b k cs e a' w' := by
    intro n
    induction n using Nat.strongRecOn with
    | _ n ih =>
      intro act w hI d hd
      obtain ⟨s',a',H',rfl,hx,hr',ha',_,hn',k'⟩ := hI
      obtain ⟨e,a₁,w₁,⟨ae,hf,habs⟩,harr⟩ := round n a' H' k' s' act hn' hr' ha' b (.inLoop c :: k) cs
      cases e with
      | normal =>
        cases ae <;> simp only [AExit.fits] at hf
        obtain ⟨s2,a2,H2,rfl,hx2,hr2,ha2,hd2,hn2,p,hp,hI2⟩ := habs
        obtain ⟨e₂,a₂,w₂,hq₂,harr₂⟩ := ih p hp a₁ s2.w ⟨s2,a2,H2,rfl,hx.trans hx2,hr2,ha2,rfl,hn2,hI2⟩ d (hd2.trans hd)
        exact ⟨e₂,a₂,w₂,hq₂,.of_steps (Steps.trans harr (.one step_inLoop)) harr₂⟩
      | _ =>
        cases ae <;> simp only [AExit.fits] at hf
        all_goals exact ⟨_,a₁,w₁,hd ▸ AbsQ.of_ext hx ⟨_,(by first | exact hf | trivial),habs⟩,.pass (x := .inLoop c) rfl (fun _ _ => .inl (by simp)) harr⟩
  obtain ⟨e,a',w',hq,harr⟩ := key n act s.w (here hn hr ha h0) _ rfl
  exact ⟨e,a',w',hq,.of_steps (.one step_loop) harr⟩
end control
/-! ### Calls -/
inductive Out where
  | ret (v : V)
  | pan
def OutRel (s : St) : Out → Ending → Prop
  | .ret v,.returned x => s.val v x
  | .pan,.panicked ch => Chain ch
  | _,_ => False
def Post (s : St) (Q : Out → AH → Prop) (e : Ending) (w : World) : Prop :=
  ∃ s' H o,s'.w = w ∧ Ext s s' ∧ HRel s' H ∧ OutRel s' o e ∧ Q o H
def ACalls (P : Program) (f : FuncId) (vs : List V) (H : AH) (Q : Out → AH → Prop) : Prop :=
  ∀ s xs,HRel s H → s.vals vs xs → Calls P f xs.toArray s.w (Post s Q)
theorem Post.mono {s : St} {Q Q' : Out → AH → Prop} {e : Ending} {w : World} (h : Post s Q e w) (hq : ∀ o H,Q o H → Q' o H) : Post s Q' e w :=
  let ⟨s',H,o,a,b,c,d,k⟩ := h; ⟨s',H,o,a,b,c,d,hq _ _ k⟩
theorem ACalls.mono {P : Program} {f : FuncId} {vs : List V} {H : AH} {Q Q' : Out → AH → Prop} (h : ACalls P f vs H Q) (hq : ∀ o H,Q o H → Q' o H) : ACalls P f vs H Q' :=
  fun s xs hr hv => (h s xs hr hv).mono fun _ _ p => p.mono hq
def params : Nat → List V → A
  | _,[] => []
  | i,v :: vs => (i,v) :: params (i + 1) vs
theorem params_get (vs : List V) (i t : Nat) (v : V) (h : (params i vs).get t = some v) : i ≤ t ∧ vs[t - i]? = some v := by
  induction vs generalizing i with
  | nil => simp [params,A.get] at h
  | cons u vs ih =>
    simp only [params,A.get] at h
    split at h
    · rename_i e; subst e; simp at h; subst h; simp
    · obtain ⟨h1,h2⟩ := ih (i + 1) h
      refine ⟨by omega,?_⟩
      rw [show t - i = (t - (i + 1)) + 1 by omega]
      simpa using h2
end Go.Vm
