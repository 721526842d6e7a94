/- Regions, codes in a short form, and functions. -/
import Derived.Test.YtkldmgnhbomknaaGreatVm10
set_option linter.unusedVariables false
set_option linter.unusedSimpArgs false
namespace Go.Vm
def A.putD (a : A) (d : Option Nat) (v : V) : A :=
  match d with
  | some d => a.put d v
  | none => a
theorem ARel.mono {s s' : St} (hx : Ext s s') {a : A} {act : Act} (h : ARel s a act) : ARel s' a act :=
  ⟨fun t v ht => let ⟨x,h1,h2⟩ := h.get t v ht; ⟨x,h1,h2.mono hx⟩⟩
theorem ARel.put {s : St} {a : A} {act : Act} (h : ARel s a act) {d : Option Nat} (hd : ∀ t,d = some t → t < act.tmps.size) {v : V} {x : Value} (hv : s.val v x) : ARel s (a.putD d v) (act.put d x) := by
  cases d with
  | none => exact h
  | some d =>
    have hlt := hd d rfl
    refine ⟨fun t u ht => ?_⟩
    simp only [A.putD,A.get_put] at ht
    simp only [Act.put]
    split at ht
    · rename_i e; subst e; cases ht; exact ⟨x,by simp [hlt],hv⟩
    · rename_i e
      obtain ⟨y,h1,h2⟩ := h.get t u ht
      exact ⟨y,by rw [Array.getElem?_setIfInBounds_ne (fun e' => e e')]; exact h1,h2⟩
theorem put_size (act : Act) (d : Option Nat) (x : Value) : (act.put d x).tmps.size = act.tmps.size := by
  cases d <;> simp [Act.put]
theorem put_defers (act : Act) (d : Option Nat) (x : Value) : (act.put d x).defers = act.defers := by
  cases d <;> simp [Act.put]
def awOps (P : Program) : List MO → A → AH → (A → AH → Prop) → (AH → Prop) → Prop
  | [],a,H,K,_ => K a H
  | m :: ms,a,H,K,Kp =>
    match m.g with
    | none => mop P m.op a H (fun v H' => awOps P ms (a.putD m.dst v) H' K Kp) Kp
    | some (t,w) => need (a.get t) fun
      | .bool b => if b = w then mop P m.op a H (fun v H' => awOps P ms (a.putD m.dst v) H' K Kp) Kp else awOps P ms (a.putD m.dst unitV) H K Kp
      | .tuple _ => awOps P ms (a.putD m.dst unitV) H K Kp
      | _ => False
def guardOf (ops : Array Oper) (g : Option (Nat × Bool)) : Option (Option (Nat × Bool)) :=
  match g with
  | none => some none
  | some (j,w) => match (ops[j]?).bind (·.dst) with
    | some t => some (some (t,w))
    | none => none
def moOf (P : Program) (imm : Nat → Bool) (N : Nat) (ops : Array Oper) (o : Oper) : Option MO :=
  match mopOf P imm o,guardOf ops o.guard with
  | some m,some g => if enters P m = true ∧ (o.dst.all (· < N)) = true then some ⟨o.dst,g,m⟩ else none
  | _,_ => none
def mosOf (P : Program) (imm : Nat → Bool) (N : Nat) (ops : Array Oper) : List Oper → Option (List MO)
  | [] => some []
  | o :: os => match moOf P imm N ops o,mosOf P imm N ops os with
    | some m,some ms => some (m :: ms)
    | _,_ => none
theorem moOf_inv {P : Program} {imm : Nat → Bool} {N : Nat} {ops : Array Oper} {o : Oper} {m : MO} (h : moOf P imm N ops o = some m) : mopOf P imm o = some m.op ∧ guardOf ops o.guard = some m.g ∧ enters P m.op = true ∧ m.dst = o.dst ∧ ∀ t,o.dst = some t → t < N := by
  unfold moOf at h
  split at h
  · rename_i q g h1 h2
    split at h
    · rename_i hc
      cases h
      refine ⟨h1,h2,hc.1,rfl,fun t ht => ?_⟩
      have := hc.2
      rw [ht] at this
      simpa using this
    · cases h
  · cases h
theorem wanted_of {s : St} {a : A} {act : Act} (ha : ARel s a act) {ops : Array Oper} {o : Oper} {t : Nat} {w b : Bool} (hg : guardOf ops o.guard = some (some (t,w))) (hb : a.get t = some (.bool b)) : Region.wanted o (yielded ops act.tmps) = (b == w) := by
  unfold guardOf at hg
  split at hg
  · cases hg
  · rename_i j w' hj
    split at hg
    · rename_i t' ht
      cases hg
      obtain ⟨x,h1,h2⟩ := ha.get t _ hb
      obtain rfl := val_bool h2
      simp only [Region.wanted,hj,yielded,ht,Option.bind_some,h1]
      cases b <;> cases w <;> rfl
    · cases hg
theorem wanted_tuple {s : St} {a : A} {act : Act} (ha : ARel s a act) {ops : Array Oper} {o : Oper} {t : Nat} {w : Bool} {vs : List V} (hg : guardOf ops o.guard = some (some (t,w))) (hb : a.get t = some (.tuple vs)) : Region.wanted o (yielded ops act.tmps) = false := by
  unfold guardOf at hg
  split at hg
  · cases hg
  · rename_i j w' hj
    split at hg
    · rename_i t' ht
      cases hg
      obtain ⟨x,h1,h2⟩ := ha.get t _ hb
      obtain ⟨xs,_,rfl⟩ := inv_tuple h2
      simp only [Region.wanted,hj,yielded,ht,Option.bind_some,h1]
      rfl
    · cases hg
theorem wanted_none {ops : Array Oper} {o : Oper} (hg : guardOf ops o.guard = some none) (y : Nat → Option Bool) : Region.wanted o y = true := by
  unfold guardOf at hg
  split at hg
  · rename_i h; simp [Region.wanted,h]
  · split at hg <;> cases hg
def RegQ (s : St) (d : List Deferred) (N : Nat) (K : A → AH → Prop) (Kp : AH → Prop) (e : Exit) (act : Act) (w : World) : Prop :=
  (e = .normal ∧ Abs s d N K act w) ∨ (∃ ch,e = .panic ch ∧ Chain ch ∧ Abs s d N (fun a H => a = [] ∧ Kp H) act w)
theorem aw_ops {P : Program} {imm : Nat → Bool} {N : Nat} {ops : Array Oper} {K : A → AH → Prop} {Kp : AH → Prop} : ∀ (l : List Oper) (k : Nat) (ms : List MO) (a : A) (H : AH) (s : St) (act : Act),(∀ j,l[j]? = ops[k + j]?) → mosOf P imm N ops l = some ms → awOps P ms a H K Kp → act.tmps.size = N → HRel s H → ARel s a act →
    ∀ s0 d,Ext s0 s → act.defers = d → wpOps P ops (RegQ s0 d N K Kp) (List.range' k l.length) act s.w
  | [],k,ms,a,H,s,act,_,hm,h,hn,hr,ha,s0,d,hx,hd => by
    cases hm
    exact .inl ⟨rfl,s,a,H,rfl,hx,hr,ha,hd,hn,h⟩
  | o :: l,k,ms,a,H,s,act,hl,hm,h,hn,hr,ha,s0,d,hx,hd => by
    have h0 : ops[k]? = some o := by simpa using (hl 0).symm
    simp only [mosOf] at hm
    split at hm
    case h_2 => cases hm
    rename_i m ms' hmo hms
    cases hm
    obtain ⟨m1,m2,m3,m4,m5⟩ := moOf_inv hmo
    have hl' : ∀ j,l[j]? = ops[k + 1 + j]? := fun j => by have := hl (j + 1); simpa [Nat.add_assoc,Nat.add_comm 1 j] using this
    have run : mop P m.op a H (fun v H' => awOps P ms' (a.putD m.dst v) H' K Kp) Kp → o.wp P act s.w (wpOps P ops (RegQ s0 d N K Kp) (List.range' (k + 1) l.length)) (RegQ s0 d N K Kp) := by
      intro hmop
      have hw := mop_sound m1 m3 hr ha hmop
      unfold Oper.wp at hw ⊢
      generalize (execOp act.eval o).run P s.w = r at *
      have next : ∀ act' w',Went s act o.dst (fun v H' => awOps P ms' (a.putD m.dst v) H' K Kp) act' w' → wpOps P ops (RegQ s0 d N K Kp) (List.range' (k + 1) l.length) act' w' := by
        rintro act' w' ⟨s',x,v,H',rfl,hx',hr',rfl,hv,hk⟩
        rw [m4] at hk
        exact aw_ops l (k + 1) ms' _ H' s' _ hl' hms hk (by rw [put_size,hn]) hr' ((ha.mono hx').put (fun t ht => by rw [hn]; exact m5 t ht) hv) s0 d (hx.trans hx') (by rw [put_defers]; exact hd)
      have fell : ∀ e act' w',Fell s act Kp e act' w' → RegQ s0 d N K Kp e act' w' := by
        rintro e act' w' ⟨ch,s',H',rfl,hch,rfl,rfl,hx',hr',hk⟩
        exact .inr ⟨ch,rfl,hch,s',[],H',rfl,hx.trans hx',hr',⟨fun t v ht => by simp [A.get] at ht⟩,hd,hn,rfl,hk⟩
      cases r with
      | ok n w' =>
        cases n <;> simp only [Oper.upon] at hw ⊢
        case value u => exact next _ _ hw
        case skip => exact next _ _ hw
        case defer dd => exact absurd hw (by
          rintro ⟨s',x,v,H',_,_,_,h,_⟩
          have := congrArg Act.defers h
          simp only [put_defers] at this
          exact absurd this (by simp))
        case enter f args =>
          refine hw.mono fun e w'' he => ?_
          cases e with
          | returned u => exact next _ _ he
          | panicked c => exact fell _ _ _ he
          | outgrown =>
            obtain ⟨a',w3,ch,s',H',h,_⟩ := he
            cases h
        case row row args => exact hw.mono fun _ _ he => next _ _ he
      | halt x w' => cases x <;> simp only [Oper.upon] at hw ⊢; exact fell _ _ _ hw
    have skip : awOps P ms' (a.putD m.dst unitV) H K Kp → wpOps P ops (RegQ s0 d N K Kp) (List.range' (k + 1) l.length) (act.put o.dst undef) s.w := by
      intro hk
      rw [m4] at hk
      exact aw_ops l (k + 1) ms' _ H s _ hl' hms hk (by rw [put_size,hn]) hr (ha.put (fun t ht => by rw [hn]; exact m5 t ht) (.tuple [] [] .nil)) s0 d hx (by rw [put_defers]; exact hd)
    rw [List.length_cons,List.range'_succ]
    simp only [wpOps,h0]
    unfold awOps at h
    split at h
    · rename_i hg
      rw [hg] at m2
      rw [wanted_none m2,if_pos rfl]
      exact .inl (run h)
    · rename_i t w hg
      rw [hg] at m2
      obtain ⟨b,hb,h⟩ := need_elim h
      cases b <;> (try simp only at h) <;> try exact h.elim
      · rename_i b
        rw [wanted_of ha m2 hb]
        split at h
        · rename_i e
          rw [if_pos (by simpa using e)]
          exact .inl (run h)
        · rename_i e
          rw [if_neg (by simpa using e)]
          exact skip h
      · rw [wanted_tuple ha m2 hb]
        exact skip h
def onlyC (t : Nat) (o : Option V) (r : A) : A :=
  match o with
  | some v => (t,v) :: r
  | none => r
def A.only : List Nat → A → A
  | [],_ => []
  | t :: ts,a => onlyC t (a.get t) (A.only ts a)
theorem A.get_only (l : List Nat) (a : A) (t : Nat) (v : V) (h : (A.only l a).get t = some v) : a.get t = some v := by
  induction l with
  | nil => simp [A.only,A.get] at h
  | cons u l ih =>
    simp only [A.only,onlyC] at h
    split at h
    · rename_i w hw
      simp only [A.get] at h
      split at h
      · rename_i e; subst e; cases h; exact hw
      · exact ih h
    · exact ih h
def regK (lv : List Nat) (Q : AExit → A → AH → Prop) (a : A) (H : AH) : Prop := Q .normal (A.only lv a) H
def regP (Q : AExit → A → AH → Prop) (H : AH) : Prop := Q .panic [] H
theorem aw_region {P : Program} {imm : Nat → Bool} {N : Nat} {id : Nat} {ops : Array Oper} {ms : List MO} {lv : List Nat} {Q : AExit → A → AH → Prop} {a : A} {H : AH} (hm : mosOf P imm N ops ops.toList = some ms) (h : awOps P ms a H (regK lv Q) (regP Q)) : AW P N (.region id ops false) Q a H := by
  intro s act hn hr ha
  have := aw_ops (K := regK lv Q) (Kp := regP Q) ops.toList 0 ms a H s act (by simp) hm h hn hr ha s act.defers (.refl s) rfl
  rw [Array.length_toList] at this
  have conv : ∀ e act' w',RegQ s act.defers N (regK lv Q) (regP Q) e act' w' → AbsQ s act.defers N Q e act' w' := by
    rintro e act' w' (⟨rfl,s',a',H',e1,hx,hr',ha',hd,hn',k⟩ | ⟨ch,rfl,hch,h⟩)
    · exact ⟨.normal,trivial,s',_,H',e1,hx,hr',ha'.sub (A.get_only lv a'),hd,hn',k⟩
    · exact ⟨.panic,hch,h.mono (by rintro a H ⟨rfl,h⟩; exact h)⟩
  exact wp_mono (wp_region (by rw [List.range_eq_range']; exact this)) conv
end Go.Vm
