/- A region that draws its order: whatever order is drawn. -/
import Derived.Test.YtkldmgnhbomknaaGreatVmU
set_option linter.unusedVariables false
set_option linter.unusedSimpArgs false
namespace Go.Vm
inductive Dep (ops : Array Oper) (i : Nat) : Nat → Prop where
  | base (j : Nat) (o : Oper) (e : Edge) : ops[j]? = some o → e ∈ o.after → Region.binds .any e = true → e.on = i → Dep ops i j
  | step (j : Nat) (o : Oper) (e : Edge) : ops[j]? = some o → e ∈ o.after → Region.binds .any e = true → Dep ops i e.on → Dep ops i j
def maskOf (ms : List Nat) (o : Oper) : Nat := o.after.toList.foldl (fun m e => if Region.binds .any e = true then m ||| ((1 <<< e.on) ||| ms.getD e.on 0) else m) 0
def masks : List Oper → List Nat → List Nat
  | [],ms => ms
  | o :: os,ms => masks os (ms ++ [maskOf ms o])
theorem maskOf_dep {ops : Array Oper} {ms : List Nat} {o : Oper} {j i : Nat} (ho : ops[j]? = some o) (hms : ∀ k,(ms.getD k 0).testBit i = true → Dep ops i k) : (maskOf ms o).testBit i = true → Dep ops i j := by
  have key : ∀ (l : List Edge) (m : Nat),(∀ e ∈ l,e ∈ o.after) → (m.testBit i = true → Dep ops i j) → (l.foldl (fun m e => if Region.binds .any e = true then m ||| ((1 <<< e.on) ||| ms.getD e.on 0) else m) m).testBit i = true → Dep ops i j := by
    intro l
    induction l with
    | nil => intro m _ h hb; exact h hb
    | cons e l ih =>
      intro m hl h hb
      refine ih _ (fun e' he' => hl e' (by simp [he'])) ?_ hb
      intro hb2
      simp only at hb2
      split at hb2
      · rename_i hbi
        rw [Nat.testBit_or,Nat.testBit_or,Bool.or_eq_true,Bool.or_eq_true] at hb2
        rcases hb2 with hb2 | hb2 | hb2
        · exact h hb2
        · refine .base j o e ho (hl e (by simp)) hbi ?_
          rw [Nat.one_shiftLeft,Nat.testBit_two_pow] at hb2
          exact of_decide_eq_true hb2
        · exact .step j o e ho (hl e (by simp)) hbi (hms _ hb2)
      · exact h hb2
  refine key o.after.toList 0 (fun e he => by simpa using he) (fun h => by simp at h)
theorem masks_dep {ops : Array Oper} {i : Nat} : ∀ (os : List Oper) (ms : List Nat),(∀ k,os[k]? = ops[ms.length + k]?) → (∀ k,(ms.getD k 0).testBit i = true → Dep ops i k) → ∀ k,((masks os ms).getD k 0).testBit i = true → Dep ops i k
  | [],ms,_,h => h
  | o :: os,ms,ho,h => by
    have h0 : ops[ms.length]? = some o := by simpa using (ho 0).symm
    refine masks_dep os (ms ++ [maskOf ms o]) (fun k => ?_) (fun k hk => ?_)
    · have := ho (k + 1)
      simpa [Nat.add_assoc,Nat.add_comm 1 k] using this
    · rw [List.getD_eq_getElem?_getD,List.getElem?_append] at hk
      split at hk
      · exact h k (by rw [List.getD_eq_getElem?_getD]; exact hk)
      · by_cases e : k = ms.length
        · subst e
          simp only [Nat.sub_self,List.getElem?_cons_zero,Option.getD_some] at hk
          exact maskOf_dep h0 h hk
        · have : ([maskOf ms o])[k - ms.length]? = none := by simp; omega
          rw [this] at hk; simp at hk
def depM (ms : List Nat) (i j : Nat) : Bool := (ms.getD j 0).testBit i
theorem depM_dep {ops : Array Oper} {i j : Nat} (h : depM (masks ops.toList []) i j = true) : Dep ops i j :=
  masks_dep ops.toList [] (by simp) (fun k hk => by simp at hk) j h
def confB (ms : List MO) (i j : Nat) : Bool :=
  match ms[i]?,ms[j]? with
  | some mi,some mj => match mj.dst with
    | some t => mi.looks.contains t || mi.dst == some t
    | none => false
  | _,_ => false
def MOp.soft : MOp → Bool
  | .xo q _ => q.soft
  | .val _ | .zalloc _ | .box _ | .boxi _ | .build .. | .bslice .. | .s2b _ | .app .. | .scall .. | .isnil .. | .tap .. => true
  | _ => false
def VOp.free : VOp → Bool
  | .mv _ | .pick .. | .bin .. | .not _ | .ext .. | .faddr .. | .iaddr .. => true
  | _ => false
theorem vop_free {q : VOp} (h : q.free = true) (a : A) (H H' : AH) (k : V → Prop) : vop q a H k = vop q a H' k := by
  cases q <;> first | (cases h; done) | rfl
def MOp.free : MOp → Bool
  | .val q => q.free
  | _ => false
def hfreeB (ms : List MO) (i : Nat) : Bool := match ms[i]? with
  | some m => m.op.free
  | none => false
theorem qf_free {P : Program} {m : MO} {a : A} {G : AH} {v : V} (h : QF P m a G v) (hf : m.op.free = true) : ∀ a' H',Agree m.looks a a' → ∀ (k' : A → AH → Prop) Kp,k' (a'.putD m.dst v) H' → stepE P m a' H' k' Kp := by
  intro a' H' hag k' Kp hk
  have h1 := h a' G hag (AH.lec_refl G) (fun b _ => k' b H') Kp hk
  obtain ⟨d,g,op⟩ := m
  cases op with
  | val q =>
    have hq : q.free = true := hf
    have e : ∀ k2 : A → AH → Prop,mop P (.val q) a' G (fun v H2 => k2 (a'.putD d v) H') Kp = mop P (.val q) a' H' (fun v H2 => k2 (a'.putD d v) H2) Kp := fun k2 => vop_free hq a' G H' _
    cases g with
    | none =>
      simp only [stepE] at h1 ⊢
      rw [← e k']; exact h1
    | some p =>
      obtain ⟨t,w⟩ := p
      simp only [stepE] at h1 ⊢
      obtain ⟨b,hb,h1⟩ := need_elim h1
      rw [hb]
      cases b <;> (try simp only [need_some] at h1 ⊢) <;> try exact h1.elim
      · split at h1
        · rename_i e2; rw [if_pos e2,← e k']; exact h1
        · rename_i e2; rw [if_neg e2]; exact h1
      · exact h1
  | _ => cases hf
def moD : MO := ⟨none,none,.val (.mv (.t 0))⟩
def ixs (c : Nat → Nat) (x n : Nat) : List Nat := (List.range n).filter (fun i => c i == x)
def tixs (c : Nat → Nat) (n : Nat) : List Nat := (List.range n).filter (fun i => decide (2 ≤ c i))
def toS (c : Nat) (m : MO) : MO := match c,m.op with
  | 3,.call f xs => ⟨m.dst,m.g,.scall f xs⟩
  | _,_ => m
def tailc (c : Nat → Nat) (ms : List MO) : List MO := (tixs c ms.length).map (fun i => toS (c i) (ms.getD i moD))
theorem toS_dst (c : Nat) (m : MO) : (toS c m).dst = m.dst := by unfold toS; split <;> rfl
theorem toS_looks (c : Nat) (m : MO) : (toS c m).looks = m.looks := by
  unfold toS; split
  · rename_i h; simp only [MO.looks,h,MOp.tmps]
  · rfl
def selc (c : Nat → Nat) (x : Nat) (ms : List MO) : List MO := (ixs c x ms.length).map (fun i => ms.getD i moD)
def drawOkM (ch : Bool) (dm : List Nat) (ops : Array Oper) (ms : List MO) (c : Nat → Nat) : Bool :=
  (List.range ops.size).all fun j =>
    decide (c j ≤ 4) &&
    (match ops[j]? with | some o => o.after.all (fun e => !Region.binds .any e || decide (e.on < j)) | none => true) &&
    (match ms[j]? with | some m => if c j = 1 then (match m.dst,m.g,m.op with | some _,none,.zalloc _ => true | _,_,_ => false) else true | none => true) &&
    (List.range ops.size).all fun i =>
      if c i = 0 ∧ c j = 0 then i == j || !confB ms i j || (if j < i then depM dm j i else depM dm i j)
      else if 2 ≤ c i ∧ 2 ≤ c j then !ch || (i == j || decide (j < i) || depM dm i j)
      else if c i = 1 ∧ 2 ≤ c j then depM dm i j
      else if c i = 0 ∧ 2 ≤ c j then !(confB ms i j || confB ms j i || (!(toS (c j) (ms.getD j moD)).op.soft && !(c j == 4) && !hfreeB ms i)) || depM dm i j
      else if c i = 1 ∧ c j ≤ 1 then i == j || !confB ms j i
      else true
def drawOk (ops : Array Oper) (ms : List MO) (c : Nat → Nat) : Bool := drawOkM true (masks ops.toList []) ops ms c
def drawOkT (ops : Array Oper) (ms : List MO) (c : Nat → Nat) : Bool := drawOkM false (masks ops.toList []) ops ms c
structure DrawOk (ops : Array Oper) (ms : List MO) (c : Nat → Nat) : Prop where
  cls : ∀ j,j < ops.size → c j ≤ 4
  back : ∀ j o,ops[j]? = some o → ∀ e ∈ o.after,Region.binds .any e = true → e.on < j
  al : ∀ j m,j < ops.size → ms[j]? = some m → c j = 1 → ∃ t cs,m = ⟨some t,none,.zalloc cs⟩
  conf : ∀ i j,c i = 0 → c j = 0 → i < ops.size → j < ops.size → i ≠ j → confB ms i j = true → (j < i → Dep ops j i) ∧ (i < j → Dep ops i j)
  before : ∀ i j,c i = 1 → 2 ≤ c j → i < ops.size → j < ops.size → Dep ops i j
  qt : ∀ i j,c i = 0 → 2 ≤ c j → i < ops.size → j < ops.size → (confB ms i j = true ∨ confB ms j i = true ∨ ((toS (c j) (ms.getD j moD)).op.soft = false ∧ c j ≠ 4 ∧ hfreeB ms i = false)) → Dep ops i j
  aq : ∀ i j,c i = 1 → c j ≤ 1 → i < ops.size → j < ops.size → i ≠ j → confB ms j i = false
theorem drawOkM_spec {ch : Bool} {ops : Array Oper} {ms : List MO} {c : Nat → Nat} (h : drawOkM ch (masks ops.toList []) ops ms c = true) : DrawOk ops ms c ∧ (ch = true → ∀ i j,2 ≤ c i → 2 ≤ c j → i < j → j < ops.size → Dep ops i j) := by
  simp only [drawOkM,List.all_eq_true,List.mem_range,Bool.and_eq_true,decide_eq_true_eq] at h
  have lt_of : ∀ {j : Nat} {o : Oper},ops[j]? = some o → j < ops.size := by
    intro j o hj
    by_cases hl : j < ops.size
    · exact hl
    · rw [Array.getElem?_eq_none (by omega)] at hj; cases hj
  refine ⟨⟨fun j hj => (h j hj).1.1.1,fun j o hj e he hb => ?_,fun j m hj hm hc => ?_,fun i j hi hj hi' hj' hne hc => ?_,fun i j hi hj hi' hj' => ?_,fun i j hi hj hi' hj' hc => ?_,fun i j hi hj hi' hj' hne => ?_⟩,fun hch => ?_⟩
  · have := (h j (lt_of hj)).1.1.2
    rw [hj] at this
    simp only [Array.all_eq_true'] at this
    have := this e he
    simpa [hb] using this
  · have := (h j hj).1.2
    rw [hm] at this
    simp only [hc,if_true] at this
    obtain ⟨d,g,op⟩ := m
    cases d <;> cases g <;> cases op <;> simp only at this <;> first | cases this; done | exact ⟨_,_,rfl⟩
  · have := (h j hj').2 i hi'
    rw [if_pos ⟨hi,hj⟩] at this
    simp only [hc,Bool.or_eq_true,beq_iff_eq,hne,false_or,Bool.not_true] at this
    constructor
    · intro hlt; exact depM_dep (by simpa [hlt] using this)
    · intro hlt; have hn : ¬ j < i := by omega
      exact depM_dep (by simpa [hn] using this)
  · have := (h j hj').2 i hi'
    rw [if_neg (by omega),if_neg (by omega),if_pos ⟨hi,hj⟩] at this
    exact depM_dep this
  · have := (h j hj').2 i hi'
    rw [if_neg (by omega),if_neg (by omega),if_neg (by omega),if_pos ⟨hi,hj⟩] at this
    simp only [Bool.or_eq_true,Bool.not_eq_true',Bool.or_eq_false_iff] at this
    rcases this with h1 | h1
    · rcases hc with hc | hc | hc
      · rw [h1.1.1] at hc; cases hc
      · rw [h1.1.2] at hc; cases hc
      · have := h1.2; rw [hc.1,hc.2.2] at this; simp [hc.2.1] at this
    · exact depM_dep h1
  · have := (h j hj').2 i hi'
    rw [if_neg (by omega),if_neg (by omega),if_neg (by omega),if_neg (by omega),if_pos ⟨hi,hj⟩] at this
    simp only [Bool.or_eq_true,beq_iff_eq,hne,false_or,Bool.not_eq_true'] at this
    exact this
  · intro i j hi hj hij hj'
    have := (h j hj').2 i (by omega)
    rw [if_neg (by omega),if_pos ⟨hi,hj⟩] at this
    simp only [hch,Bool.not_true,Bool.false_or,Bool.or_eq_true,beq_iff_eq,decide_eq_true_eq] at this
    rcases this with (h1 | h1) | h1
    · omega
    · omega
    · exact depM_dep h1
def Closed (ops : Array Oper) (listed : Array Bool) : Prop :=
  ∀ j o,ops[j]? = some o → listed.getD j false = true → ∀ e ∈ o.after,Region.binds .any e = true → listed.getD e.on false = true
theorem dep_listed {ops : Array Oper} {listed : Array Bool} (hc : Closed ops listed) (i j : Nat) (h : Dep ops i j) : (∀ o,ops[j]? = some o → ∀ e ∈ o.after,Region.binds .any e = true → listed.getD e.on false = true) → listed.getD i false = true := by
  induction h with
  | base j o e ho he hb heq => intro hj; rw [← heq]; exact hj o ho e he hb
  | step j o e ho he hb _ ih =>
    intro hj
    have hl := hj o ho e he hb
    exact ih (fun o' ho' => hc e.on o' ho' hl)
def cntN (listed : Array Bool) : Nat → Nat
  | 0 => 0
  | n + 1 => cntN listed n + if listed.getD n true = false then 1 else 0
theorem cnt_set {listed : Array Bool} {i : Nat} (hi : listed.getD i true = false) : ∀ n,cntN (listed.setIfInBounds i true) n + (if i < n then 1 else 0) = cntN listed n
  | 0 => by simp [cntN]
  | n + 1 => by
    have hlt : i < listed.size := by
      by_cases h : i < listed.size
      · exact h
      · simp [Array.getElem?_eq_none (Nat.le_of_not_lt h)] at hi
    have ih := cnt_set hi n
    simp only [cntN]
    by_cases e : i = n
    · subst e
      have h1 : (listed.setIfInBounds i true).getD i true = true := by simp [hlt]
      rw [if_neg (by omega)] at ih
      rw [if_neg (by rw [h1]; simp),if_pos hi,if_pos (by omega)]
      omega
    · rw [getD_set_ne true e]
      generalize (if listed.getD n true = false then 1 else 0) = c
      by_cases h2 : i < n
      · rw [if_pos h2] at ih; rw [if_pos (by omega)]; omega
      · rw [if_neg h2] at ih; rw [if_neg (by omega)]; omega
theorem cnt_pos {listed : Array Bool} {i n : Nat} (hi : listed.getD i true = false) (h : i < n) : 0 < cntN listed n := by
  have := cnt_set hi n
  rw [if_pos h] at this
  omega
theorem getD_iff {listed : Array Bool} {j : Nat} (h : j < listed.size) : listed.getD j true = listed.getD j false := by simp [h]
theorem min_ready {ops : Array Oper} {listed : Array Bool} (hs : listed.size = ops.size) (hb : ∀ j o,ops[j]? = some o → ∀ e ∈ o.after,Region.binds .any e = true → e.on < j) : ∀ (k : Nat),k < ops.size → listed.getD k true = false → ∃ i,i ∈ Region.ready .any ops listed := by
  intro k
  induction k using Nat.strongRecOn with
  | _ k ih =>
    intro hk hu
    by_cases h : ∃ j,j < k ∧ listed.getD j true = false
    · obtain ⟨j,hj,hju⟩ := h
      exact ih j hj (by omega) hju
    · refine ⟨k,mem_ready.2 ⟨hu,_,Array.getElem?_eq_getElem hk,fun e he hbd => ?_⟩⟩
      have hlt := hb k _ (Array.getElem?_eq_getElem hk) e he hbd
      have : ¬ listed.getD e.on true = false := fun h' => h ⟨e.on,hlt,h'⟩
      rw [getD_iff (by omega)] at this
      simpa using this
def buildA : List MO → List V → Nat → (Nat → Bool) → A → A
  | m :: ms,v :: vs,k,L,a => buildA ms vs (k + 1) L (if L k = true then a.putD m.dst v else a)
  | _,_,_,_,a => a
theorem buildA_get (L : Nat → Bool) (t : Nat) : ∀ (ms : List MO) (vs : List V) (k : Nat) (a : A),(buildA ms vs k L a).get t = lookV ms vs k L t (a.get t)
  | [],_,_,_ => rfl
  | _ :: _,[],_,_ => rfl
  | m :: ms,v :: vs,k,a => by
    simp only [buildA,lookV]
    rw [buildA_get L t ms vs (k + 1)]
    congr 1
    by_cases h : L k = true
    · simp [h,putD_get]
    · simp [h]
section
variable {P : Program} {imm : Nat → Bool} {N : Nat} {ops : Array Oper} {ms : List MO} {c : Nat → Nat} {K : A → AH → Prop} {Kp : AH → Prop}
theorem mosOf_get : ∀ {os : List Oper} {ms : List MO},mosOf P imm N ops os = some ms → os.length = ms.length ∧ ∀ (i : Nat) o,os[i]? = some o → ∃ m,ms[i]? = some m ∧ moOf P imm N ops o = some m
  | [],ms,h => by cases h; exact ⟨rfl,fun i o h => by simp at h⟩
  | o :: os,ms,h => by
    simp only [mosOf] at h
    split at h
    · rename_i m ms' h1 h2
      cases h
      obtain ⟨k1,k2⟩ := mosOf_get h2
      refine ⟨by simp [k1],fun i o' h => ?_⟩
      cases i with
      | zero => simp at h; subst h; exact ⟨m,rfl,h1⟩
      | succ i => simpa using k2 i o' (by simpa using h)
    · cases h
end
/-! ### Puts, one behind the other -/
def pput : List (Option Nat × V) → A → A
  | [],a => a
  | p :: ps,a => pput ps (a.putD p.1 p.2)
def plook (t : Nat) : List (Option Nat × V) → Option V → Option V
  | [],d => d
  | p :: ps,d => plook t ps (if p.1 = some t then some p.2 else d)
theorem pput_get (t : Nat) : ∀ (ps : List (Option Nat × V)) (a : A),(pput ps a).get t = plook t ps (a.get t)
  | [],_ => rfl
  | p :: ps,a => by simp only [pput,plook,pput_get t ps,putD_get]
theorem plook_none (t : Nat) : ∀ (ps : List (Option Nat × V)) (d : Option V),(∀ p ∈ ps,p.1 ≠ some t) → plook t ps d = d
  | [],_,_ => rfl
  | p :: ps,d,h => by
    simp only [plook]
    rw [if_neg (h p (by simp)),plook_none t ps d (fun q hq => h q (by simp [hq]))]
theorem plook_some (t : Nat) : ∀ (ps : List (Option Nat × V)) (d d' : Option V),(∃ p ∈ ps,p.1 = some t) → plook t ps d = plook t ps d'
  | [],_,_,h => by obtain ⟨p,hp,_⟩ := h; simp at hp
  | p :: ps,d,d',h => by
    simp only [plook]
    by_cases e : p.1 = some t
    · rw [if_pos e,if_pos e]
    · rw [if_neg e,if_neg e]
      refine plook_some t ps d d' ?_
      obtain ⟨q,hq,hqe⟩ := h
      rcases List.mem_cons.1 hq with rfl | hq
      · exact absurd hqe e
      · exact ⟨q,hq,hqe⟩
theorem pput_append (ps qs : List (Option Nat × V)) : ∀ (a : A),pput (ps ++ qs) a = pput qs (pput ps a) := by
  induction ps with
  | nil => intro a; rfl
  | cons p ps ih => intro a; simp only [List.cons_append,pput,ih]
/-! ### New cells -/
def cellsAt (ms : List MO) (i : Nat) : List V := match (ms.getD i moD).op with | .zalloc cs => cs | _ => []
def hA (ms : List MO) (H : AH) (ai : List Nat) (σ : Nat → Option Nat) : AH := fun x => match ai.find? (fun i => σ i == some x) with
  | some i => some (.cells (cellsAt ms i))
  | none => H x
def putsA (ms : List MO) (ai : List Nat) (σ : Nat → Option Nat) : List (Option Nat × V) := ai.filterMap fun i => (σ i).map fun k => ((ms.getD i moD).dst,V.ptr k 0)
theorem hA_none {ms : List MO} {H : AH} {ai : List Nat} {σ : Nat → Option Nat} {k : Nat} (h : hA ms H ai σ k = none) : H k = none ∧ ∀ i ∈ ai,σ i ≠ some k := by
  unfold hA at h
  split at h
  · cases h
  · rename_i h1
    refine ⟨h,fun i hi e => ?_⟩
    have := List.find?_eq_none.1 h1 i hi
    simp [e] at this
theorem hA_le {ms : List MO} {H : AH} {ai : List Nat} {σ : Nat → Option Nat} (h : ∀ i ∈ ai,∀ k,σ i = some k → H k = none) : H.le (hA ms H ai σ) := by
  intro k o hk
  unfold hA
  split
  · rename_i i hi
    have h1 := List.mem_of_find?_eq_some hi
    have h2 : σ i = some k := by simpa using List.find?_some hi
    rw [h i h1 k h2] at hk; cases hk
  · exact hk
theorem hA_set {ms : List MO} {H : AH} {ai : List Nat} {σ : Nat → Option Nat} {i k : Nat} (hi : i ∈ ai) (hs : σ i = none) (hk : ∀ j ∈ ai,σ j ≠ some k) : hA ms H ai (fun x => if x = i then some k else σ x) = (hA ms H ai σ).put k (.cells (cellsAt ms i)) := by
  funext x
  by_cases e : x = k
  · subst e
    rw [AH.put_same]
    unfold hA
    have : ai.find? (fun j => (if j = i then some x else σ j) == some x) = some i := by
      have hex : (ai.find? (fun j => (if j = i then some x else σ j) == some x)).isSome := by
        rw [List.find?_isSome]; exact ⟨i,hi,by simp⟩
      obtain ⟨j,hj⟩ := Option.isSome_iff_exists.1 hex
      have h1 := List.mem_of_find?_eq_some hj
      have h2 := List.find?_some hj
      by_cases e : j = i
      · rw [hj,e]
      · rw [if_neg e] at h2
        exact absurd (by simpa using h2) (hk j h1)
    rw [this]
  · rw [AH.put_ne _ _ e]
    unfold hA
    have : (fun j => (if j = i then some k else σ j) == some x) = (fun j => σ j == some x) := by
      funext j
      by_cases ej : j = i
      · subst ej; rw [if_pos rfl,hs]; simp [Ne.symm e]
      · rw [if_neg ej]
    rw [this]
theorem hA_cons {ms : List MO} {H : AH} {i k : Nat} {is : List Nat} {σ : Nat → Option Nat} (hs : σ i = some k) (hk : ∀ j ∈ is,σ j ≠ some k) : hA ms H (i :: is) σ = hA ms (H.put k (.cells (cellsAt ms i))) is σ := by
  funext x
  unfold hA
  by_cases e : x = k
  · subst e
    have h1 : (i :: is).find? (fun j => σ j == some x) = some i := by simp [hs]
    have h2 : is.find? (fun j => σ j == some x) = none := by
      rw [List.find?_eq_none]; intro j hj; simpa using hk j hj
    rw [h1,h2,AH.put_same]
  · have h1 : (i :: is).find? (fun j => σ j == some x) = is.find? (fun j => σ j == some x) := by
      rw [List.find?_cons_of_neg]; simp [hs,Ne.symm e]
    rw [h1,AH.put_ne _ _ e]
def chkG (g : Option AH) (m : MOp) (H' : AH) : Prop := match g with
  | none => True
  | some G => m.soft = false → G.lec H'
def awOpsG (P : Program) (g : Option AH) : List MO → A → AH → (A → AH → Prop) → (AH → Prop) → Prop
  | [],a,H,K,_ => K a H
  | m :: ms,a,H,K,Kp => stepE P m a H (fun a' H' => chkG g m.op H' ∧ awOpsG P g ms a' H' K Kp) Kp
theorem awOpsG_none {P : Program} {K : A → AH → Prop} {Kp : AH → Prop} : ∀ (ms : List MO) (a : A) (H : AH),awOpsG P none ms a H K Kp = awOps P ms a H K Kp
  | [],_,_ => rfl
  | m :: ms,a,H => by
    have e : (fun a' H' => chkG none m.op H' ∧ awOpsG P none ms a' H' K Kp) = fun a' H' => awOps P ms a' H' K Kp := by
      funext a' H'; rw [awOpsG_none ms a' H']; simp [chkG]
    rw [awOpsG,e]; rfl
theorem awOpsG_allocs {P : Program} {g : Option AH} {ms : List MO} {σ : Nat → Option Nat} {rest : List MO} {K : A → AH → Prop} {Kp : AH → Prop} : ∀ (ai : List Nat) (a : A) (H : AH),(∀ i ∈ ai,∃ t cs,ms.getD i moD = ⟨some t,none,.zalloc cs⟩) → (∀ i ∈ ai,∃ k,σ i = some k ∧ H k = none) → ai.Pairwise (fun i j => σ i ≠ σ j) →
    awOpsG P g (ai.map (fun i => ms.getD i moD) ++ rest) a H K Kp → awOpsG P g rest (pput (putsA ms ai σ) a) (hA ms H ai σ) K Kp
  | [],a,H,_,_,_,h => by
    have : hA ms H [] σ = H := by funext x; rfl
    rw [this]; exact h
  | i :: is,a,H,hal,hs,hp,h => by
    obtain ⟨t,cs,hm⟩ := hal i (by simp)
    obtain ⟨k,hk,hn⟩ := hs i (by simp)
    simp only [List.pairwise_cons] at hp
    simp only [List.map_cons,List.cons_append,hm,awOpsG,stepE,mop] at h
    have h' := (h k hn).2
    have hcs : cellsAt ms i = cs := by simp only [cellsAt,hm]
    have hne : ∀ j ∈ is,σ j ≠ some k := fun j hj e => hp.1 j hj (by rw [hk,e])
    rw [hA_cons hk hne,hcs]
    have hput : pput (putsA ms (i :: is) σ) a = pput (putsA ms is σ) (a.putD (some t) (.ptr k 0)) := by
      simp only [putsA,List.filterMap_cons,hk,Option.map_some,hm,pput]
    rw [hput]
    refine awOpsG_allocs is _ _ (fun j hj => hal j (by simp [hj])) (fun j hj => ?_) hp.2 h'
    obtain ⟨k',h1,h2⟩ := hs j (by simp [hj])
    refine ⟨k',h1,?_⟩
    rw [AH.put_ne _ _ (fun e => hne j hj (by rw [h1,e]))]
    exact h2
theorem putsA_set {ms : List MO} {i k t t0 : Nat} : ∀ (ai : List Nat) (σ : Nat → Option Nat) (d : Option V),ai.Nodup → i ∈ ai → σ i = none → (ms.getD i moD).dst = some t0 → (∀ j ∈ ai,j ≠ i → (ms.getD j moD).dst ≠ some t0) →
    plook t (putsA ms ai (fun x => if x = i then some k else σ x)) d = if t0 = t then some (.ptr k 0) else plook t (putsA ms ai σ) d
  | [],_,_,_,hi,_,_,_ => by simp at hi
  | j :: js,σ,d,hnd,hi,hs,hd,hne => by
    simp only [List.nodup_cons] at hnd
    have same : ∀ l : List Nat,i ∉ l → putsA ms l (fun x => if x = i then some k else σ x) = putsA ms l σ := by
      intro l hl
      unfold putsA
      clear hd hne hs hnd hi
      induction l with
      | nil => rfl
      | cons x l ih =>
        have hx : x ≠ i := fun e => hl (by simp [e])
        simp only [List.filterMap_cons,if_neg hx]
        rw [ih (fun h => hl (by simp [h]))]
    by_cases e : j = i
    · subst e
      have e1 : putsA ms (j :: js) (fun x => if x = j then some k else σ x) = ((ms.getD j moD).dst,V.ptr k 0) :: putsA ms js σ := by
        rw [← same js hnd.1]; simp [putsA]
      have e2 : putsA ms (j :: js) σ = putsA ms js σ := by simp [putsA,hs]
      rw [e1,e2]
      simp only [plook,hd,Option.some.injEq]
      by_cases et : t0 = t
      · rw [if_pos et,if_pos et]
        refine plook_none t _ _ (fun p hp => ?_)
        simp only [putsA,List.mem_filterMap,Option.map_eq_some_iff] at hp
        obtain ⟨x,hx,k',_,rfl⟩ := hp
        rw [← et]
        exact hne x (by simp [hx]) (fun e => hnd.1 (by rw [← e]; exact hx))
      · rw [if_neg et,if_neg et]
    · have hi' : i ∈ js := by rcases List.mem_cons.1 hi with rfl | h; exact absurd rfl e; exact h
      have ih := fun d => putsA_set (k := k) (t := t) js σ d hnd.2 hi' hs hd (fun x hx => hne x (by simp [hx]))
      cases hj : σ j with
      | none =>
        have e1 : putsA ms (j :: js) (fun x => if x = i then some k else σ x) = putsA ms js (fun x => if x = i then some k else σ x) := by simp [putsA,e,hj]
        have e2 : putsA ms (j :: js) σ = putsA ms js σ := by simp [putsA,hj]
        rw [e1,e2]; exact ih d
      | some k' =>
        have e1 : putsA ms (j :: js) (fun x => if x = i then some k else σ x) = ((ms.getD j moD).dst,V.ptr k' 0) :: putsA ms js (fun x => if x = i then some k else σ x) := by simp [putsA,e,hj]
        have e2 : putsA ms (j :: js) σ = ((ms.getD j moD).dst,V.ptr k' 0) :: putsA ms js σ := by simp [putsA,hj]
        rw [e1,e2]
        simp only [plook]
        exact ih _
/-! ### What is asked behind an operation may be weakened -/
theorem xsem_mono {q : XOp} {vs : List V} {H : AH} {k k2 : V → AH → Prop} (h : xsem q H vs k) (hk : ∀ v H',(q.soft = true → H.lec H') → k v H' → k2 v H') : xsem q H vs k2 := by
  unfold xsem at h ⊢
  split at h
  · obtain ⟨fs,hf,h⟩ := need_elim h
    simp only [hf,need_some]
    have core : ∀ sz b es u,appmK H sz b es fs u k → appmK H sz b es fs u k2 := fun sz b es u ⟨h1,h2⟩ => ⟨fun e => hk _ _ (fun _ => AH.lec_refl H) (h1 e),fun e => ⟨(h2 e).1,fun i hi => hk _ _ (fun _ => AH.lec_put (AH.lec_refl H) hi _) ((h2 e).2 i hi)⟩⟩
    unfold vappm at h ⊢
    split at h
    · exact core _ _ _ _ h
    · exact ⟨h.1,core _ _ _ _ h.2⟩
    · exact h.elim
  · exact fun i hi => hk _ _ (fun _ => AH.lec_put (AH.lec_refl H) hi _) (h i hi)
  · exact fun i hi => hk _ _ (fun _ => AH.lec_put (AH.lec_refl H) hi _) (h i hi)
  · obtain ⟨fs,hf,h⟩ := need_elim h
    simp only [hf,need_some]
    unfold vappg at h ⊢
    split at h
    · exact ⟨h.1,fun i hi => hk _ _ (fun e => by simp [XOp.soft] at e) (h.2 i hi)⟩
    · obtain ⟨o,ho,h⟩ := need_elim h
      simp only [ho,need_some]
      cases o <;> simp only at h ⊢ <;> try exact h.elim
      exact ⟨h.1,hk _ _ (fun e => by simp [XOp.soft] at e) h.2⟩
    · exact h.elim
  · exact fun i hi => hk _ _ (fun _ => AH.lec_put (AH.lec_refl H) hi _) (h i hi)
  · obtain ⟨o,ho,h⟩ := need_elim h
    simp only [ho,need_some]
    cases o <;> simp only at h ⊢ <;> try exact h.elim
    obtain ⟨r,hr,h⟩ := need_elim h
    simp only [hr,need_some]
    exact hk _ _ (fun e => by simp [XOp.soft] at e) h
  · obtain ⟨o,ho,h⟩ := need_elim h
    simp only [ho,need_some]
    cases o <;> simp only at h ⊢ <;> try exact h.elim
    obtain ⟨r,hr,h⟩ := need_elim h
    simp only [hr,need_some]
    exact hk _ _ (fun e => by simp [XOp.soft] at e) h
  · exact fun i hi => hk _ _ (fun e => by simp [XOp.soft] at e) (h i hi)
  · obtain ⟨o,ho,h⟩ := need_elim h
    simp only [ho,need_some]
    cases o <;> simp only at h ⊢ <;> try exact h.elim
    exact fun i hi => hk _ _ (fun e => by simp [XOp.soft] at e) (h i hi)
  · exact fun i hi => hk _ _ (fun e => by simp [XOp.soft] at e) (h i hi)
  · obtain ⟨o,ho,h⟩ := need_elim h
    simp only [ho,need_some]
    cases o <;> simp only at h ⊢ <;> try exact h.elim
    case iterv left cur => exact ⟨fun e => hk _ _ (fun e => by simp [XOp.soft] at e) (h.1 e),fun l1 kv l2 e => hk _ _ (fun e => by simp [XOp.soft] at e) (h.2 l1 kv l2 e)⟩
    rename_i m
    cases m with
    | none => exact hk _ _ (fun e => by simp [XOp.soft] at e) h
    | some i =>
      simp only at h ⊢
      obtain ⟨p,hp,h⟩ := need_elim h
      simp only [hp,need_some]
      cases p <;> simp only at h ⊢ <;> try exact h.elim
      exact ⟨h.1,fun e => hk _ _ (fun e => by simp [XOp.soft] at e) (h.2.1 e),fun l1 kv l2 e => hk _ _ (fun e => by simp [XOp.soft] at e) (h.2.2 l1 kv l2 e)⟩
  · exact h.elim
theorem mop_mono {P : Program} {m : MOp} {a : A} {H : AH} {k k2 : V → AH → Prop} {kp : AH → Prop} (h : mop P m a H k kp) (hk : ∀ v H',(m.soft = true → H.lec H') → k v H' → k2 v H') : mop P m a H k2 kp := by
  cases m with
  | val q =>
    obtain ⟨v,h1,h2⟩ := vop_fun h
    exact h2 H (AH.lec_refl H) (fun v => k2 v H) (hk v H (fun _ => AH.lec_refl H) h1)
  | xo q xs =>
    obtain ⟨vs,hv,h⟩ := need_elim h
    simp only [mop,hv,need_some]
    exact xsem_mono h hk
  | zalloc cs => exact fun i hi => hk _ _ (fun _ => AH.lec_put (AH.lec_refl H) hi _) (h i hi)
  | box x =>
    obtain ⟨v,hv,h1,h2⟩ := need_elim h
    simp only [mop,hv,need_some]
    exact ⟨h1,fun i hi => hk _ _ (fun _ => AH.lec_put (AH.lec_refl H) hi _) (h2 i hi)⟩
  | boxi x =>
    obtain ⟨v,hv,h1,h2⟩ := need_elim h
    simp only [mop,hv,need_some]
    exact ⟨h1,hk _ _ (fun _ => AH.lec_refl H) h2⟩
  | build z ps =>
    obtain ⟨v,hv,h2⟩ := need_elim h
    simp only [mop,hv,need_some]
    exact hk _ _ (fun _ => AH.lec_refl H) h2
  | bslice sz n z ps =>
    obtain ⟨v,hv,h2⟩ := need_elim h
    simp only [mop,hv,need_some]
    exact hk _ _ (fun _ => AH.lec_refl H) h2
  | store sz x y =>
    obtain ⟨v,hv,h⟩ := need_elim h
    simp only [mop,hv,need_some]
    cases v <;> (try simp only at h ⊢) <;> try exact h.elim
    obtain ⟨u,hu,h⟩ := need_elim h
    obtain ⟨ob,hob,h⟩ := need_elim h
    simp only [hu,need_some,hob]
    cases ob <;> (try simp only at h ⊢) <;> try exact h.elim
    exact ⟨h.1,hk _ _ (fun e => by simp [MOp.soft] at e) h.2⟩
  | s2b x =>
    obtain ⟨v,hv,h⟩ := need_elim h
    simp only [mop,hv,need_some]
    cases v <;> (try simp only at h ⊢) <;> try exact h.elim
    exact hk _ _ (fun _ => AH.lec_refl H) h
  | app sz b x y =>
    obtain ⟨u,hu,h⟩ := need_elim h
    obtain ⟨v,hv,h⟩ := need_elim h
    obtain ⟨fs,hf,h⟩ := need_elim h
    simp only [mop,hu,hv,hf,need_some]
    cases u with
    | nilSl => simp only [vapp] at h ⊢; exact ⟨h.1,fun i hi => hk _ _ (fun _ => AH.lec_put (AH.lec_refl H) hi _) (h.2 i hi)⟩
    | sl z es t =>
      cases t with
      | no => exact h.elim
      | tight => simp only [vapp] at h ⊢; exact ⟨h.1,fun i hi => hk _ _ (fun _ => AH.lec_put (AH.lec_refl H) hi _) (h.2 i hi)⟩
      | id i =>
        simp only [vapp] at h ⊢
        obtain ⟨ob,hob,h⟩ := need_elim h
        simp only [hob,need_some]
        cases ob with
        | top y n => exact ⟨h.1,hk _ _ (fun _ => AH.lec_put_top (AH.lec_refl H) hob _) h.2⟩
        | _ => exact h.elim
    | _ => exact h.elim
  | call f xs =>
    obtain ⟨vs,hv,h⟩ := need_elim h
    simp only [mop,hv,need_some]
    exact h.mono fun o H' ho => by
      cases o with
      | ret v => exact hk _ _ (fun e => by simp [MOp.soft] at e) ho
      | pan => exact ho
  | tap t x =>
    obtain ⟨v,hv,h⟩ := need_elim h
    simp only [mop,hv,need_some]
    cases v <;> simp only [tapK] at h ⊢ <;> try exact h
    split
    · rename_i e; rw [if_pos e] at h; exact hk _ _ (fun _ => AH.lec_refl H) h
    · rename_i e; rw [if_neg e] at h; exact h
  | isnil neg x =>
    obtain ⟨v,hv,h⟩ := need_elim h
    simp only [mop,hv,need_some]
    cases v with
    | nilSl => exact hk _ _ (fun _ => AH.lec_refl H) h
    | sl z es t =>
      cases es with
      | nil => exact ⟨hk _ _ (fun _ => AH.lec_refl H) h.1,hk _ _ (fun _ => AH.lec_refl H) h.2⟩
      | cons c es => exact hk _ _ (fun _ => AH.lec_refl H) h
    | msl => exact hk _ _ (fun _ => AH.lec_refl H) h
    | _ => exact h.elim
  | scall f xs =>
    obtain ⟨vs,hv,h⟩ := need_elim h
    simp only [mop,hv,need_some]
    exact h.mono fun o H' ho => by
      cases o with
      | ret v => exact ⟨ho.1,hk _ _ (fun _ => ho.1) ho.2⟩
      | pan => exact ho
  | callv x xs =>
    obtain ⟨v,hv,h⟩ := need_elim h
    simp only [mop,hv,need_some]
    cases v <;> (try simp only at h ⊢) <;> try exact h.elim
    rename_i fn _ _
    cases fn <;> (try simp only at h ⊢) <;> try exact h.elim
    obtain ⟨vs,hvs,h1,h2⟩ := need_elim h
    simp only [hvs,need_some]
    refine ⟨h1,h2.mono fun o H' ho => ?_⟩
    cases o with
    | ret v => exact hk _ _ (fun e => by simp [MOp.soft] at e) ho
    | pan => exact ho
theorem stepE_lift {P : Program} {m : MO} {a a' : A} {H : AH} {k k2 : A → AH → Prop} {kp : AH → Prop} (hag : Agree m.looks a a') (h : stepE P m a H k kp) (hk : ∀ v H',(m.op.soft = true → H.lec H') → k (a.putD m.dst v) H' → k2 (a'.putD m.dst v) H') : stepE P m a' H k2 kp := by
  obtain ⟨d,g,op⟩ := m
  have go : mop P op a H (fun v H' => k (a.putD d v) H') kp → mop P op a' H (fun v H' => k2 (a'.putD d v) H') kp := by
    intro h
    rw [mop_congr (fun t ht => hag t (by simp [MO.looks,ht]))]
    exact mop_mono h fun v H' h1 h2 => hk v H' h1 h2
  cases g with
  | none => exact go h
  | some p =>
    obtain ⟨t,w⟩ := p
    simp only [stepE] at h ⊢
    rw [hag t (by simp [MO.looks])]
    obtain ⟨b,hb,h⟩ := need_elim h
    rw [hb]
    cases b <;> (try simp only [need_some] at h ⊢) <;> try exact h.elim
    · split at h
      · rename_i e; rw [if_pos e]; exact go h
      · rename_i e; rw [if_neg e]; exact hk _ _ (fun _ => AH.lec_refl H) h
    · exact hk _ _ (fun _ => AH.lec_refl H) h
theorem stepE_toS {P : Program} {c : Nat} {m : MO} {a : A} {H : AH} {k : A → AH → Prop} {kp : AH → Prop} (h : stepE P (toS c m) a H k kp) : stepE P m a H k kp := by
  obtain ⟨d,g,op⟩ := m
  unfold toS at h
  split at h
  · rename_i f xs hop
    simp only at hop
    subst hop
    have go : mop P (.scall f xs) a H (fun v H' => k (a.putD d v) H') kp → mop P (.call f xs) a H (fun v H' => k (a.putD d v) H') kp := by
      intro h
      obtain ⟨vs,hv,h⟩ := need_elim h
      simp only [mop,hv,need_some]
      exact h.mono fun o H' ho => by
        cases o with
        | ret v => exact ho.2
        | pan => exact ho
    cases g with
    | none => exact go h
    | some p =>
      obtain ⟨t,w⟩ := p
      simp only [stepE] at h ⊢
      obtain ⟨b,hb,h⟩ := need_elim h
      rw [hb]
      cases b <;> (try simp only [need_some] at h ⊢) <;> try exact h.elim
      · split at h
        · rename_i e; rw [if_pos e]; exact go h
        · rename_i e; rw [if_neg e]; exact h
      · exact h
  · exact h
theorem confB_of {ms : List MO} {i j : Nat} {mi mj : MO} {t : Nat} (hi : ms[i]? = some mi) (hj : ms[j]? = some mj) (hd : mj.dst = some t) (h : t ∈ mi.looks ∨ mi.dst = some t) : confB ms i j = true := by
  simp only [confB,hi,hj,hd]
  rcases h with h | h <;> simp [h]
theorem mem_ixs {c : Nat → Nat} {x n i : Nat} : i ∈ ixs c x n ↔ i < n ∧ c i = x := by simp [ixs]
theorem mem_tixs {c : Nat → Nat} {n i : Nat} : i ∈ tixs c n ↔ i < n ∧ 2 ≤ c i := by simp [tixs]
theorem tixs_lt (c : Nat → Nat) (n : Nat) : (tixs c n).Pairwise (· < ·) := List.Pairwise.filter _ List.pairwise_lt_range
theorem ixs_lt (c : Nat → Nat) (x n : Nat) : (ixs c x n).Pairwise (· < ·) := List.Pairwise.filter _ List.pairwise_lt_range
theorem getD_of {α : Type} {l : List α} {i : Nat} {x d : α} (h : l[i]? = some x) : l.getD i d = x := by simp [h]
section
variable {P : Program} {imm : Nat → Bool} {N : Nat} {ops : Array Oper} {ms : List MO} {c : Nat → Nat} {K : A → AH → Prop} {Kp : AH → Prop} {g : Option AH} {H0 G : AH} {vs : List V} {a0 ap : A} {W : List Nat → A → AH → Prop}
def baseA (c : Nat → Nat) (ms : List MO) (vs : List V) (a0 : A) (listed : Array Bool) : A := buildA (selc c 0 ms) vs 0 (fun j => listed.getD ((ixs c 0 ms.length).getD j 0) false) a0
def left (c : Nat → Nat) (n : Nat) (listed : Array Bool) : List Nat := (tixs c n).filter (fun i => !listed.getD i false)
theorem mem_left' {c : Nat → Nat} {n i : Nat} {listed : Array Bool} : i ∈ left c n listed ↔ (i < n ∧ 2 ≤ c i) ∧ listed.getD i false = false := by simp [left,mem_tixs]
theorem left_same {c : Nat → Nat} {n : Nat} {l1 l2 : Array Bool} (h : ∀ i ∈ tixs c n,l1.getD i false = l2.getD i false) : left c n l1 = left c n l2 := by
  unfold left
  exact List.filter_congr fun i hi => by rw [h i hi]
structure Tail (P : Program) (g : Option AH) (ops : Array Oper) (ms : List MO) (c : Nat → Nat) (K : A → AH → Prop) (Kp : AH → Prop) (W : List Nat → A → AH → Prop) : Prop where
  nil : ∀ a H,W [] a H → K a H
  step : ∀ (l : List Nat) (i : Nat),l.Sublist (tixs c ms.length) → i ∈ l → (∀ j ∈ l,¬ Dep ops j i) → ∀ a H,W l a H → stepE P (toS (c i) (ms.getD i moD)) a H (fun a' H' => chkG g (toS (c i) (ms.getD i moD)).op H' ∧ W (l.filter (fun j => j != i)) a' H') Kp
inductive Phase (P : Program) (W : List Nat → A → AH → Prop) (ms : List MO) (c : Nat → Nat) (H0 G : AH) (ap : A) (listed : Array Bool) (puts : List (Option Nat × V)) (H : AH) : Prop where
  | al (σ : Nat → Option Nat) : puts = putsA ms (ixs c 1 ms.length) σ → H = hA ms H0 (ixs c 1 ms.length) σ → (∀ j ∈ tixs c ms.length,listed.getD j false = false) →
      (∀ i ∈ ixs c 1 ms.length,listed.getD i false = true ↔ σ i ≠ none) → (∀ i ∈ ixs c 1 ms.length,∀ k,σ i = some k → H0 k = none) → (∀ i ∈ ixs c 1 ms.length,∀ j ∈ ixs c 1 ms.length,i ≠ j → σ i = none ∨ σ i ≠ σ j) → Phase P W ms c H0 G ap listed puts H
  | tl : (∀ i ∈ ixs c 1 ms.length,listed.getD i false = true) →
      W (left c ms.length listed) (pput puts ap) H → (G.lec H ∨ ∀ i ∈ ixs c 0 ms.length,hfreeB ms i = false → listed.getD i false = true) →
      (∀ p ∈ puts,∃ i,i < ms.length ∧ c i ≠ 0 ∧ listed.getD i false = true ∧ p.1 = (ms.getD i moD).dst) → Phase P W ms c H0 G ap listed puts H
theorem phase_puts {listed : Array Bool} {puts : List (Option Nat × V)} {H : AH} (h : Phase P W ms c H0 G ap listed puts H) : ∀ p ∈ puts,∃ i,i < ms.length ∧ c i ≠ 0 ∧ listed.getD i false = true ∧ p.1 = (ms.getD i moD).dst := by
  cases h with
  | al σ h1 h2 h3 h4 h5 h6 =>
    intro p hp
    rw [h1] at hp
    simp only [putsA,List.mem_filterMap,Option.map_eq_some_iff] at hp
    obtain ⟨i,hi,k,hk,rfl⟩ := hp
    obtain ⟨h7,h8⟩ := mem_ixs.1 hi
    exact ⟨i,h7,by omega,(h4 i hi).2 (by rw [hk]; simp),rfl⟩
  | tl h1 h3 h4 h5 => exact h5
theorem phase_tl (hG : G.lec H0) (hd : DrawOk ops ms c) (hlen : ops.size = ms.length) (htail : awOpsG P g (selc c 1 ms) ap H0 (fun a H => W (tixs c ms.length) a H) Kp) {listed : Array Bool} {puts : List (Option Nat × V)} {H : AH} (h : Phase P W ms c H0 G ap listed puts H) (hall : ∀ i ∈ ixs c 1 ms.length,listed.getD i false = true) :
    W (left c ms.length listed) (pput puts ap) H ∧ (G.lec H ∨ ∀ i ∈ ixs c 0 ms.length,hfreeB ms i = false → listed.getD i false = true) := by
  cases h with
  | tl h1 h3 h4 h5 => exact ⟨h3,h4⟩
  | al σ h1 h2 h3 h4 h5 h6 =>
    refine ⟨?_,.inl ?_⟩
    · have hl : left c ms.length listed = tixs c ms.length := List.filter_eq_self.2 fun i hi => by rw [h3 i hi]; rfl
      rw [h1,h2,hl]
      have htail' : awOpsG P g ((ixs c 1 ms.length).map (fun i => ms.getD i moD) ++ []) ap H0 (fun a H => W (tixs c ms.length) a H) Kp := by rw [List.append_nil]; exact htail
      refine awOpsG_allocs (rest := []) _ _ _ (fun i hi => ?_) (fun i hi => ?_) ?_ htail'
      · obtain ⟨k1,k2⟩ := mem_ixs.1 hi
        have hm : ms[i]? = some ms[i] := List.getElem?_eq_getElem k1
        obtain ⟨t,cs,e⟩ := hd.al i _ (by omega) hm k2
        exact ⟨t,cs,by rw [getD_of hm,e]⟩
      · have := (h4 i hi).1 (hall i hi)
        cases hs : σ i with
        | none => exact absurd hs this
        | some k => exact ⟨k,rfl,h5 i hi k hs⟩
      · refine (List.pairwise_iff_getElem.2 fun i j hi hj hij => ?_)
        have hlt := List.pairwise_iff_getElem.1 (ixs_lt c 1 ms.length) i j hi hj hij
        rcases h6 _ (List.getElem_mem hi) _ (List.getElem_mem hj) (by omega) with h7 | h7
        · exact absurd h7 ((h4 _ (List.getElem_mem hi)).1 (hall _ (List.getElem_mem hi)))
        · exact h7
    · rw [h2]; exact AH.lec_trans hG (AH.lec_of_le (hA_le h5))
theorem draw_any (hG : G.lec H0) (hW : (∃ j,j < ms.length ∧ c j = 4) → g = some G) (hm : mosOf P imm N ops ops.toList = some ms) (hd : DrawOk ops ms c) (hrun : Run P G (selc c 0 ms) vs a0 ap) (hT : Tail P g ops ms c K Kp W) (htail : awOpsG P g (selc c 1 ms) ap H0 (fun a H => W (tixs c ms.length) a H) Kp) {s0 : St} {d : List Deferred} : ∀ (fuel : Nat) (listed : Array Bool) (puts : List (Option Nat × V)) (H : AH) (s : St) (act : Act),listed.size = ops.size → Closed ops listed → cntN listed ops.size ≤ fuel →
    Phase P W ms c H0 G ap listed puts H → act.tmps.size = N → HRel s H → ARel s (pput puts (baseA c ms vs a0 listed)) act → Ext s0 s → act.defers = d → wpAny P .any ops (RegQ s0 d N K Kp) fuel listed act s.w := by
  obtain ⟨hlen,hget⟩ := mosOf_get hm
  simp only [Array.length_toList] at hlen
  have hqlen : (selc c 0 ms).length = (ixs c 0 ms.length).length := by simp [selc]
  have hq : ∀ (j : Nat) mj,(selc c 0 ms)[j]? = some mj → ∃ i,(ixs c 0 ms.length)[j]? = some i ∧ (ixs c 0 ms.length).getD j 0 = i ∧ i < ms.length ∧ c i = 0 ∧ ms[i]? = some mj := by
    intro j mj hj
    simp only [selc,List.getElem?_map,Option.map_eq_some_iff] at hj
    obtain ⟨i,h1,h2⟩ := hj
    obtain ⟨h3,h4⟩ := mem_ixs.1 (List.mem_of_getElem? h1)
    refine ⟨i,h1,getD_of h1,h3,h4,?_⟩
    rw [← h2,getD_of (List.getElem?_eq_getElem h3)]
    exact List.getElem?_eq_getElem h3
  -- all have come up
  have done : ∀ (listed : Array Bool) (puts : List (Option Nat × V)) (H : AH) (s : St) (act : Act),listed.size = ops.size → (∀ j,j < ops.size → listed.getD j false = true) → Phase P W ms c H0 G ap listed puts H → act.tmps.size = N → HRel s H → ARel s (pput puts (baseA c ms vs a0 listed)) act → Ext s0 s → act.defers = d → RegQ s0 d N K Kp .normal act s.w := by
    intro listed puts H s act hs hl hph hn hr ha hx hdf
    obtain ⟨h2,_⟩ := phase_tl hG hd hlen htail hph (fun i hi => hl i (by have := (mem_ixs.1 hi).1; omega))
    have hnil : left c ms.length listed = [] := by
      rw [left,List.filter_eq_nil_iff]
      intro i hi
      rw [hl i (by have := (mem_tixs.1 hi).1; omega)]
      simp
    rw [hnil] at h2
    have h2 := hT.nil _ _ h2
    refine .inl ⟨rfl,s,_,H,rfl,hx,hr,ha.sub fun t v ht => ?_,hdf,hn,h2⟩
    rw [pput_get] at ht ⊢
    rw [← ht]
    congr 1
    rw [baseA,buildA_get,run_get hrun 0 t]
    refine lookV_congr _ _ _ _ (fun j mj hj _ => ?_)
    obtain ⟨i,_,e,h3,_,_⟩ := hq j mj hj
    simp only [Nat.zero_add,e]
    exact hl i (by omega)
  intro fuel
  induction fuel with
  | zero =>
    intro listed puts H s act hs hcl hf hph hn hr ha hx hdf
    have all : ∀ j,j < ops.size → listed.getD j false = true := fun j hj => by
      by_cases h : listed.getD j false = true
      · exact h
      · have := cnt_pos (n := ops.size) (listed := listed) (i := j) (by rw [getD_iff (by omega)]; simpa using h) (by omega)
        omega
    refine ⟨?_,done listed puts H s act hs all hph hn hr ha hx hdf⟩
    apply List.eq_nil_iff_forall_not_mem.2
    intro i hi
    obtain ⟨hu,o,ho,_⟩ := mem_ready.1 hi
    have hlt : i < ops.size := by
      by_cases hl : i < ops.size
      · exact hl
      · rw [Array.getElem?_eq_none (by omega)] at ho; cases ho
    rw [getD_iff (by omega),all i hlt] at hu
    cases hu
  | succ fuel ih =>
    intro listed puts H s act hs hcl hf hph hn hr ha hx hdf
    refine ⟨fun h0 => ?_,fun i hi => ?_⟩
    · refine done listed puts H s act hs (fun j hj => ?_) hph hn hr ha hx hdf
      by_cases h : listed.getD j false = true
      · exact h
      · obtain ⟨i,hi⟩ := min_ready hs hd.back j hj (by rw [getD_iff (by omega)]; simpa using h)
        rw [h0] at hi; cases hi
    · obtain ⟨hiu,o,ho,hadj⟩ := mem_ready.1 hi
      have hlt : i < ops.size := by
        by_cases hl : i < ops.size
        · exact hl
        · rw [Array.getElem?_eq_none (by omega)] at ho; cases ho
      have hiu' : listed.getD i false = false := by rw [← getD_iff (by omega)]; exact hiu
      obtain ⟨m,hm1,hm2⟩ := hget i o (by simpa using ho)
      have hgi : ms.getD i moD = m := getD_of hm1
      have waits : ∀ j,Dep ops j i → listed.getD j false = true := fun j hj => dep_listed hcl j i hj (fun o' ho' => by rw [ho] at ho'; cases ho'; exact hadj)
      have waits' : ∀ j,Dep ops i j → listed.getD j false = false := by
        intro j hj
        by_cases h : listed.getD j false = true
        · have := dep_listed hcl i j hj (fun o' ho' => hcl j o' ho' h)
          rw [hiu'] at this; cases this
        · simpa using h
      have closed' : Closed ops (listed.setIfInBounds i true) := by
        intro j oj hj hjl e he hb
        by_cases e1 : j = i
        · subst e1
          rw [ho] at hj; cases hj
          exact getD_set_true (hadj e he hb)
        · rw [getD_set_ne false (by omega)] at hjl
          exact getD_set_true (hcl j oj hj hjl e he hb)
      have cnt' : cntN (listed.setIfInBounds i true) ops.size ≤ fuel := by
        have := cnt_set hiu ops.size
        rw [if_pos hlt] at this; omega
      have size' : (listed.setIfInBounds i true).size = ops.size := by simpa using hs
      have self' : (listed.setIfInBounds i true).getD i false = true := by simp [hs,hlt]
      have ne' : ∀ j,j ≠ i → (listed.setIfInBounds i true).getD j false = listed.getD j false := fun j hj => getD_set_ne false (by omega)
      have hputs := phase_puts hph
      -- the quiet ones' puts do not turn where another one comes up
      have base' : c i ≠ 0 → ∀ t,(baseA c ms vs a0 (listed.setIfInBounds i true)).get t = (baseA c ms vs a0 listed).get t := by
        intro hc t
        rw [baseA,baseA,buildA_get,buildA_get]
        refine lookV_congr _ _ _ _ (fun j mj hj _ => ?_)
        obtain ⟨q,_,e,_,hq0,_⟩ := hq j mj hj
        simp only [Nat.zero_add,e]
        exact ne' q (fun e => hc (by rw [← e]; exact hq0))
      have hcls := hd.cls i hlt
      by_cases hc0 : c i = 0
      · -- a quiet one
        have hiq : i ∈ ixs c 0 ms.length := mem_ixs.2 ⟨by omega,hc0⟩
        obtain ⟨j,hjl,hj⟩ := List.mem_iff_getElem.1 hiq
        have hj' : (ixs c 0 ms.length)[j]? = some i := by rw [List.getElem?_eq_getElem hjl,hj]
        have hmt : (selc c 0 ms)[j]? = some m := by simp only [selc,List.getElem?_map,hj',Option.map_some,hgi]
        obtain ⟨ai,v,hv,hqf,hr1,hr2⟩ := run_at hrun hmt 0
        have pos : ∀ (x y : Nat) i' j',(ixs c 0 ms.length)[x]? = some i' → (ixs c 0 ms.length)[y]? = some j' → (x < y ↔ i' < j') := by
          intro x y i' j' h1 h2
          obtain ⟨l1,e1⟩ := List.getElem?_eq_some_iff.1 h1
          obtain ⟨l2,e2⟩ := List.getElem?_eq_some_iff.1 h2
          have hp := List.pairwise_iff_getElem.1 (ixs_lt c 0 ms.length)
          constructor
          · intro h; have := hp x y l1 l2 h; rw [e1,e2] at this; exact this
          · intro h
            rcases Nat.lt_trichotomy x y with h3 | h3 | h3
            · exact h3
            · subst h3; rw [e1] at e2; omega
            · have := hp y x l2 l1 h3; rw [e1,e2] at this; omega
        have earlier : ∀ t,(t ∈ m.looks ∨ m.dst = some t) → ∀ k mk,(selc c 0 ms)[k]? = some mk → mk.dst = some t → k < j → listed.getD ((ixs c 0 ms.length).getD (0 + k) 0) false = true := by
          intro t ht k mk hk hdk hkj
          obtain ⟨q,hq1,e,hq2,hq3,hq4⟩ := hq k mk hk
          have hqi : q < i := (pos k j q i hq1 hj').1 hkj
          rw [Nat.zero_add,e]
          exact waits q ((hd.conf i q hc0 hq3 hlt (by omega) (by omega) (confB_of hm1 hq4 hdk ht)).1 hqi)
        have later : ∀ t,(t ∈ m.looks ∨ m.dst = some t) → ∀ k mk,(selc c 0 ms)[k]? = some mk → mk.dst = some t → j ≤ k → listed.getD ((ixs c 0 ms.length).getD (0 + k) 0) false = false := by
          intro t ht k mk hk hdk hkj
          obtain ⟨q,hq1,e,hq2,hq3,hq4⟩ := hq k mk hk
          rw [Nat.zero_add,e]
          by_cases ek : k = j
          · subst ek; rw [hj'] at hq1; cases hq1; exact hiu'
          · have hqi : i < q := (pos j k i q hj' hq1).1 (by omega)
            exact waits' q ((hd.conf i q hc0 hq3 hlt (by omega) (by omega) (confB_of hm1 hq4 hdk ht)).2 hqi)
        -- no later put has written what it looks at,or writes
        have noput : ∀ t,(t ∈ m.looks ∨ m.dst = some t) → ∀ p ∈ puts,p.1 ≠ some t := by
          intro t ht p hp e
          obtain ⟨q,h1,h2,h3,h4⟩ := hputs p hp
          rw [h4] at e
          have hmq : ms[q]? = some (ms.getD q moD) := by rw [getD_of (List.getElem?_eq_getElem h1)]; exact List.getElem?_eq_getElem h1
          have hcf := confB_of hm1 hmq e ht
          have hne : q ≠ i := fun e2 => h2 (by rw [e2]; exact hc0)
          have hq2 := hd.cls q (by omega)
          by_cases hc1 : c q = 1
          · have := hd.aq q i hc1 (by omega) (by omega) hlt hne
            rw [hcf] at this; cases this
          · have := waits' q (hd.qt i q hc0 (by omega) hlt (by omega) (.inl hcf))
            rw [h3] at this; cases this
        have hag : Agree m.looks ai (pput puts (baseA c ms vs a0 listed)) := by
          intro t ht
          rw [pput_get,plook_none t puts _ (noput t (.inl ht)),baseA,buildA_get]
          exact hr1 t _ (earlier t (.inl ht)) (later t (.inl ht))
        have hlec : G.lec H ∨ m.op.free = true := by
          cases hph with
          | al σ h1 h2 h3 h4 h5 h6 => rw [h2]; exact .inl (AH.lec_trans hG (AH.lec_of_le (hA_le h5)))
          | tl h1 h3 h4 h5 =>
            rcases h4 with h4 | h4
            · exact .inl h4
            · cases hfr : m.op.free with
              | true => exact .inr rfl
              | false => have := h4 i hiq (by simp only [hfreeB,hm1,hfr]); rw [hiu'] at this; cases this
        have hqf2 : ∀ a' H',Agree m.looks ai a' → H = H' → ∀ (k' : A → AH → Prop) Kp,k' (a'.putD m.dst v) H' → stepE P m a' H' k' Kp := fun a' H' hag e k' Kp hk => by
          subst e
          rcases hlec with hlec | hlec
          · exact hqf a' H hag hlec k' Kp hk
          · exact qf_free hqf hlec a' H hag k' Kp hk
        have hst := hqf2 _ H hag rfl (fun a' H' => a' = (pput puts (baseA c ms vs a0 listed)).putD m.dst v ∧ H' = H) Kp ⟨rfl,rfl⟩
        have := step_sound (K := K) hm2 ho hst hn hr ha hx
        rw [hdf] at this
        refine wpOp_mono ?_ this
        rintro act' w' ⟨s',a',H',rfl,hx',hr',ha',hd',hn',rfl,rfl⟩
        refine ih _ puts _ s' act' size' closed' cnt' ?_ hn' hr' (ha'.sub fun t u ht => ?_) hx' hd'
        · cases hph with
          | al σ h1 h2 h3 h4 h5 h6 =>
            refine .al σ h1 h2 (fun j hj => ?_) (fun j hj => ?_) h5 h6
            · rw [ne' j (fun e => by have := (mem_tixs.1 hj).2; rw [e] at this; omega)]; exact h3 j hj
            · rw [ne' j (fun e => by have := (mem_ixs.1 hj).2; rw [e] at this; omega)]; exact h4 j hj
          | tl h1 h3 h4 h5 =>
            refine .tl (fun j hj => getD_set_true (h1 j hj)) ?_ (h4.imp id fun h j hj hfr => getD_set_true (h j hj hfr)) (fun p hp => ?_)
            · rw [left_same (l2 := listed) fun j hj => ne' j (fun e => by have := (mem_tixs.1 hj).2; rw [e] at this; omega)]; exact h3
            · obtain ⟨q,g1,g2,g3,g4⟩ := h5 p hp
              exact ⟨q,g1,g2,getD_set_true g3,g4⟩
        · rw [pput_get,baseA,buildA_get] at ht
          rw [putD_get,pput_get,baseA,buildA_get]
          by_cases e : m.dst = some t
          · rw [if_pos e]
            rw [plook_none t puts _ (noput t (.inr e))] at ht
            rw [← ht]
            refine (hr2 t _ e ?_ (fun k mk hk hdk hjk => ?_)).symm
            · rw [Nat.zero_add,getD_of hj']; exact self'
            · have := later t (.inr e) k mk hk hdk (by omega)
              obtain ⟨q,hq1,e2,_,_,_⟩ := hq k mk hk
              rw [Nat.zero_add,e2] at this ⊢
              rw [ne' q (fun e3 => by subst e3; have := (pos j k q q hj' hq1).1 hjk; omega)]
              exact this
          · rw [if_neg e,← ht]
            congr 1
            apply lookV_congr
            intro k mk hk hdk
            obtain ⟨q,hq1,e2,_,_,hq4⟩ := hq k mk hk
            simp only [Nat.zero_add,e2]
            refine (ne' q (fun e3 => ?_)).symm
            subst e3
            rw [hm1] at hq4; cases hq4
            exact e hdk
      · by_cases hc1 : c i = 1
        · -- new cells
          have hia : i ∈ ixs c 1 ms.length := mem_ixs.2 ⟨by omega,hc1⟩
          cases hph with
          | tl h1 h3 h4 h5 => have := h1 i hia; rw [hiu'] at this; cases this
          | al σ h1 h2 h3 h4 h5 h6 =>
            obtain ⟨t0,cs,rfl⟩ := hd.al i m hlt hm1 hc1
            have hsn : σ i = none := by
              cases e : σ i with
              | none => rfl
              | some k => have := (h4 i hia).2 (by rw [e]; simp); rw [hiu'] at this; cases this
            have hcs : cellsAt ms i = cs := by simp only [cellsAt,hgi]
            have hst : stepE P ⟨some t0,none,.zalloc cs⟩ (pput puts (baseA c ms vs a0 listed)) H (fun a' H' => ∃ k,H k = none ∧ a' = (pput puts (baseA c ms vs a0 listed)).putD (some t0) (.ptr k 0) ∧ H' = H.put k (.cells cs)) Kp :=
              fun k hk => ⟨k,hk,rfl,rfl⟩
            have := step_sound (K := K) hm2 ho hst hn hr ha hx
            rw [hdf] at this
            refine wpOp_mono ?_ this
            rintro act' w' ⟨s',a',H',rfl,hx',hr',ha',hd',hn',k,hk,rfl,rfl⟩
            have hk2 : H0 k = none ∧ ∀ j ∈ ixs c 1 ms.length,σ j ≠ some k := by rw [h2] at hk; exact hA_none hk
            refine ih _ (putsA ms (ixs c 1 ms.length) (fun x => if x = i then some k else σ x)) _ s' act' size' closed' cnt' (.al (fun x => if x = i then some k else σ x) rfl ?_ (fun j hj => ?_) (fun j hj => ?_) (fun j hj k' hk' => ?_) (fun x hx2 y hy hxy => ?_)) hn' hr' (ha'.sub fun t u ht => ?_) hx' hd'
            · rw [hA_set hia hsn hk2.2,hcs,h2]
            · rw [ne' j (fun e => by have := (mem_tixs.1 hj).2; rw [e] at this; omega)]; exact h3 j hj
            · by_cases e : j = i
              · subst e; rw [self']; simp
              · rw [ne' j e,if_neg e]; exact h4 j hj
            · by_cases e : j = i
              · subst e; rw [if_pos rfl] at hk'; cases hk'; exact hk2.1
              · rw [if_neg e] at hk'; exact h5 j hj k' hk'
            · by_cases e1 : x = i
              · have e2 : y ≠ i := by omega
                rw [if_pos e1,if_neg e2]
                exact .inr (fun h => hk2.2 y hy h.symm)
              · rw [if_neg e1]
                by_cases e2 : y = i
                · rw [if_pos e2]
                  exact .inr (fun h => hk2.2 x hx2 h)
                · rw [if_neg e2]; exact h6 x hx2 y hy hxy
            · have hnd : (ixs c 1 ms.length).Nodup := (ixs_lt c 1 ms.length).imp (fun h => by omega)
              rw [pput_get,putsA_set (t0 := t0) _ σ _ hnd hia hsn (by rw [hgi]) (fun j hj hne => ?_),base' hc0] at ht
              · rw [putD_get,pput_get,h1]
                by_cases e : t0 = t
                · rw [if_pos e] at ht; rw [if_pos (by rw [e])]; exact ht
                · rw [if_neg e] at ht; rw [if_neg (by simpa using e)]; exact ht
              · intro e
                obtain ⟨g1,g2⟩ := mem_ixs.1 hj
                have hmj : ms[j]? = some (ms.getD j moD) := by rw [getD_of (List.getElem?_eq_getElem g1)]; exact List.getElem?_eq_getElem g1
                have hcf := confB_of hmj hm1 rfl (.inr e)
                have := hd.aq i j hc1 (by omega) hlt (by omega) (by omega)
                rw [hcf] at this; cases this
        · -- one of the tail
          have hc2 : 2 ≤ c i := by omega
          have hit : i ∈ tixs c ms.length := mem_tixs.2 ⟨by omega,hc2⟩
          obtain ⟨h3,h4⟩ := phase_tl hG hd hlen htail hph (fun j hj => by obtain ⟨g1,g2⟩ := mem_ixs.1 hj; exact waits j (hd.before j i g2 hc2 (by omega) hlt))
          have hall1 : ∀ j ∈ ixs c 1 ms.length,listed.getD j false = true := fun j hj => by obtain ⟨g1,g2⟩ := mem_ixs.1 hj; exact waits j (hd.before j i g2 hc2 (by omega) hlt)
          have hst0 := hT.step _ i List.filter_sublist (mem_left'.2 ⟨mem_tixs.1 hit,hiu'⟩) (fun j hj hdep => by have h9 := (mem_left'.1 hj).2; rw [waits j hdep] at h9; cases h9) _ _ h3
          rw [hgi] at hst0
          have hag : Agree (toS (c i) m).looks (pput puts ap) (pput puts (baseA c ms vs a0 listed)) := by
            intro t ht
            rw [toS_looks] at ht
            rw [pput_get,pput_get]
            by_cases he : ∃ q ∈ puts,q.1 = some t
            · exact plook_some t puts _ _ he
            · have hno : ∀ q ∈ puts,q.1 ≠ some t := fun q hq e => he ⟨q,hq,e⟩
              rw [plook_none t puts _ hno,plook_none t puts _ hno,baseA,buildA_get,run_get hrun 0 t]
              refine lookV_congr _ _ _ _ (fun k mk hk hdk => ?_)
              obtain ⟨q,hq1,e2,hq2,hq3,hq4⟩ := hq k mk hk
              simp only [Nat.zero_add,e2]
              exact waits q (hd.qt q i hq3 hc2 (by omega) hlt (.inr (.inl (confB_of hm1 hq4 hdk (.inl ht)))))
          have hst : stepE P m (pput puts (baseA c ms vs a0 listed)) H (fun a' H' => ∃ v,a' = (pput puts (baseA c ms vs a0 listed)).putD m.dst v ∧ W ((left c ms.length listed).filter (fun j => j != i)) ((pput puts ap).putD m.dst v) H' ∧ ((toS (c i) m).op.soft = true → H.lec H') ∧ chkG g (toS (c i) m).op H') Kp :=
            stepE_toS (stepE_lift hag hst0 (fun v H' g1 g2 => ⟨v,by rw [toS_dst],by rw [← toS_dst (c i)]; exact g2.2,g1,g2.1⟩))
          have := step_sound (K := K) hm2 ho hst hn hr ha hx
          rw [hdf] at this
          refine wpOp_mono ?_ this
          rintro act' w' ⟨s',a',H',rfl,hx',hr',ha',hd',hn',v,rfl,hk1,hk2,hk3⟩
          refine ih _ (puts ++ [(m.dst,v)]) _ s' act' size' closed' cnt' (.tl (fun j hj => getD_set_true (hall1 j hj)) ?_ ?_ (fun q hq => ?_)) hn' hr' (ha'.sub fun t u ht => ?_) hx' hd'
          · have hl : left c ms.length (listed.setIfInBounds i true) = (left c ms.length listed).filter (fun j => j != i) := by
              rw [left,left,List.filter_filter]
              refine List.filter_congr fun j _ => ?_
              by_cases e : j = i
              · subst e; rw [self']; simp
              · rw [ne' j e]; simp [e]
            rw [hl,pput_append]; exact hk1
          · by_cases hsoft : (toS (c i) m).op.soft = true
            · exact h4.imp (fun h => AH.lec_trans h (hk2 hsoft)) fun h j hj hfr => getD_set_true (h j hj hfr)
            · by_cases h4c : c i = 4
              · have hk4 := hk3; rw [hW ⟨i,by omega,h4c⟩] at hk4; exact .inl (hk4 (by simpa using hsoft))
              · refine .inr fun j hj hfr => getD_set_true ?_
                obtain ⟨g1,g2⟩ := mem_ixs.1 hj
                exact waits j (hd.qt j i g2 hc2 (by omega) hlt (.inr (.inr ⟨by rw [hgi]; simpa using hsoft,h4c,hfr⟩)))
          · rcases List.mem_append.1 hq with hq | hq
            · obtain ⟨x,g1,g2,g3,g4⟩ := hputs q hq
              exact ⟨x,g1,g2,getD_set_true g3,g4⟩
            · rw [List.mem_singleton] at hq; subst hq
              exact ⟨i,by omega,by omega,self',by rw [hgi]⟩
          · rw [pput_append,pput,pput,putD_get,pput_get,base' hc0] at ht
            rw [putD_get,pput_get]; exact ht
def wildB (c : Nat → Nat) (n : Nat) : Bool := (List.range n).any fun j => c j == 4
theorem aw_drawA {id : Nat} {lv : List Nat} {Q : AExit → A → AH → Prop} {a : A} {H : AH} {W : List Nat → A → AH → Prop} (hm : mosOf P imm N ops ops.toList = some ms) (hd : DrawOk ops ms c) (hf : P.follows .mixedOrders = true)
    (G : AH) (hG : G.lec H) (hW : wildB c ms.length = true → g = some G) (hT : Tail P g ops ms c (regK lv Q) (regP Q) W)
    (h : drawE P (selc c 0 ms) a G (fun a' => awOpsG P g (selc c 1 ms) a' H (fun a H => W (tixs c ms.length) a H) (regP Q))) : AW P N (.region id ops true) Q a H := by
  intro s act hn hr ha
  obtain ⟨vs,ap,hrun,htail⟩ := drawE_run h
  have conv : ∀ e act' w',RegQ s act.defers N (regK lv Q) (regP Q) e act' w' → AbsQ s act.defers N Q e act' w' := by
    rintro e act' w' (⟨rfl,s',a',H',e1,hx,hr',ha',hd,hn',k⟩ | ⟨ch,rfl,hch,h⟩)
    · exact ⟨.normal,trivial,s',_,H',e1,hx,hr',ha'.sub (A.get_only lv a'),hd,hn',k⟩
    · exact ⟨.panic,hch,h.mono (by rintro a H ⟨rfl,h⟩; exact h)⟩
  refine wp_mono (wp_region_any hf ?_) conv
  have hno : ∀ j,(Array.replicate ops.size false).getD j false = false := fun j => by simp only [Array.getD_eq_getD_getElem?,Array.getElem?_replicate]; split <;> rfl
  refine draw_any hG (fun ⟨j,hj,h4⟩ => hW (List.any_eq_true.2 ⟨j,List.mem_range.2 hj,by simp [h4]⟩)) hm hd hrun hT htail ops.size (Array.replicate ops.size false) [] H s.drew act (by simp) ?_ ?_ (.al (fun _ => none) ?_ ?_ (fun j _ => hno j) (fun i _ => by rw [hno]; simp) (fun i _ k hk => by cases hk) (fun _ _ _ _ _ => .inl rfl)) hn hr.drew ?_ (St.ext_drew s) rfl
  · intro j o hj hjl
    rw [hno] at hjl; cases hjl
  · have : ∀ n,cntN (Array.replicate ops.size false) n ≤ n := by
      intro n
      induction n with
      | zero => simp [cntN]
      | succ n ih => simp only [cntN]; split <;> omega
    exact this _
  · unfold putsA
    induction ixs c 1 ms.length with
    | nil => rfl
    | cons x l ih => simp
  · funext x
    unfold hA
    have : (ixs c 1 ms.length).find? (fun i => (none : Option Nat) == some x) = none := by rw [List.find?_eq_none]; simp
    rw [this]
  · refine (ha.mono (St.ext_drew s)).sub fun t v ht => ?_
    rw [pput,baseA,buildA_get,lookV_none _ _ _ _ (fun j mj _ _ => hno _)] at ht
    exact ht
theorem awOpsG_append {K : A → AH → Prop} {Kp : AH → Prop} : ∀ (xs ys : List MO) (a : A) (H : AH),awOpsG P g (xs ++ ys) a H K Kp = awOpsG P g xs a H (fun a H => awOpsG P g ys a H K Kp) Kp
  | [],_,_,_ => rfl
  | m :: xs,ys,a,H => by
    have e : (fun a' H' => chkG g m.op H' ∧ awOpsG P g (xs ++ ys) a' H' K Kp) = fun a' H' => chkG g m.op H' ∧ awOpsG P g xs a' H' (fun a H => awOpsG P g ys a H K Kp) Kp := by
      funext a' H'; rw [awOpsG_append xs ys a' H']
    rw [List.cons_append,awOpsG,awOpsG,e]
theorem tail_chain {K : A → AH → Prop} {Kp : AH → Prop} (hlen : ops.size = ms.length) (hc : ∀ i j,2 ≤ c i → 2 ≤ c j → i < j → j < ops.size → Dep ops i j) :
    Tail P g ops ms c K Kp (fun l a H => ∃ m,l = (tixs c ms.length).drop m ∧ awOpsG P g (l.map (fun i => toS (c i) (ms.getD i moD))) a H K Kp) := by
  refine ⟨fun a H ⟨m,h1,h2⟩ => h2,fun l i hl hi hmin a H ⟨m,h1,h2⟩ => ?_⟩
  have hpw : l.Pairwise (· < ·) := (tixs_lt c ms.length).sublist hl
  cases l with
  | nil => cases hi
  | cons x l =>
    have hx : i = x := by
      rcases List.mem_cons.1 hi with h | h
      · exact h
      · have h3 := (List.pairwise_cons.1 hpw).1 i h
        have g1 := mem_tixs.1 (hl.subset hi)
        have g2 := mem_tixs.1 (hl.subset (List.mem_cons_self (a := x) (l := l)))
        exact absurd (hc x i g2.2 g1.2 h3 (by omega)) (hmin x List.mem_cons_self)
    subst hx
    have hf : (i :: l).filter (fun j => j != i) = l := by
      rw [List.filter_cons_of_neg (by simp),List.filter_eq_self]
      intro j hj
      have := (List.pairwise_cons.1 hpw).1 j hj
      simp; omega
    rw [hf]
    have hd : l = (tixs c ms.length).drop (m + 1) := by
      rw [← List.tail_drop,← h1]; rfl
    have key : stepE P (toS (c i) (ms.getD i moD)) a H (fun a' H' => chkG g (toS (c i) (ms.getD i moD)).op H' ∧ awOpsG P g (l.map (fun i => toS (c i) (ms.getD i moD))) a' H' K Kp) Kp := h2
    have e : (fun a' H' => chkG g (toS (c i) (ms.getD i moD)).op H' ∧ awOpsG P g (l.map (fun i => toS (c i) (ms.getD i moD))) a' H' K Kp) = fun a' H' => chkG g (toS (c i) (ms.getD i moD)).op H' ∧ ∃ m,l = (tixs c ms.length).drop m ∧ awOpsG P g (l.map (fun i => toS (c i) (ms.getD i moD))) a' H' K Kp := by
      funext a' H'
      exact propext ⟨fun h => ⟨h.1,m + 1,hd,h.2⟩,fun h => by obtain ⟨h1,_,_,h3⟩ := h; exact ⟨h1,h3⟩⟩
    rw [← e]; exact key
theorem aw_drawG {id : Nat} {lv : List Nat} {Q : AExit → A → AH → Prop} {a : A} {H : AH} (hm : mosOf P imm N ops ops.toList = some ms) (hd : drawOk ops ms c = true) (hf : P.follows .mixedOrders = true)
    (G : AH) (hG : G.lec H) (hW : wildB c ms.length = true → g = some G)
    (h : drawE P (selc c 0 ms) a G (fun a' => awOpsG P g (selc c 1 ms ++ tailc c ms) a' H (regK lv Q) (regP Q))) : AW P N (.region id ops true) Q a H := by
  have hlen : ops.size = ms.length := by have := (mosOf_get hm).1; simpa using this
  obtain ⟨h1,h2⟩ := drawOkM_spec hd
  refine aw_drawA (lv := lv) hm h1 hf G hG hW (tail_chain hlen (h2 rfl)) ?_
  have e : (fun a' => awOpsG P g (selc c 1 ms ++ tailc c ms) a' H (regK lv Q) (regP Q)) = fun a' => awOpsG P g (selc c 1 ms) a' H (fun a H => ∃ m,tixs c ms.length = (tixs c ms.length).drop m ∧ awOpsG P g ((tixs c ms.length).map (fun i => toS (c i) (ms.getD i moD))) a H (regK lv Q) (regP Q)) (regP Q) := by
    funext a'
    rw [awOpsG_append]
    congr 1
    funext a2 H2
    exact propext ⟨fun h => ⟨0,(List.drop_zero ..).symm,h⟩,fun ⟨_,_,h⟩ => h⟩
  rw [← e]; exact h
inductive TT where
  | done
  | op (m : MO) (t : TT)
  | or (t u : TT)
def TT.ors : List TT → TT
  | [] => .done
  | [t] => t
  | t :: ts => .or t (TT.ors ts)
def awT (P : Program) (K : A → AH → Prop) (Kp : AH → Prop) : TT → A → AH → Prop
  | .done,a,H => K a H
  | .op m t,a,H => stepE P m a H (fun a' H' => awT P K Kp t a' H') Kp
  | .or t u,a,H => awT P K Kp t a H ∧ awT P K Kp u a H
theorem awT_ors {K : A → AH → Prop} {Kp : AH → Prop} {a : A} {H : AH} : ∀ (ts : List TT),awT P K Kp (TT.ors ts) a H → ∀ t ∈ ts,awT P K Kp t a H
  | [],_,t,ht => by cases ht
  | [x],h,t,ht => by rw [List.mem_singleton] at ht; subst ht; exact h
  | x :: y :: ts,h,t,ht => by
    rcases List.mem_cons.1 ht with rfl | ht
    · exact h.1
    · exact awT_ors (y :: ts) h.2 t ht
def treeOf (dm : List Nat) (ms : List MO) (c : Nat → Nat) : Nat → List Nat → TT
  | 0,_ => .done
  | n + 1,l => if l = [] then .done else TT.ors ((l.filter fun i => l.all fun j => !depM dm j i).map fun i => .op (toS (c i) (ms.getD i moD)) (treeOf dm ms c n (l.filter (fun j => j != i))))
theorem filter_ne_length {l : List Nat} {i n : Nat} (hn : l.Pairwise (· < ·)) (h : i ∈ l) (hl : l.length = n + 1) : (l.filter (fun j => j != i)).length = n := by
  have hd : l.Nodup := hn.imp (fun h => by omega)
  rw [← hd.erase_eq_filter,List.length_erase_of_mem h]; omega
theorem tail_tree {K : A → AH → Prop} {Kp : AH → Prop} : Tail P none ops ms c K Kp (fun l a H => awT P K Kp (treeOf (masks ops.toList []) ms c l.length l) a H) := by
  refine ⟨fun a H h => h,fun l i hl hi hmin a H h2 => ?_⟩
  have hne : l ≠ [] := by rintro rfl; cases hi
  obtain ⟨n,hn⟩ : ∃ n,l.length = n + 1 := ⟨l.length - 1,by have := List.length_pos_iff.2 hne; omega⟩
  rw [filter_ne_length ((tixs_lt c ms.length).sublist hl) hi hn]
  simp only [hn] at h2
  rw [treeOf,if_neg hne] at h2
  have h3 := awT_ors _ h2 (.op (toS (c i) (ms.getD i moD)) (treeOf (masks ops.toList []) ms c n (l.filter (fun j => j != i)))) (List.mem_map.2 ⟨i,List.mem_filter.2 ⟨hi,?_⟩,rfl⟩)
  · have key : stepE P (toS (c i) (ms.getD i moD)) a H (fun a' H' => awT P K Kp (treeOf (masks ops.toList []) ms c n (l.filter (fun j => j != i))) a' H') Kp := h3
    exact stepE_lift (fun _ _ => rfl) key fun v H' _ h => ⟨trivial,h⟩
  · rw [List.all_eq_true]
    intro j hj
    cases hdj : depM (masks ops.toList []) j i with
    | false => rfl
    | true => exact absurd (depM_dep hdj) (hmin j hj)
theorem aw_drawT {id : Nat} {lv : List Nat} {Q : AExit → A → AH → Prop} {a : A} {H : AH} (hm : mosOf P imm N ops ops.toList = some ms) (hd : drawOkT ops ms c = true) (hf : P.follows .mixedOrders = true) (hw : wildB c ms.length = false)
    (h : drawE P (selc c 0 ms) a H (fun a' => awOps P (selc c 1 ms) a' H (fun a H => awT P (regK lv Q) (regP Q) (treeOf (masks ops.toList []) ms c (tixs c ms.length).length (tixs c ms.length)) a H) (regP Q))) : AW P N (.region id ops true) Q a H := by
  refine aw_drawA (g := none) (lv := lv) hm (drawOkM_spec hd).1 hf H (AH.lec_refl H) (fun e => by rw [hw] at e; cases e) tail_tree ?_
  simp only [awOpsG_none]
  exact h
theorem aw_draw {id : Nat} {lv : List Nat} {Q : AExit → A → AH → Prop} {a : A} {H : AH} (hm : mosOf P imm N ops ops.toList = some ms) (hd : drawOk ops ms c = true) (hf : P.follows .mixedOrders = true) (hw : wildB c ms.length = false)
    (h : drawE P (selc c 0 ms) a H (fun a' => awOps P (selc c 1 ms ++ tailc c ms) a' H (regK lv Q) (regP Q))) : AW P N (.region id ops true) Q a H := by
  refine aw_drawG (g := none) (lv := lv) hm hd hf H (AH.lec_refl H) (fun e => by rw [hw] at e; cases e) ?_
  simp only [awOpsG_none]; exact h
theorem aw_drawW {id : Nat} {lv : List Nat} {Q : AExit → A → AH → Prop} {a : A} {H : AH} (hm : mosOf P imm N ops ops.toList = some ms) (hd : drawOk ops ms c = true) (hf : P.follows .mixedOrders = true) (G : AH) (hG : G.lec H)
    (h : drawE P (selc c 0 ms) a G (fun a' => awOpsG P (some G) (selc c 1 ms ++ tailc c ms) a' H (regK lv Q) (regP Q))) : AW P N (.region id ops true) Q a H :=
  aw_drawG (g := some G) hm hd hf G hG (fun _ => rfl) h
section
variable {G : AH} {a : A} {H : AH}
@[go_sem] theorem awOpsG_nil (g : Option AH) : awOpsG P g [] a H K Kp = K a H := rfl
@[go_sem] theorem awOpsG_cons (d : Option Nat) (m : MOp) (ms : List MO) : awOpsG P (some G) (⟨d,none,m⟩ :: ms) a H K Kp = mop P m a H (fun v H' => (m.soft = false → G.lec H') ∧ awOpsG P (some G) ms (a.putD d v) H' K Kp) Kp := rfl
def guardG (w : Bool) (P : Program) (G : AH) (d : Option Nat) (m : MOp) (ms : List MO) (a : A) (H : AH) (K : A → AH → Prop) (Kp : AH → Prop) : V → Prop
  | .bool b => if b = w then mop P m a H (fun v H' => (m.soft = false → G.lec H') ∧ awOpsG P (some G) ms (a.putD d v) H' K Kp) Kp else ((m.soft = false → G.lec H) ∧ awOpsG P (some G) ms (a.putD d unitV) H K Kp)
  | .tuple _ => (m.soft = false → G.lec H) ∧ awOpsG P (some G) ms (a.putD d unitV) H K Kp
  | _ => False
@[go_sem] theorem awOpsG_guard (d : Option Nat) (t : Nat) (w : Bool) (m : MOp) (ms : List MO) : awOpsG P (some G) (⟨d,some (t,w),m⟩ :: ms) a H K Kp = need (a.get t) (guardG w P G d m ms a H K Kp) := by
  simp only [awOpsG,stepE]
  cases h : a.get t with
  | none => rfl
  | some v => cases v <;> rfl
@[go_sem] theorem guardG_bool (w b : Bool) (d : Option Nat) (m : MOp) (ms : List MO) : guardG w P G d m ms a H K Kp (.bool b) = if b = w then mop P m a H (fun v H' => (m.soft = false → G.lec H') ∧ awOpsG P (some G) ms (a.putD d v) H' K Kp) Kp else ((m.soft = false → G.lec H) ∧ awOpsG P (some G) ms (a.putD d unitV) H K Kp) := rfl
@[go_sem] theorem guardG_unit (w : Bool) (d : Option Nat) (m : MOp) (ms : List MO) : guardG w P G d m ms a H K Kp unitV = ((m.soft = false → G.lec H) ∧ awOpsG P (some G) ms (a.putD d unitV) H K Kp) := rfl
end
attribute [go_sem] MOp.soft XOp.soft
@[go_sem] theorem lec_empty (H : AH) : AH.lec (fun _ => none) H = True := eq_true fun _ _ h => by cases h
end
end Go.Vm
