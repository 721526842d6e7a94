/- Codes in a short form, and functions. -/
import Derived.Test.YtkldmgnhbomknaaGreatVm15
set_option linter.unusedVariables false
set_option linter.unusedSimpArgs false
namespace Go.Vm
/-! ### Codes in a short form -/
inductive MC where
  | skip
  | reg (ms : List MO) (lv : List Nat)
  | drw (ps ts : List MO) (lv : List Nat)
  /-- one of the tail may turn what is there: the quiet ones look at nothing there -/
  | drx (ps ts : List MO) (lv : List Nat)
  /-- the tail may come in one of a few orders -/
  | drt (ps as : List MO) (t : TT) (lv : List Nat)
  | seq (x y : MC)
  | cond (c : Opd) (x y : MC)
  | block (id : Nat) (x : MC)
  | loop (x : MC)
  | exit (id : Nat)
  | ret
  /-- code that no walk goes over -/
  | stuck
def orStuck : Option MC → Option MC
  | some m => some m
  | none => some .stuck
theorem orStuck_eq {o : Option MC} {m : MC} (h : orStuck o = some m) : o = some m ∨ MC.stuck = m := by
  cases o with
  | none => exact .inr (by simpa [orStuck] using h)
  | some x => exact .inl h
def drwOf (P : Program) (ops : Array Oper) (c : List Nat) (lv : List Nat) (ms : List MO) : Option MC :=
  if drawOk ops ms (fun i => c.getD i 2) = true ∧ P.follows .mixedOrders = true then (if wildB (fun i => c.getD i 2) ms.length = true then some (.drx (selc (fun i => c.getD i 2) 0 ms) (selc (fun i => c.getD i 2) 1 ms ++ tailc (fun i => c.getD i 2) ms) lv) else some (.drw (selc (fun i => c.getD i 2) 0 ms) (selc (fun i => c.getD i 2) 1 ms ++ tailc (fun i => c.getD i 2) ms) lv)) else none
def drwOf2 (P : Program) (ops : Array Oper) (c : List Nat) (lv : List Nat) (ms : List MO) : Option MC :=
  match drwOf P ops c lv ms with
  | some m => some m
  | none => if drawOkT ops ms (fun i => c.getD i 2) = true ∧ P.follows .mixedOrders = true ∧ wildB (fun i => c.getD i 2) ms.length = false then
      some (.drt (selc (fun i => c.getD i 2) 0 ms) (selc (fun i => c.getD i 2) 1 ms) (treeOf (masks ops.toList []) ms (fun i => c.getD i 2) (tixs (fun i => c.getD i 2) ms.length).length (tixs (fun i => c.getD i 2) ms.length)) lv) else none
theorem drwOf2_of {P : Program} {ops : Array Oper} {c lv : List Nat} {ms : List MO} {m : MC} (hm : ∀ ps as t l,MC.drt ps as t l ≠ m) (h : drwOf2 P ops c lv ms = some m) : drwOf P ops c lv ms = some m := by
  unfold drwOf2 at h
  split at h
  · rename_i h1; rw [h1]; exact h
  · split at h
    · cases h; exact absurd rfl (hm _ _ _ _)
    · cases h
def mcOf (P : Program) (imm : Nat → Bool) (lv : Nat → List Nat × List Nat) (N : Nat) : Code → Option MC
  | .skip => some .skip
  | .region id ops false => orStuck ((mosOf P imm N ops ops.toList).map (.reg · (lv id).2))
  | .region id ops true => orStuck ((mosOf P imm N ops ops.toList).bind (drwOf2 P ops (lv id).1 (lv id).2))
  | .seq x y => match mcOf P imm lv N x,mcOf P imm lv N y with
    | some x,some y => some (.seq x y)
    | _,_ => none
  | .cond c x y => match opdOf c,mcOf P imm lv N x,mcOf P imm lv N y with
    | some c,some x,some y => some (.cond c x y)
    | _,_,_ => none
  | .block id x => (mcOf P imm lv N x).map (.block id)
  | .loop x => (mcOf P imm lv N x).map .loop
  | .exit id => some (.exit id)
  | .ret => some .ret
  | _ => some .stuck
def AM (P : Program) (N : Nat) (m : MC) (Q : AExit → A → AH → Prop) (a : A) (H : AH) : Prop :=
  ∀ imm lv c,mcOf P imm lv N c = some m → AW P N c Q a H
def SQ (P : Program) (N : Nat) (y : MC) (Q : AExit → A → AH → Prop) : AExit → A → AH → Prop
  | .normal => AM P N y Q
  | e => Q e
def BQ (id : Nat) (Q : AExit → A → AH → Prop) : AExit → A → AH → Prop
  | .exit i => if i = id then Q .normal else Q (.exit i)
  | e => Q e
def LQ (I : Nat → A → AH → Prop) (n : Nat) (Q : AExit → A → AH → Prop) : AExit → A → AH → Prop
  | .normal => fun a' H' => ∃ m,m < n ∧ I m a' H'
  | e => Q e
section rules
variable {P : Program} {N : Nat} {Q : AExit → A → AH → Prop} {a : A} {H : AH}
theorem region_no {imm : Nat → Bool} {lv : Nat → List Nat × List Nat} {id : Nat} {ops : Array Oper} {d : Bool} {m : MC} (hc : mcOf P imm lv N (.region id ops d) = some m) (h1 : ∀ ms l,MC.reg ms l ≠ m) (h2 : ∀ ps ts l,MC.drw ps ts l ≠ m) (h3 : MC.stuck ≠ m) (h4 : ∀ ps ts l,MC.drx ps ts l ≠ m) (h5 : ∀ ps as t l,MC.drt ps as t l ≠ m) : False := by
  cases d <;> simp only [mcOf] at hc <;> refine (orStuck_eq hc).elim (fun hc => ?_) (fun hc => h3 hc)
  · simp only [Option.map_eq_some_iff] at hc
    obtain ⟨ms,_,h⟩ := hc
    exact h1 _ _ h
  · obtain ⟨ms,_,h⟩ := Option.bind_eq_some_iff.1 hc
    replace h := drwOf2_of h5 h
    unfold drwOf at h
    split at h
    · split at h
      · cases h; exact h4 _ _ _ rfl
      · cases h; exact h2 _ _ _ rfl
    · cases h
theorem am_drw {ps ts : List MO} {l : List Nat} (h : drawE P ps a H (fun a' => awOps P ts a' H (regK l Q) (regP Q))) : AM P N (.drw ps ts l) Q a H := by
  intro imm lv c hc
  cases c <;> (try simp only [mcOf] at hc) <;> try (cases hc; done)
  case region id ops d =>
    cases d <;> simp only [mcOf] at hc <;> refine (orStuck_eq hc).elim (fun hc => ?_) (fun hc => by cases hc)
    · simp only [Option.map_eq_some_iff] at hc
      obtain ⟨ms',h1,h2⟩ := hc
      cases h2
    · obtain ⟨ms',h1,h2⟩ := Option.bind_eq_some_iff.1 hc
      replace h2 := drwOf2_of (by intros; simp) h2
      unfold drwOf at h2
      split at h2
      · rename_i hok
        split at h2
        · cases h2
        · rename_i hw
          cases h2
          exact aw_draw h1 hok.1 hok.2 (by simpa using hw) h
      · cases h2
  all_goals (first | (simp at hc; done) | (split at hc <;> simp at hc))
theorem am_drxG {ps ts : List MO} {l : List Nat} (G : AH) (hG : G.lec H) (h : drawE P ps a G (fun a' => awOpsG P (some G) ts a' H (regK l Q) (regP Q))) : AM P N (.drx ps ts l) Q a H := by
  intro imm lv c hc
  cases c <;> (try simp only [mcOf] at hc) <;> try (cases hc; done)
  case region id ops d =>
    cases d <;> simp only [mcOf] at hc <;> refine (orStuck_eq hc).elim (fun hc => ?_) (fun hc => by cases hc)
    · simp only [Option.map_eq_some_iff] at hc
      obtain ⟨ms',h1,h2⟩ := hc
      cases h2
    · obtain ⟨ms',h1,h2⟩ := Option.bind_eq_some_iff.1 hc
      replace h2 := drwOf2_of (by intros; simp) h2
      unfold drwOf at h2
      split at h2
      · rename_i hok
        split at h2
        · cases h2
          exact aw_drawW h1 hok.1 hok.2 G hG h
        · cases h2
      · cases h2
  all_goals (first | (simp at hc; done) | (split at hc <;> simp at hc))
theorem am_drt {ps as : List MO} {t : TT} {l : List Nat} (h : drawE P ps a H (fun a' => awOps P as a' H (fun a H => awT P (regK l Q) (regP Q) t a H) (regP Q))) : AM P N (.drt ps as t l) Q a H := by
  intro imm lv c hc
  cases c <;> (try simp only [mcOf] at hc) <;> try (cases hc; done)
  case region id ops d =>
    cases d <;> simp only [mcOf] at hc <;> refine (orStuck_eq hc).elim (fun hc => ?_) (fun hc => by cases hc)
    · simp only [Option.map_eq_some_iff] at hc
      obtain ⟨ms',h1,h2⟩ := hc
      cases h2
    · obtain ⟨ms',h1,h2⟩ := Option.bind_eq_some_iff.1 hc
      unfold drwOf2 at h2
      split at h2
      · rename_i m h3
        cases h2
        unfold drwOf at h3
        split at h3 <;> (try split at h3) <;> simp at h3
      · split at h2
        · rename_i hok
          cases h2
          exact aw_drawT h1 hok.1 hok.2.1 hok.2.2 h
        · cases h2
  all_goals (first | (simp at hc; done) | (split at hc <;> simp at hc))
def Both (p q : Prop) : Prop := p ∧ q
section
variable {K : A → AH → Prop} {Kp : AH → Prop}
@[go_sem] theorem awT_done : awT P K Kp .done a H = K a H := rfl
@[go_sem] theorem awT_or (t u : TT) : awT P K Kp (.or t u) a H = Both (awT P K Kp t a H) (awT P K Kp u a H) := rfl
def guardT (w : Bool) (P : Program) (d : Option Nat) (m : MOp) (t : TT) (a : A) (H : AH) (K : A → AH → Prop) (Kp : AH → Prop) : V → Prop
  | .bool b => if b = w then mop P m a H (fun v H' => awT P K Kp t (a.putD d v) H') Kp else awT P K Kp t (a.putD d unitV) H
  | .tuple _ => awT P K Kp t (a.putD d unitV) H
  | _ => False
@[go_sem] theorem awT_guard (d : Option Nat) (u : Nat) (w : Bool) (m : MOp) (t : TT) : awT P K Kp (.op ⟨d,some (u,w),m⟩ t) a H = need (a.get u) (guardT w P d m t a H K Kp) := by
  simp only [awT,stepE]
  cases a.get u with
  | none => rfl
  | some v => cases v <;> rfl
@[go_sem] theorem guardT_bool (w b : Bool) (d : Option Nat) (m : MOp) (t : TT) : guardT w P d m t a H K Kp (.bool b) = if b = w then mop P m a H (fun v H' => awT P K Kp t (a.putD d v) H') Kp else awT P K Kp t (a.putD d unitV) H := rfl
@[go_sem] theorem awT_op (d : Option Nat) (m : MOp) (t : TT) : awT P K Kp (.op ⟨d,none,m⟩ t) a H = mop P m a H (fun v H' => awT P K Kp t (a.putD d v) H') Kp := rfl
end
theorem am_drx {ps ts : List MO} {l : List Nat} (h : drawE P ps a H (fun a' => awOpsG P (some H) ts a' H (regK l Q) (regP Q))) : AM P N (.drx ps ts l) Q a H := am_drxG H (AH.lec_refl H) h
theorem am_skip (h : Q .normal a H) : AM P N .skip Q a H := by
  intro imm lv c hc
  cases c <;> (try simp only [mcOf] at hc) <;> try (cases hc; done)
  case skip => exact aw_skip h
  case region id ops d => exact (region_no hc (by intros; simp) (by intros; simp) (by simp) (by intros; simp) (by intros; simp)).elim
  all_goals (first | (simp at hc; done) | (split at hc <;> simp at hc))
theorem am_reg {ms : List MO} {l : List Nat} (h : awOps P ms a H (regK l Q) (regP Q)) : AM P N (.reg ms l) Q a H := by
  intro imm lv c hc
  cases c <;> (try simp only [mcOf] at hc) <;> try (cases hc; done)
  case region id ops d =>
    cases d <;> simp only [mcOf] at hc <;> refine (orStuck_eq hc).elim (fun hc => ?_) (fun hc => by cases hc)
    · simp only [Option.map_eq_some_iff] at hc
      obtain ⟨ms',h1,h2⟩ := hc
      cases h2
      exact aw_region h1 h
    · obtain ⟨ms',h1,h2⟩ := Option.bind_eq_some_iff.1 hc
      replace h2 := drwOf2_of (by intros; simp) h2
      unfold drwOf at h2
      split at h2 <;> (try split at h2) <;> simp at h2
  all_goals (first | (simp at hc; done) | (split at hc <;> simp at hc))
theorem am_seq {x y : MC} (h : AM P N x (SQ P N y Q) a H) : AM P N (.seq x y) Q a H := by
  intro imm lv c hc
  cases c <;> (try simp only [mcOf] at hc) <;> try (cases hc; done)
  case seq c1 c2 =>
    split at hc
    · rename_i x' y' h1 h2
      cases hc
      refine aw_seq ((h imm lv c1 h1).mono fun e a H hq => ?_)
      cases e with
      | normal => exact hq imm lv c2 h2
      | _ => exact hq
    · cases hc
  case region id ops d => exact (region_no hc (by intros; simp) (by intros; simp) (by simp) (by intros; simp) (by intros; simp)).elim
  all_goals (first | (simp at hc; done) | (split at hc <;> simp at hc))
theorem am_cond {t : Opd} {x y : MC} {b : Bool} (hb : a.ev t = some (.bool b)) (ht : b = true → AM P N x Q a H) (hf : b = false → AM P N y Q a H) : AM P N (.cond t x y) Q a H := by
  intro imm lv c hc
  cases c <;> (try simp only [mcOf] at hc) <;> try (cases hc; done)
  case cond o c1 c2 =>
    split at hc
    · rename_i t' x' y' h0 h1 h2
      cases hc
      refine aw_cond (b := b) (fun s act ha => val_bool (opd_holds ha h0 hb)) (fun e => ht e imm lv c1 h1) (fun e => hf e imm lv c2 h2)
    · cases hc
  case region id ops d => exact (region_no hc (by intros; simp) (by intros; simp) (by simp) (by intros; simp) (by intros; simp)).elim
  all_goals (first | (simp at hc; done) | (split at hc <;> simp at hc))
theorem am_block {id : Nat} {x : MC} (h : AM P N x (BQ id Q) a H) : AM P N (.block id x) Q a H := by
  intro imm lv c hc
  cases c <;> (try simp only [mcOf] at hc) <;> try (cases hc; done)
  case block i c1 =>
    simp only [Option.map_eq_some_iff] at hc
    obtain ⟨x',h1,h2⟩ := hc
    cases h2
    refine aw_block ((h imm lv c1 h1).mono fun e a H hq => ?_)
    cases e <;> exact hq
  case region id ops d => exact (region_no hc (by intros; simp) (by intros; simp) (by simp) (by intros; simp) (by intros; simp)).elim
  all_goals (first | (simp at hc; done) | (split at hc <;> simp at hc))
theorem am_loop {x : MC} (I : Nat → A → AH → Prop) (round : ∀ n a H,I n a H → AM P N x (LQ I n Q) a H) (n : Nat) (h0 : I n a H) : AM P N (.loop x) Q a H := by
  intro imm lv c hc
  cases c <;> (try simp only [mcOf] at hc) <;> try (cases hc; done)
  case loop c1 =>
    simp only [Option.map_eq_some_iff] at hc
    obtain ⟨x',h1,h2⟩ := hc
    cases h2
    exact aw_loop I (fun n a H hi => (round n a H hi imm lv c1 h1).mono fun e a H hq => by cases e <;> exact hq) n h0
  case region id ops d => exact (region_no hc (by intros; simp) (by intros; simp) (by simp) (by intros; simp) (by intros; simp)).elim
  all_goals (first | (simp at hc; done) | (split at hc <;> simp at hc))
theorem am_exit {id : Nat} (h : Q (.exit id) a H) : AM P N (.exit id) Q a H := by
  intro imm lv c hc
  cases c <;> (try simp only [mcOf] at hc) <;> try (cases hc; done)
  case exit i => cases hc; exact aw_exit h
  case region id ops d => exact (region_no hc (by intros; simp) (by intros; simp) (by simp) (by intros; simp) (by intros; simp)).elim
  all_goals (first | (simp at hc; done) | (split at hc <;> simp at hc))
theorem am_ret (h : Q .ret a H) : AM P N .ret Q a H := by
  intro imm lv c hc
  cases c <;> (try simp only [mcOf] at hc) <;> try (cases hc; done)
  case ret => exact aw_ret h
  case region id ops d => exact (region_no hc (by intros; simp) (by intros; simp) (by simp) (by intros; simp) (by intros; simp)).elim
  all_goals (first | (simp at hc; done) | (split at hc <;> simp at hc))
theorem AM.mono {m : MC} {Q' : AExit → A → AH → Prop} (h : AM P N m Q a H) (hq : ∀ e a H,Q e a H → Q' e a H) : AM P N m Q' a H :=
  fun imm lv c hc => (h imm lv c hc).mono hq
theorem AM.weaken {m : MC} {H' : AH} (h : AM P N m Q a H) (hl : H.le H') : AM P N m Q a H' :=
  fun imm lv c hc => (h imm lv c hc).weaken hl
theorem AM.sub {m : MC} {a' : A} (h : AM P N m Q a' H) (hs : ∀ t v,a'.get t = some v → a.get t = some v) : AM P N m Q a H :=
  fun imm lv c hc => (h imm lv c hc).sub hs
end rules
/-! ### Functions -/
inductive RV where
  | tmp (t : Nat)
  | cell (t : Nat) (agg : Bool) (sz : Nat)
def rvOf (P : Program) : ResultVar → Option RV
  | .tmp t => some (.tmp t)
  | .cell t T => (tinfo P T).map fun (agg,sz) => .cell t agg sz
def rvsOf (P : Program) : List ResultVar → Option (List RV)
  | [] => some []
  | r :: rs => match rvOf P r,rvsOf P rs with
    | some x,some xs => some (x :: xs)
    | _,_ => none
def rvGet (a : A) (H : AH) : RV → Option V
  | .tmp t => a.get t
  | .cell t agg sz => match a.get t with
    | some (.ptr i off) => match H i with
      | some (.cells cs) => pickCells agg sz cs off
      | _ => none
    | some (.rptr cs off) => pickCells agg sz cs off
    | _ => none
def rvsGet (a : A) (H : AH) : List RV → Option (List V)
  | [] => some []
  | r :: rs => match rvGet a H r,rvsGet a H rs with
    | some v,some vs => some (v :: vs)
    | _,_ => none
def resOne : List V → V
  | [v] => v
  | vs => .tuple vs
def Body (rs : List RV) (Q : Out → AH → Prop) : AExit → A → AH → Prop
  | .normal,a,H | .ret,a,H => need (rvsGet a H rs) fun vs => Q (.ret (resOne vs)) H
  | .panic,_,H => Q .pan H
  | _,_,_ => False
theorem rv_sound {P : Program} {r : ResultVar} {q : RV} (h : rvOf P r = some q) {s : St} {H : AH} (hr : HRel s H) {a : A} {act : Act} (ha : ARel s a act) {v : V} (hv : rvGet a H q = some v) :
    ∃ x,((match r with | .tmp t => Pure.pure (act.tmps.getD t undef) | .cell p t => do loadVar t (← asAddr (act.tmps.getD p undef))) : Sem Value).run P s.w = .ok x s.w ∧ s.val v x := by
  cases r with
  | tmp t =>
    cases h
    obtain ⟨x,h1,h2⟩ := ha.get t v hv
    exact ⟨x,by simp [h1],h2⟩
  | cell p T =>
    simp only [rvOf,Option.map_eq_some_iff] at h
    obtain ⟨⟨agg,sz⟩,h1,rfl⟩ := h
    simp only [rvGet] at hv
    split at hv
    · rename_i i off hp
      split at hv
      · rename_i cs hob
        obtain ⟨x,x1,x2⟩ := ha.get p _ hp
        have := load_sound (tinfo_TI h1) hr x2 (k := fun u => u = v) (by simp only [vload,hob,hv,need])
        obtain ⟨y,u,y1,y2,rfl⟩ := this
        obtain ⟨b,hb,rfl⟩ := inv_ptr x2
        refine ⟨y,?_,y2⟩
        simpa [x1,asAddr,Instr.loadAt,Instr.sureAddr] using y1
      · cases hv
    · rename_i cs off hp
      obtain ⟨x,x1,x2⟩ := ha.get p _ hp
      have := load_sound (tinfo_TI h1) hr x2 (k := fun u => u = v) (by simp only [vload,hv,need])
      obtain ⟨y,u,y1,y2,rfl⟩ := this
      obtain ⟨b,o,hb,rfl⟩ := inv_rptr x2
      refine ⟨y,?_,y2⟩
      simpa [x1,asAddr,Instr.loadAt,Instr.sureAddr] using y1
    · cases hv
theorem rvs_sound {P : Program} {s : St} {H : AH} (hr : HRel s H) {a : A} {act : Act} (ha : ARel s a act) : ∀ (rs : List ResultVar) (qs : List RV) (vs : List V),rvsOf P rs = some qs → rvsGet a H qs = some vs →
    ∃ xs,(rs.mapM fun (r : ResultVar) => ((match r with | .tmp t => Pure.pure (act.tmps.getD t undef) | .cell p t => do loadVar t (← asAddr (act.tmps.getD p undef))) : Sem Value)).run P s.w = .ok xs s.w ∧ s.vals vs xs
  | [],qs,vs,h,hv => by cases h; cases hv; exact ⟨[],rfl,.nil⟩
  | r :: rs,qs,vs,h,hv => by
    simp only [rvsOf] at h
    split at h
    · rename_i q qs' h1 h2
      cases h
      simp only [rvsGet] at hv
      split at hv
      · rename_i v vs' h3 h4
        cases hv
        obtain ⟨x,x1,x2⟩ := rv_sound h1 hr ha h3
        obtain ⟨xs,y1,y2⟩ := rvs_sound hr ha rs qs' vs' h2 h4
        exact ⟨x :: xs,by simp only [List.mapM_cons,Sem.run_bind,x1,Result.andThen_ok,y1,Sem.run_pure],.cons _ _ _ _ x2 y2⟩
      · cases hv
    · cases h
theorem results_sound {P : Program} {fn : Func} {qs : List RV} (h : rvsOf P fn.results.toList = some qs) {s : St} {H : AH} (hr : HRel s H) {a : A} {act : Act} (ha : ARel s a act) {vs : List V} (hv : rvsGet a H qs = some vs) :
    ∃ x,(results fn act.tmps).run P s.w = .ok x s.w ∧ s.val (resOne vs) x := by
  obtain ⟨xs,h1,h2⟩ := rvs_sound hr ha fn.results.toList qs vs h hv
  have hl := vals_length h2
  have hm : (fn.results.mapM fun (r : ResultVar) => ((match r with | .tmp t => Pure.pure (act.tmps.getD t undef) | .cell p t => do loadVar t (← asAddr (act.tmps.getD p undef))) : Sem Value)).run P s.w = .ok xs.toArray s.w := by
    rw [Array.mapM_eq_mapM_toList,Sem.run_map,h1]; rfl
  have key : (results fn act.tmps).run P s.w = (Result.ok xs.toArray s.w).andThen (fun vs w' => (Pure.pure (if h : vs.size = 1 then vs[0] else .tuple vs) : Sem Value).run P w') := by
    unfold results
    rw [Sem.run_bind]
    exact congrArg (fun r => Result.andThen r _) hm
  rw [key]
  simp only [Result.andThen_ok,Sem.run_pure]
  match vs,xs,h2,hl with
  | [],[],h2,_ => exact ⟨_,rfl,.tuple [] [] .nil⟩
  | [v],[x],.cons _ _ _ _ hv _,_ => exact ⟨_,rfl,hv⟩
  | v :: u :: vs,x :: y :: xs,h2,_ => exact ⟨_,rfl,by rw [dif_neg (by simp)]; exact .tuple _ _ h2⟩
theorem acalls {P : Program} {f : FuncId} {fn : Func} {imm : Nat → Bool} {lv : Nat → List Nat × List Nat} {m : MC} {rs : List RV} {vs : List V} {H : AH} {Q : Out → AH → Prop} (hf : P.funcs[f]? = some fn) (hm : fn.body.bind (mcOf P imm lv fn.ntmps) = some m) (hrs : rvsOf P fn.results.toList = some rs) (hN : vs.length ≤ fn.ntmps)
    (h : AM P fn.ntmps m (Body rs Q) (params 0 vs) H) : ACalls P f vs H Q := by
  intro s xs hr hv
  rw [Option.bind_eq_some_iff] at hm
  obtain ⟨c,hb,hc⟩ := hm
  have hl := vals_length hv
  refine calls_of_wp hf hb ?_
  have hsz : (xs.toArray ++ Array.replicate (fn.ntmps - xs.toArray.size) undef).size = fn.ntmps := by simp; omega
  have ha : ARel s (params 0 vs) { tmps := xs.toArray ++ Array.replicate (fn.ntmps - xs.toArray.size) undef,defers := [] } := by
    refine ⟨fun t v ht => ?_⟩
    obtain ⟨_,h2⟩ := params_get vs 0 t v ht
    obtain ⟨x,x1,x2⟩ := vals_get hv (by simpa using h2)
    have hlt : t < xs.length := (List.getElem?_eq_some_iff.1 x1).1
    exact ⟨x,by rw [Array.getElem?_append_left (by simpa using hlt)]; simpa using x1,x2⟩
  refine wp_mono (h imm lv c hc s _ hsz hr ha) ?_
  rintro e act' w' ⟨ae,hfit,s',a',H',rfl,hx,hr',ha',hd,hn,hq⟩
  have fin : need (rvsGet a' H' rs) (fun vs => Q (.ret (resOne vs)) H') → act'.defers = [] ∧ ∃ v,(results fn act'.tmps).run P s'.w = .ok v s'.w ∧ Post s Q (.returned v) s'.w := by
    intro hq
    obtain ⟨us,h1,h2⟩ := need_elim hq
    obtain ⟨x,x1,x2⟩ := results_sound hrs hr' ha' h1
    exact ⟨hd,x,x1,s',H',.ret (resOne us),rfl,hx,hr',x2,h2⟩
  cases e <;> cases ae <;> simp only [AExit.fits] at hfit <;> simp only [Body] at hq
  all_goals first
    | exact fin hq
    | exact ⟨hd,s',H',.pan,rfl,hx,hr',hfit,hq⟩
end Go.Vm
