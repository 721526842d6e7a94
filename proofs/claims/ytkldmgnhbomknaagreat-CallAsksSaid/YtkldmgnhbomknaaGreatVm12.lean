/- How the walks reckon: the equations of 'awOps', one operation at a time. -/
import Derived.Test.YtkldmgnhbomknaaGreatVm11
set_option linter.unusedVariables false
set_option linter.unusedSimpArgs false
namespace Go.Vm
attribute [go_sem] need_some
@[congr] theorem need_congr {α : Type} {o o' : Option α} {k : α → Prop} (h : o = o') : need o k = need o' k := by rw [h]
@[congr] theorem outK_congr (k : V → AH → Prop) (kp : AH → Prop) : outK k kp = outK k kp := rfl
@[congr] theorem regK_congr (l : List Nat) (Q : AExit → A → AH → Prop) : regK l Q = regK l Q := rfl
@[congr] theorem regP_congr (Q : AExit → A → AH → Prop) : regP Q = regP Q := rfl
def gif (b : Bool) (x y : Prop) : Prop := if b = true then x else y
@[congr] theorem gif_congr {b b' : Bool} {x y : Prop} (h : b = b') : gif b x y = gif b' x y := by rw [h]
@[go_sem ↓] theorem gif_true (x y : Prop) : gif true x y = x := by simp [gif]
@[go_sem ↓] theorem gif_false (x y : Prop) : gif false x y = y := by simp [gif]
def guardK (w : Bool) (x y : Prop) : V → Prop
  | .bool b => gif (b == w) x y
  | .tuple _ => y
  | _ => False
@[go_sem ↓] theorem guardK_bool (w b : Bool) (x y : Prop) : guardK w x y (.bool b) = gif (b == w) x y := rfl
def gd (b : Bool) (P : Program) (d : Option Nat) (m : MOp) (ms : List MO) (a : A) (H : AH) (K : A → AH → Prop) (Kp : AH → Prop) : Prop :=
  if b = true then mop P m a H (fun v H' => awOps P ms (a.putD d v) H' K Kp) Kp else awOps P ms (a.putD d unitV) H K Kp
section
variable {P : Program} {d : Option Nat} {m : MOp} {ms : List MO} {a : A} {H : AH} {K : A → AH → Prop} {Kp : AH → Prop}
@[congr] theorem gd_congr {b b' : Bool} (h : b = b') : gd b P d m ms a H K Kp = gd b' P d m ms a H K Kp := by rw [h]
@[go_sem ↓] theorem gd_true : gd true P d m ms a H K Kp = mop P m a H (fun v H' => awOps P ms (a.putD d v) H' K Kp) Kp := by simp [gd]
@[go_sem ↓] theorem gd_false : gd false P d m ms a H K Kp = awOps P ms (a.putD d unitV) H K Kp := by simp [gd]
theorem gd_of {b : Bool} (h1 : b = true → mop P m a H (fun v H' => awOps P ms (a.putD d v) H' K Kp) Kp) (h2 : b = false → awOps P ms (a.putD d unitV) H K Kp) : gd b P d m ms a H K Kp := by
  cases b
  · rw [gd_false]; exact h2 rfl
  · rw [gd_true]; exact h1 rfl
theorem gd_not {b : Bool} (h1 : b = false → mop P m a H (fun v H' => awOps P ms (a.putD d v) H' K Kp) Kp) (h2 : b = true → awOps P ms (a.putD d unitV) H K Kp) : gd (!b) P d m ms a H K Kp := by
  cases b
  · rw [Bool.not_false,gd_true]; exact h1 rfl
  · rw [Bool.not_true,gd_false]; exact h2 rfl
end
def guardM (w : Bool) (P : Program) (d : Option Nat) (m : MOp) (ms : List MO) (a : A) (H : AH) (K : A → AH → Prop) (Kp : AH → Prop) : V → Prop
  | .bool b => gd (b == w) P d m ms a H K Kp
  | .tuple _ => awOps P ms (a.putD d unitV) H K Kp
  | _ => False
@[go_sem ↓] theorem guardM_bool (w b : Bool) (P : Program) (d : Option Nat) (m : MOp) (ms : List MO) (a : A) (H : AH) (K : A → AH → Prop) (Kp : AH → Prop) : guardM w P d m ms a H K Kp (.bool b) = gd (b == w) P d m ms a H K Kp := rfl
@[go_sem ↓] theorem guardM_unit (w : Bool) (P : Program) (d : Option Nat) (m : MOp) (ms : List MO) (a : A) (H : AH) (K : A → AH → Prop) (Kp : AH → Prop) : guardM w P d m ms a H K Kp unitV = awOps P ms (a.putD d unitV) H K Kp := rfl
@[go_sem] theorem b_true (b : Bool) : (b == true) = b := by cases b <;> rfl
@[go_sem] theorem b_false (b : Bool) : (b == false) = !b := by cases b <;> rfl
section
variable {P : Program} {a : A} {H : AH} {K : A → AH → Prop} {Kp : AH → Prop} {k : V → AH → Prop} {kv : V → Prop}
@[go_sem] theorem awOps_nil : awOps P [] a H K Kp = K a H := rfl
@[go_sem] theorem awOps_cons (d : Option Nat) (m : MOp) (ms : List MO) : awOps P (⟨d,none,m⟩ :: ms) a H K Kp = mop P m a H (fun v H' => awOps P ms (a.putD d v) H' K Kp) Kp := rfl
@[go_sem] theorem awOps_guard (d : Option Nat) (t : Nat) (w : Bool) (m : MOp) (ms : List MO) : awOps P (⟨d,some (t,w),m⟩ :: ms) a H K Kp =
    need (a.get t) (guardM w P d m ms a H K Kp) := by
  simp only [awOps]
  cases h : a.get t with
  | none => rfl
  | some v =>
    simp only [need_some]
    cases v <;> simp only [guardM]
    rename_i b
    by_cases e : b = w
    · subst e; simp [gd]
    · simp [gd,e]
def sel (b : Bool) (v : V) (a : A) (u : Nat) : Option V :=
  match b with
  | true => some v
  | false => a.get u
@[congr] theorem sel_congr {b b' : Bool} {v : V} {a : A} {u : Nat} (h : b = b') : sel b v a u = sel b' v a u := by rw [h]
@[go_sem] theorem sel_true (v : V) (a : A) (u : Nat) : sel true v a u = some v := rfl
@[go_sem] theorem sel_false (v : V) (a : A) (u : Nat) : sel false v a u = a.get u := rfl
@[go_sem ↓] theorem get_nil (u : Nat) : A.get [] u = none := rfl
@[go_sem ↓] theorem get_cons (t : Nat) (v : V) (a : A) (u : Nat) : A.get ((t,v) :: a) u = sel (t == u) v a u := by
  simp only [A.get,sel]
  by_cases h : t = u
  · simp [h]
  · have : (t == u) = false := by simp [h]
    simp [this,h]
def selP (b : Bool) (t : Nat) (w : V) (a : A) (d : Nat) (v : V) : A :=
  match b with
  | true => (d,v) :: a
  | false => (t,w) :: a.put d v
@[congr] theorem selP_congr {b b' : Bool} {t : Nat} {w : V} {a : A} {d : Nat} {v : V} (h : b = b') : selP b t w a d v = selP b' t w a d v := by rw [h]
@[go_sem] theorem selP_true (t : Nat) (w : V) (a : A) (d : Nat) (v : V) : selP true t w a d v = (d,v) :: a := rfl
@[go_sem] theorem selP_false (t : Nat) (w : V) (a : A) (d : Nat) (v : V) : selP false t w a d v = (t,w) :: a.put d v := rfl
@[go_sem ↓] theorem put_nil (d : Nat) (v : V) : A.put [] d v = [(d,v)] := rfl
@[go_sem ↓] theorem put_cons (t : Nat) (w : V) (a : A) (d : Nat) (v : V) : A.put ((t,w) :: a) d v = selP (t == d) t w a d v := by
  simp only [A.put,selP]
  by_cases h : t = d
  · simp [h]
  · have : (t == d) = false := by simp [h]
    simp [this,h]
@[go_sem ↓] theorem putD_some (a : A) (d : Nat) (v : V) : a.putD (some d) v = a.put d v := rfl
@[go_sem ↓] theorem putD_none (a : A) (v : V) : a.putD none v = a := rfl
@[go_sem ↓] theorem only_nil (a : A) : A.only [] a = [] := rfl
@[go_sem ↓] theorem only_cons (t : Nat) (ts : List Nat) (a : A) : A.only (t :: ts) a = onlyC t (a.get t) (A.only ts a) := rfl
@[go_sem] theorem onlyC_some (t : Nat) (v : V) (r : A) : onlyC t (some v) r = (t,v) :: r := rfl
@[go_sem] theorem onlyC_none (t : Nat) (r : A) : onlyC t none r = r := rfl
attribute [go_sem] regK regP
attribute [go_sem] reduceIte and_true true_and ne_eq not_true_eq_false not_false_eq_true reduceCtorEq
@[go_sem ↓] theorem ev_t (a : A) (n : Nat) : a.ev (.t n) = a.get n := rfl
@[go_sem ↓] theorem ev_c (a : A) (v : V) : a.ev (.c v) = some v := rfl
def consO : Option V → Option (List V) → Option (List V)
  | some v,some vs => some (v :: vs)
  | _,_ => none
@[go_sem] theorem evs_nil (a : A) : a.evs [] = some [] := rfl
@[go_sem] theorem evs_cons (a : A) (x : Opd) (xs : List Opd) : a.evs (x :: xs) = consO (a.ev x) (a.evs xs) := by
  simp only [A.evs]; cases a.ev x <;> cases a.evs xs <;> rfl
@[go_sem] theorem consO_some (v : V) (vs : List V) : consO (some v) (some vs) = some (v :: vs) := rfl
@[go_sem ↓] theorem mop_val (q : VOp) : mop P (.val q) a H k Kp = vop q a H (fun v => k v H) := rfl
@[go_sem ↓] theorem mop_zalloc (cs : List V) : mop P (.zalloc cs) a H k Kp = ∀ i,H i = none → k (.ptr i 0) (H.put i (.cells cs)) := rfl
@[go_sem ↓] theorem mop_box (x : Opd) : mop P (.box x) a H k Kp = need (a.ev x) (fun v => v.flat = true ∧ ∀ i,H i = none → k (.ptr i 0) (H.put i (.cells v.cells))) := rfl
@[go_sem ↓] theorem mop_boxi (x : Opd) : mop P (.boxi x) a H k Kp = need (a.ev x) (fun v => v.flat = true ∧ k (.rptr v.cells 0) H) := rfl
@[go_sem ↓] theorem mop_build (z : List V) (ps : List (Nat × Nat × Opd)) : mop P (.build z ps) a H k Kp = need (lay a z ps) (fun cs => k (.agg cs) H) := rfl
@[go_sem ↓] theorem mop_bslice (sz n : Nat) (z : List V) (ps : List (Nat × Nat × Opd)) : mop P (.bslice sz n z ps) a H k Kp = need (lay a z ps) (fun cs => k (.sl sz (chop sz n cs) .tight) H) := rfl
def storeK (H : AH) (sz i off : Nat) (k : V → AH → Prop) (v : V) : Prop :=
  need (H i) fun
    | .cells cs => (v.flat = true ∧ v.cells.length = sz ∧ off + sz ≤ cs.length) ∧ k unitV (H.put i (.cells (over cs off v.cells)))
    | _ => False
def storeP (H : AH) (sz : Nat) (o : Option V) (k : V → AH → Prop) : V → Prop
  | .ptr i off => need o (storeK H sz i off k)
  | _ => False
@[go_sem ↓] theorem storeP_ptr (sz i off : Nat) (o : Option V) : storeP H sz o k (.ptr i off) = need o (storeK H sz i off k) := rfl
def storeC (H : AH) (sz i off : Nat) (v : V) (k : V → AH → Prop) : AObj → Prop
  | .cells cs => (v.flat = true ∧ v.cells.length = sz ∧ off + sz ≤ cs.length) ∧ k unitV (H.put i (.cells (over cs off v.cells)))
  | _ => False
@[go_sem ↓] theorem storeK_eq (sz i off : Nat) (v : V) : storeK H sz i off k v = need (H i) (storeC H sz i off v k) := by
  unfold storeK; congr 1
@[go_sem ↓] theorem storeC_cells (sz i off : Nat) (v : V) (cs : List V) : storeC H sz i off v k (.cells cs) = ((v.flat = true ∧ v.cells.length = sz ∧ off + sz ≤ cs.length) ∧ k unitV (H.put i (.cells (over cs off v.cells)))) := rfl
@[go_sem ↓] theorem mop_store (sz : Nat) (x y : Opd) : mop P (.store sz x y) a H k Kp = need (a.ev x) (storeP H sz (a.ev y) k) := by
  simp only [mop]
  cases a.ev x with
  | none => rfl
  | some v => cases v <;> rfl
def s2bK (H : AH) (k : V → AH → Prop) : V → Prop
  | .str l => k (.sl 1 (byteCells l) .no) H
  | _ => False
@[go_sem ↓] theorem s2bK_str (l : List UInt8) : s2bK H k (.str l) = k (.sl 1 (byteCells l) .no) H := rfl
@[go_sem ↓] theorem mop_s2b (x : Opd) : mop P (.s2b x) a H k Kp = need (a.ev x) (s2bK H k) := by
  simp only [mop]
  cases a.ev x with
  | none => rfl
  | some v => cases v <;> rfl
@[go_sem ↓] theorem mop_app (sz b : Nat) (x y : Opd) : mop P (.app sz b x y) a H k Kp = need (a.ev x) (fun u => need (a.ev y) fun v => need (elemsH H sz v) fun fs => vapp H sz b fs k u) := rfl
@[go_sem ↓] theorem mop_x (q : XOp) (xs : List Opd) : mop P (.xo q xs) a H k Kp = need (a.evs xs) (fun vs => xsem q H vs k) := rfl
@[go_sem ↓] theorem xs_appm (sz b : Nat) (u v : V) : xsem (.appm sz b) H [u,v] k = need (elemsH H sz v) (fun fs => vappm H sz b fs k u) := rfl
@[go_sem ↓] theorem xs_s2bm (l : List UInt8) : xsem .s2bm H [.str l] k = ∀ i,H i = none → k (.msl i 1 0 l.length) (H.put i (.cells (bytesV l))) := rfl
@[go_sem ↓] theorem xs_appg (sz b : Nat) (u v : V) : xsem (.appg sz b) H [u,v] k = need (elemsH H sz v) (fun fs => vappg H sz b fs k u) := rfl
@[go_sem ↓] theorem vappg_nil (sz b : Nat) (fs : List (List V)) : vappg H sz b fs k .nilSl = ((0 < fs.length ∧ fs.length * b ≤ 140737488355328) ∧ ∀ i,H i = none → k (.gsl i sz fs.length) (H.put i (.gr sz fs.length fs.flatten))) := rfl
def vappgK (H : AH) (sz b : Nat) (fs : List (List V)) (k : V → AH → Prop) (i z n : Nat) : AObj → Prop
  | .gr y m cs => (z = sz ∧ y = sz ∧ m = n ∧ 0 < fs.length ∧ (n + fs.length) * b ≤ 140737488355328) ∧ k (.gsl i sz (n + fs.length)) (H.put i (.gr sz (n + fs.length) (cs ++ fs.flatten)))
  | _ => False
@[go_sem ↓] theorem vappg_gsl (sz b : Nat) (fs : List (List V)) (i z n : Nat) : vappg H sz b fs k (.gsl i z n) = need (H i) (vappgK H sz b fs k i z n) := by
  simp only [vappg]; congr 1
@[go_sem ↓] theorem vappgK_gr (sz b : Nat) (fs : List (List V)) (i z n y m : Nat) (cs : List V) : vappgK H sz b fs k i z n (.gr y m cs) = ((z = sz ∧ y = sz ∧ m = n ∧ 0 < fs.length ∧ (n + fs.length) * b ≤ 140737488355328) ∧ k (.gsl i sz (n + fs.length)) (H.put i (.gr sz (n + fs.length) (cs ++ fs.flatten)))) := rfl
@[go_sem ↓] theorem xs_mkmap : xsem .mkmap H [] k = ∀ i,H i = none → k (.map i) (H.put i (.map [])) := rfl
def msetK (kk : BK) (i : Nat) (key v : V) (H : AH) (k : V → AH → Prop) : AObj → Prop
  | .map es => need (mfind kk key es) fun _ => k unitV (H.put i (.map (mput kk key v es)))
  | _ => False
@[go_sem ↓] theorem xs_mset (kk : BK) (i : Nat) (key v : V) : xsem (.mset kk) H [.map i,key,v] k = need (H i) (msetK kk i key v H k) := by
  unfold xsem; congr 1
@[go_sem ↓] theorem msetK_map (kk : BK) (i : Nat) (key v : V) (es : List (V × V)) : msetK kk i key v H k (.map es) = need (mfind kk key es) fun _ => k unitV (H.put i (.map (mput kk key v es))) := rfl
def mdelK (kk : BK) (i : Nat) (key : V) (H : AH) (k : V → AH → Prop) : AObj → Prop
  | .map es => need (mfind kk key es) fun _ => k unitV (H.put i (.map (mdel kk key es)))
  | _ => False
@[go_sem ↓] theorem xs_mdel (kk : BK) (i : Nat) (key : V) : xsem (.mdel kk) H [.map i,key] k = need (H i) (mdelK kk i key H k) := by
  unfold xsem; congr 1
@[go_sem ↓] theorem mdelK_map (kk : BK) (i : Nat) (key : V) (es : List (V × V)) : mdelK kk i key H k (.map es) = need (mfind kk key es) fun _ => k unitV (H.put i (.map (mdel kk key es))) := rfl
@[go_sem ↓] theorem xs_mrange_nil : xsem .mrange H [.nilMap] k = ∀ j,H j = none → k (.ptr j 0) (H.put j (.iter none)) := rfl
def mrangeK (i : Nat) (H : AH) (k : V → AH → Prop) : AObj → Prop
  | .map es => ∀ j,H j = none → k (.ptr j 0) ((H.put i (.mapi es j es none)).put j (.iter (some i)))
  | _ => False
@[go_sem ↓] theorem xs_mrange (i : Nat) : xsem .mrange H [.map i] k = need (H i) (mrangeK i H k) := by
  unfold xsem; congr 1
@[go_sem ↓] theorem mrangeK_map (i : Nat) (es : List (V × V)) : mrangeK i H k (.map es) = ∀ j,H j = none → k (.ptr j 0) ((H.put i (.mapi es j es none)).put j (.iter (some i))) := rfl
def mnextK2 (i j : Nat) (H : AH) (k : V → AH → Prop) : AObj → Prop
  | .mapi es j' left _ => j' = j ∧ (left = [] → k (.tuple [.bool false]) (H.put i (.map es))) ∧ ∀ l1 kv l2,left = l1 ++ kv :: l2 → k (.tuple [.bool true,kv.1,kv.2]) (H.put i (.mapi es j (l1 ++ l2) (some kv)))
  | _ => False
@[go_sem ↓] theorem xs_mrangev (es : List (V × V)) : xsem .mrange H [.mapv es] k = ∀ j,H j = none → k (.ptr j 0) (H.put j (.iterv es none)) := rfl
def mnextK (j : Nat) (H : AH) (k : V → AH → Prop) : AObj → Prop
  | .iterv left _ => (left = [] → k (.tuple [.bool false]) H) ∧ ∀ l1 kv l2,left = l1 ++ kv :: l2 → k (.tuple [.bool true,kv.1,kv.2]) (H.put j (.iterv (l1 ++ l2) (some kv)))
  | .iter none => k (.tuple [.bool false]) H
  | .iter (some i) => need (H i) (mnextK2 i j H k)
  | _ => False
@[go_sem ↓] theorem xs_mnext (j : Nat) : xsem .mnext H [.ptr j 0] k = need (H j) (mnextK j H k) := by
  unfold xsem; congr 1
@[go_sem ↓] theorem mnextK_v (j : Nat) (left : List (V × V)) (c : Option (V × V)) : mnextK j H k (.iterv left c) = ((left = [] → k (.tuple [.bool false]) H) ∧ ∀ l1 kv l2,left = l1 ++ kv :: l2 → k (.tuple [.bool true,kv.1,kv.2]) (H.put j (.iterv (l1 ++ l2) (some kv)))) := rfl
@[go_sem ↓] theorem mnextK_none (j : Nat) : mnextK j H k (.iter none) = k (.tuple [.bool false]) H := rfl
@[go_sem ↓] theorem mnextK_some (j i : Nat) : mnextK j H k (.iter (some i)) = need (H i) (mnextK2 i j H k) := rfl
@[go_sem ↓] theorem mnextK2_mapi (i j j' : Nat) (es left : List (V × V)) (c : Option (V × V)) : mnextK2 i j H k (.mapi es j' left c) = (j' = j ∧ (left = [] → k (.tuple [.bool false]) (H.put i (.map es))) ∧ ∀ l1 kv l2,left = l1 ++ kv :: l2 → k (.tuple [.bool true,kv.1,kv.2]) (H.put i (.mapi es j (l1 ++ l2) (some kv)))) := rfl
@[go_sem ↓] theorem xs_mkbld (T e : Nat) : xsem (.mkbld T e) H [] k = ∀ i,H i = none → k (.ptr i 0) (H.put i (.bld T e [])) := rfl
@[go_sem] theorem elemsH_nil (sz : Nat) : elemsH H sz .nilSl = some [] := rfl
@[go_sem] theorem elemsH_sl (sz z : Nat) (es : List (List V)) (t : Tok) : elemsH H sz (.sl z es t) = if z = sz then some es else none := rfl
@[go_sem] theorem elemsH_str (sz : Nat) (l : List UInt8) : elemsH H sz (.str l) = if sz = 1 then some (byteCells l) else none := rfl
@[go_sem ↓] theorem mop_call (f : Nat) (xs : List Opd) : mop P (.call f xs) a H k Kp = need (a.evs xs) (fun vs => ACalls P f vs H (outK k Kp)) := rfl
def isnE (neg : Bool) (k : V → AH → Prop) (H : AH) (es : List (List V)) : Prop :=
  match es with
  | [] => k (.bool true) H ∧ k (.bool false) H
  | _ :: _ => k (.bool neg) H
@[congr] theorem isnE_congr {neg : Bool} {k : V → AH → Prop} {H : AH} {es es' : List (List V)} (h : es = es') : isnE neg k H es = isnE neg k H es' := by rw [h]
@[go_sem] theorem isnE_cons (neg : Bool) (k : V → AH → Prop) (H : AH) (e : List V) (es : List (List V)) : isnE neg k H (e :: es) = k (.bool neg) H := rfl
theorem isnE_of {neg : Bool} {k : V → AH → Prop} {H : AH} {es : List (List V)} (h1 : es = [] → k (.bool true) H) (h2 : es = [] → k (.bool false) H) (h3 : es ≠ [] → k (.bool neg) H) : isnE neg k H es := by
  cases es with
  | nil => exact ⟨h1 rfl,h2 rfl⟩
  | cons e es => exact h3 (by simp)
def isnK (neg : Bool) (k : V → AH → Prop) (H : AH) : V → Prop
  | .nilSl => k (.bool (!neg)) H
  | .sl _ es _ => isnE neg k H es
  | .msl .. => k (.bool neg) H
  | _ => False
@[go_sem ↓] theorem isnK_msl (neg : Bool) (k : V → AH → Prop) (H : AH) (b z o n : Nat) : isnK neg k H (.msl b z o n) = k (.bool neg) H := rfl
@[go_sem ↓] theorem isnK_nil (neg : Bool) (k : V → AH → Prop) (H : AH) : isnK neg k H .nilSl = k (.bool (!neg)) H := rfl
@[go_sem ↓] theorem isnK_sl (neg : Bool) (k : V → AH → Prop) (H : AH) (z : Nat) (es : List (List V)) (t : Tok) : isnK neg k H (.sl z es t) = isnE neg k H es := rfl
@[go_sem ↓] theorem mop_tap (t : Nat) (x : Opd) : mop P (.tap t x) a H k Kp = need (a.ev x) (tapK t (fun v => k v H) (Kp H)) := rfl
@[go_sem ↓] theorem tapK_iface (t u : Nat) (v : V) (kt : V → Prop) (kp : Prop) : tapK t kt kp (.iface u v) = if u = t then kt v else kp := rfl
@[go_sem ↓] theorem tapK_nil (t : Nat) (kt : V → Prop) (kp : Prop) : tapK t kt kp .nilIface = kp := rfl
@[go_sem ↓] theorem mop_isnil (neg : Bool) (x : Opd) : mop P (.isnil neg x) a H k Kp = need (a.ev x) (isnK neg k H) := by
  simp only [mop]
  cases a.ev x with
  | none => rfl
  | some v => cases v <;> first | rfl | (rename_i z es t; cases es <;> rfl)
@[go_sem ↓] theorem mop_scall (f : Nat) (xs : List Opd) : mop P (.scall f xs) a H k Kp = need (a.evs xs) (fun vs => ACalls P f vs H (outK (fun v H' => H.lec H' ∧ k v H') Kp)) := rfl
def callvK (P : Program) (H : AH) (o : Option (List V)) (k : V → AH → Prop) (Kp : AH → Prop) : V → Prop
  | .func (.func f) us ws => need o fun vs => entered P f = true ∧ ACalls P f (us ++ vs ++ ws) H (outK k Kp)
  | _ => False
@[go_sem ↓] theorem callvK_func (f : Nat) (us ws : List V) (o : Option (List V)) : callvK P H o k Kp (.func (.func f) us ws) = need o (fun vs => entered P f = true ∧ ACalls P f (us ++ vs ++ ws) H (outK k Kp)) := rfl
@[go_sem ↓] theorem mop_callv (x : Opd) (xs : List Opd) : mop P (.callv x xs) a H k Kp = need (a.ev x) (callvK P H (a.evs xs) k Kp) := by
  simp only [mop]
  cases a.ev x with
  | none => rfl
  | some v => cases v <;> rfl
@[go_sem ↓] theorem outK_ret (v : V) : outK k Kp (.ret v) H = k v H := rfl
@[go_sem ↓] theorem outK_pan : outK k Kp .pan H = Kp H := rfl
/-! ### Values -/
@[go_sem ↓] theorem vop_mv (x : Opd) : vop (.mv x) a H kv = need (a.ev x) kv := rfl
def pickK (x y : Option V) (kv : V → Prop) : V → Prop
  | .bool b => gif b (need x kv) (need y kv)
  | _ => False
def pickB (b : Bool) (x y : Option V) (kv : V → Prop) : Prop := gif b (need x kv) (need y kv)
@[congr] theorem pickB_congr {b b' : Bool} {x x' y y' : Option V} {kv : V → Prop} (h : b = b') (hx : x = x') (hy : y = y') : pickB b x y kv = pickB b' x' y' kv := by rw [h,hx,hy]
@[go_sem ↓] theorem pickB_true (x y : Option V) : pickB true x y kv = need x kv := by simp [pickB,gif]
@[go_sem ↓] theorem pickB_false (x y : Option V) : pickB false x y kv = need y kv := by simp [pickB,gif]
theorem pickB_of {b : Bool} {x y : Option V} (h1 : b = true → need x kv) (h2 : b = false → need y kv) : pickB b x y kv := by
  cases b
  · rw [pickB_false]; exact h2 rfl
  · rw [pickB_true]; exact h1 rfl
@[go_sem ↓] theorem pickB_bools (b x y : Bool) : pickB b (some (.bool x)) (some (.bool y)) kv = kv (.bool (bif b then x else y)) := by
  cases b <;> simp [pickB,gif,need_some]
attribute [go_sem] cond_true cond_false Bool.cond_self Bool.not_true Bool.not_false Bool.not_not
@[go_sem ↓] theorem pickK_bool (b : Bool) (x y : Option V) : pickK x y kv (.bool b) = pickB b x y kv := rfl
@[go_sem ↓] theorem vop_pick (c x y : Opd) : vop (.pick c x y) a H kv = need (a.ev c) (pickK (a.ev x) (a.ev y) kv) := by
  simp only [vop]
  cases a.ev c with
  | none => rfl
  | some v =>
    cases v <;> try rfl
    rename_i b
    cases b <;> simp [need_some,pickK,gif]
@[go_sem ↓] theorem vop_load (g : Bool) (z : Nat) (x : Opd) : vop (.load g z x) a H kv = need (a.ev x) (fun p => vload g z H p kv) := rfl
def loadC (g : Bool) (z off : Nat) (kv : V → Prop) : AObj → Prop
  | .cells cs => need (pickCells g z cs off) kv
  | _ => False
@[go_sem ↓] theorem loadC_cells (g : Bool) (z off : Nat) (cs : List V) : loadC g z off kv (.cells cs) = need (pickCells g z cs off) kv := rfl
@[go_sem ↓] theorem vload_rptr (g : Bool) (z off : Nat) (cs : List V) : vload g z H (.rptr cs off) kv = need (pickCells g z cs off) kv := rfl
@[go_sem ↓] theorem vload_ptr (g : Bool) (z i off : Nat) : vload g z H (.ptr i off) kv = need (H i) (loadC g z off kv) := by
  simp only [vload]
  cases H i with
  | none => rfl
  | some o => cases o <;> rfl
@[go_sem] theorem pick_one (z off : Nat) (cs : List V) : pickCells false z cs off = cs[off]? := rfl
@[go_sem] theorem pick_many (z off : Nat) (cs : List V) : pickCells true z cs off = if off + z ≤ cs.length then some (.agg ((cs.drop off).take z)) else none := rfl
def nilcK (kv : V → Prop) : V → Prop
  | .ptr i o => kv (.ptr i o)
  | .rptr cs o => kv (.rptr cs o)
  | .func (.func f) xs ys => kv (.func (.func f) xs ys)
  | _ => False
@[go_sem ↓] theorem nilcK_ptr (i o : Nat) : nilcK kv (.ptr i o) = kv (.ptr i o) := rfl
@[go_sem ↓] theorem nilcK_rptr (cs : List V) (o : Nat) : nilcK kv (.rptr cs o) = kv (.rptr cs o) := rfl
@[go_sem ↓] theorem nilcK_func (f : Nat) (xs ys : List V) : nilcK kv (.func (.func f) xs ys) = kv (.func (.func f) xs ys) := rfl
@[go_sem ↓] theorem vop_nilc (x : Opd) : vop (.nilc x) a H kv = need (a.ev x) (nilcK kv) := by
  simp only [vop]
  cases a.ev x with
  | none => rfl
  | some v => cases v <;> rfl
@[go_sem ↓] theorem vop_bin (op : BinOp) (e : EqK) (x y : Opd) : vop (.bin op e x y) a H kv = need (a.ev x) (fun u => need (a.ev y) fun v => vbin op e u v kv) := rfl
attribute [go_sem ↓] vbin strBin
attribute [go_sem] eqCells andO BK.eq
def bitI (op : BinOp) (k : IntKind) (x y : Int) : Nat :=
  match op with
  | .and => (BitVec.ofInt k.bits x &&& BitVec.ofInt k.bits y).toNat
  | .or => (BitVec.ofInt k.bits x ||| BitVec.ofInt k.bits y).toNat
  | .xor => (BitVec.ofInt k.bits x ^^^ BitVec.ofInt k.bits y).toNat
  | _ => (BitVec.ofInt k.bits x &&& ~~~ BitVec.ofInt k.bits y).toNat
section
variable {i : IntKind} {x y : Int}
@[go_sem ↓] theorem ib_add : intBin .add i x y kv = kv (.int i (i.wrap (x + y))) := rfl
@[go_sem ↓] theorem ib_sub : intBin .sub i x y kv = kv (.int i (i.wrap (x - y))) := rfl
@[go_sem ↓] theorem ib_mul : intBin .mul i x y kv = kv (.int i (i.wrap (x * y))) := rfl
@[go_sem ↓] theorem ib_quo : intBin .quo i x y kv = (y ≠ 0 ∧ kv (.int i (i.wrap (x.tdiv y)))) := rfl
@[go_sem ↓] theorem ib_rem : intBin .rem i x y kv = (y ≠ 0 ∧ kv (.int i (x.tmod y))) := rfl
@[go_sem ↓] theorem ib_and : intBin .and i x y kv = kv (.int i (i.wrap (bitI .and i x y))) := rfl
@[go_sem ↓] theorem ib_or : intBin .or i x y kv = kv (.int i (i.wrap (bitI .or i x y))) := rfl
@[go_sem ↓] theorem ib_xor : intBin .xor i x y kv = kv (.int i (i.wrap (bitI .xor i x y))) := rfl
@[go_sem ↓] theorem ib_andNot : intBin .andNot i x y kv = kv (.int i (i.wrap (bitI .andNot i x y))) := rfl
@[go_sem ↓] theorem ib_eql : intBin .eql i x y kv = kv (.bool (decide (x = y))) := rfl
@[go_sem ↓] theorem ib_neq : intBin .neq i x y kv = kv (.bool (!decide (x = y))) := rfl
@[go_sem ↓] theorem ib_lss : intBin .lss i x y kv = kv (.bool (decide (x < y))) := rfl
@[go_sem ↓] theorem ib_leq : intBin .leq i x y kv = kv (.bool (decide (x ≤ y))) := rfl
@[go_sem ↓] theorem ib_gtr : intBin .gtr i x y kv = kv (.bool (decide (y < x))) := rfl
@[go_sem ↓] theorem ib_geq : intBin .geq i x y kv = kv (.bool (decide (y ≤ x))) := rfl
end
def boolK (kb : Bool → Prop) : V → Prop
  | .bool b => kb b
  | _ => False
@[go_sem ↓] theorem boolK_bool (kb : Bool → Prop) (b : Bool) : boolK kb (.bool b) = kb b := rfl
@[go_sem ↓] theorem vop_not (x : Opd) : vop (.not x) a H kv = need (a.ev x) (boolK fun b => kv (.bool (!b))) := by
  simp only [vop]; cases a.ev x with
  | none => rfl
  | some v => cases v <;> rfl
def intK (ki : IntKind → Int → Prop) : V → Prop
  | .int i n => ki i n
  | _ => False
@[go_sem ↓] theorem intK_int (ki : IntKind → Int → Prop) (i : IntKind) (n : Int) : intK ki (.int i n) = ki i n := rfl
@[go_sem ↓] theorem vop_neg (x : Opd) : vop (.neg x) a H kv = need (a.ev x) (intK fun i n => kv (.int i (i.wrap (0 - n)))) := by
  simp only [vop]; cases a.ev x with
  | none => rfl
  | some v => cases v <;> rfl
@[go_sem ↓] theorem vop_i2i (i : IntKind) (x : Opd) : vop (.i2i i x) a H kv = need (a.ev x) (intK fun _ n => kv (.int i (i.wrap n))) := by
  simp only [vop]; cases a.ev x with
  | none => rfl
  | some v => cases v <;> rfl
@[go_sem ↓] theorem vop_b2s (x : Opd) : vop (.b2s x) a H kv = need (a.ev x) (fun v => need (vbytesH H v) fun l => kv (.str l)) := rfl
@[go_sem] theorem vbytesH_nil : vbytesH H .nilSl = some [] := rfl
@[go_sem] theorem vbytesH_sl (es : List (List V)) (t : Tok) : vbytesH H (.sl 1 es t) = vbytes (.sl 1 es t) := rfl
def strK (ks : List UInt8 → Prop) : V → Prop
  | .str l => ks l
  | _ => False
@[go_sem ↓] theorem strK_str (ks : List UInt8 → Prop) (l : List UInt8) : strK ks (.str l) = ks l := rfl
@[go_sem ↓] theorem vop_s2s (x : Opd) : vop (.s2s x) a H kv = need (a.ev x) (strK fun l => kv (.str l)) := by
  simp only [vop]; cases a.ev x with
  | none => rfl
  | some v => cases v <;> rfl
@[go_sem ↓] theorem vop_slc (z : Option Nat) (x : Opd) (lo hi mx : Option Opd) : vop (.slc z x lo hi mx) a H kv = need (a.ev x) (fun v => vslc a z lo hi mx v kv) := rfl
@[go_sem ↓] theorem bound_none (d : Nat) (k : Int → Prop) : bound a d none k = k d := rfl
@[go_sem ↓] theorem bound_some (d : Nat) (x : Opd) (k : Int → Prop) : bound a d (some x) k = need (a.ev x) (intK fun _ n => k n) := by
  simp only [bound]; cases a.ev x with
  | none => rfl
  | some v => cases v <;> rfl
attribute [go_sem ↓] vslc
def aggK (kc : List V → Prop) : V → Prop
  | .agg cs => kc cs
  | _ => False
@[go_sem ↓] theorem aggK_agg (kc : List V → Prop) (cs : List V) : aggK kc (.agg cs) = kc cs := rfl
@[go_sem ↓] theorem vop_fld (g : Bool) (z off : Nat) (x : Opd) : vop (.fld g z off x) a H kv = need (a.ev x) (aggK fun cs => need (pickCells g z cs off) kv) := by
  simp only [vop]; cases a.ev x with
  | none => rfl
  | some v => cases v <;> rfl
def faddrK (off : Nat) (kv : V → Prop) : V → Prop
  | .ptr i o => kv (.ptr i (o + off))
  | .rptr cs o => kv (.rptr cs (o + off))
  | _ => False
@[go_sem ↓] theorem faddrK_ptr (off i o : Nat) : faddrK off kv (.ptr i o) = kv (.ptr i (o + off)) := rfl
@[go_sem ↓] theorem faddrK_rptr (off : Nat) (cs : List V) (o : Nat) : faddrK off kv (.rptr cs o) = kv (.rptr cs (o + off)) := rfl
@[go_sem ↓] theorem vop_faddr (off : Nat) (x : Opd) : vop (.faddr off x) a H kv = need (a.ev x) (faddrK off kv) := by
  simp only [vop]; cases a.ev x with
  | none => rfl
  | some v => cases v <;> rfl
def iaddrK (sz : Nat) (oi : Option V) (kv : V → Prop) : V → Prop
  | .sl z es _ => need oi (intK fun _ n => (z = sz ∧ 0 ≤ n) ∧ need (es[n.toNat]?) fun c => kv (.rptr c 0))
  | .msl b z off n => need oi (intK fun _ m => (z = sz ∧ 0 ≤ m ∧ m < (n : Int)) ∧ kv (.ptr b (off + m.toNat * sz)))
  | _ => False
@[go_sem ↓] theorem iaddrK_sl (sz : Nat) (oi : Option V) (z : Nat) (es : List (List V)) (t : Tok) : iaddrK sz oi kv (.sl z es t) = need oi (intK fun _ n => (z = sz ∧ 0 ≤ n) ∧ need (es[n.toNat]?) fun c => kv (.rptr c 0)) := rfl
@[go_sem ↓] theorem iaddrK_msl (sz : Nat) (oi : Option V) (b z off n : Nat) : iaddrK sz oi kv (.msl b z off n) = need oi (intK fun _ m => (z = sz ∧ 0 ≤ m ∧ m < (n : Int)) ∧ kv (.ptr b (off + m.toNat * sz))) := rfl
@[go_sem ↓] theorem vop_iaddr (sz : Nat) (x i : Opd) : vop (.iaddr sz x i) a H kv = need (a.ev x) (iaddrK sz (a.ev i) kv) := by
  simp only [vop]; cases a.ev x with
  | none => rfl
  | some v =>
    cases v <;> first | rfl | (simp only [need_some,iaddrK]; cases a.ev i with | none => rfl | some u => cases u <;> rfl)
@[go_sem ↓] theorem vop_idx (x i : Opd) : vop (.idx x i) a H kv = need (a.ev x) (strK fun l => need (a.ev i) (intK fun _ n => 0 ≤ n ∧ need (l[n.toNat]?) fun b => kv (.int .u8 b.toNat))) := by
  simp only [vop]; cases a.ev x with
  | none => rfl
  | some v =>
    cases v <;> first | rfl | (simp only [need_some,strK]; cases a.ev i with | none => rfl | some u => cases u <;> rfl)
@[go_sem ↓] theorem vop_aidx (g : Bool) (sz n : Nat) (x i : Opd) : vop (.aidx g sz n x i) a H kv = need (a.ev x) (aggK fun cs => need (a.ev i) (intK fun _ m => (0 ≤ m ∧ m < (n : Int)) ∧ need (pickCells g sz cs (m.toNat * sz)) kv)) := by
  simp only [vop]; cases a.ev x with
  | none => rfl
  | some v =>
    cases v <;> first | rfl | (simp only [need_some,aggK]; cases a.ev i with | none => rfl | some u => cases u <;> rfl)
def tyaK (t : Nat) (ok : Bool) (z : V) (kv : V → Prop) : V → Prop
  | .iface u v => (ok = true ∨ u = t) ∧ kv (if ok = true then .tuple [if u = t then v else z,.bool (decide (u = t))] else v)
  | .nilIface => ok = true ∧ kv (.tuple [z,.bool false])
  | _ => False
@[go_sem ↓] theorem tyaK_iface (t : Nat) (ok : Bool) (z : V) (u : Nat) (v : V) : tyaK t ok z kv (.iface u v) = ((ok = true ∨ u = t) ∧ kv (if ok = true then .tuple [if u = t then v else z,.bool (decide (u = t))] else v)) := rfl
@[go_sem ↓] theorem tyaK_nil (t : Nat) (ok : Bool) (z : V) : tyaK t ok z kv .nilIface = (ok = true ∧ kv (.tuple [z,.bool false])) := rfl
@[go_sem ↓] theorem vop_tya (t : Nat) (ok : Bool) (z : V) (x : Opd) : vop (.tya t ok z x) a H kv = need (a.ev x) (tyaK t ok z kv) := by
  simp only [vop]; cases a.ev x with
  | none => rfl
  | some v => cases v <;> rfl
def tupK (i : Nat) (kv : V → Prop) : V → Prop
  | .tuple vs => need (vs[i]?) kv
  | _ => False
@[go_sem ↓] theorem tupK_tuple (i : Nat) (vs : List V) : tupK i kv (.tuple vs) = need (vs[i]?) kv := rfl
@[go_sem ↓] theorem vop_ext (x : Opd) (i : Nat) : vop (.ext x i) a H kv = need (a.ev x) (tupK i kv) := by
  simp only [vop]; cases a.ev x with
  | none => rfl
  | some v => cases v <;> rfl
@[go_sem ↓] theorem vop_y (q : YOp) (xs : List Opd) : vop (.yo q xs) a H kv = need (a.evs xs) (fun vs => ysem q H vs kv) := rfl
@[go_sem ↓] theorem ys_nil (kk : BK) (z : V) (ok : Bool) (key : V) : ysem (.look kk z ok) H [.nilMap,key] kv = kv (mres ok z none) := rfl
def lookK (kk : BK) (z : V) (ok : Bool) (key : V) (kv : V → Prop) : AObj → Prop
  | .map es | .mapi es _ _ _ => need (mfind kk key es) fun r => kv (mres ok z r)
  | _ => False
theorem need_map {α β : Type} (o : Option α) (f : α → β) (k : β → Prop) : need (o.map f) k = need o (fun a => k (f a)) := by cases o <;> rfl
@[go_sem ↓] theorem ys_mapv (kk : BK) (z : V) (ok : Bool) (key : V) (es : List (V × V)) : ysem (.look kk z ok) H [.mapv es,key] kv = need (mfind kk key es) fun r => kv (mres ok z r) := by
  simp [ysem,yval,need_map]
@[go_sem ↓] theorem ys_map (kk : BK) (z : V) (ok : Bool) (key : V) (i : Nat) : ysem (.look kk z ok) H [.map i,key] kv = need (H i) (lookK kk z ok key kv) := by
  simp only [ysem,yval]
  cases H i with
  | none => rfl
  | some o => cases o <;> simp [lookK,need_map] <;> rfl
@[go_sem ↓] theorem lookK_map (kk : BK) (z : V) (ok : Bool) (key : V) (es : List (V × V)) : lookK kk z ok key kv (.map es) = need (mfind kk key es) fun r => kv (mres ok z r) := rfl
@[go_sem ↓] theorem lookK_mapi (kk : BK) (z : V) (ok : Bool) (key : V) (es left : List (V × V)) (j : Nat) (c : Option (V × V)) : lookK kk z ok key kv (.mapi es j left c) = need (mfind kk key es) fun r => kv (mres ok z r) := rfl
@[go_sem ↓] theorem ys_i2f (k : IntKind) (n : Int) : ysem .i2f H [.int k n] kv = kv (.float .f64 (FloatKind.f64.nearest n)) := rfl
@[go_sem ↓] theorem ys_f2i (k : IntKind) (b : Nat) : ysem (.f2i k) H [.float .f64 b] kv = need (floatToIntVal .f64 b k) fun n => kv (.int k n) := by
  simp [ysem,yval,need_map]
@[go_sem ↓] theorem ys_cplx (x y : Nat) : ysem .cplx H [.float .f64 x,.float .f64 y] kv = kv (.complex .f64 x y) := rfl
@[go_sem ↓] theorem ys_creal (x y : Nat) : ysem .creal H [.complex .f64 x y] kv = kv (.float .f64 x) := rfl
@[go_sem ↓] theorem ys_cimag (x y : Nat) : ysem .cimag H [.complex .f64 x y] kv = kv (.float .f64 y) := rfl
def entK2 (j : Nat) (kv : V → Prop) : AObj → Prop
  | .mapi _ j' _ (some p) => j' = j ∧ kv (.tuple [p.1,p.2])
  | _ => False
def entK (H : AH) (j : Nat) (kv : V → Prop) : AObj → Prop
  | .iterv _ (some p) => kv (.tuple [p.1,p.2])
  | .iter (some i) => need (H i) (entK2 j kv)
  | _ => False
@[go_sem ↓] theorem ys_ent (j : Nat) : ysem .ent H [.ptr j 0] kv = need (H j) (entK H j kv) := by
  simp only [ysem,yval]
  cases H j with
  | none => rfl
  | some o =>
    cases o <;> (try rfl)
    case iterv l c => cases c <;> rfl
    rename_i m
    cases m with
    | none => rfl
    | some i =>
      simp only [need_some,entK]
      cases H i with
      | none => rfl
      | some p =>
        cases p <;> (try rfl)
        rename_i es j' left c
        cases c with
        | none => rfl
        | some q =>
          simp only [need_some,entK2]
          by_cases e : j' = j
          · simp [e]; rfl
          · rw [if_neg e]; exact propext ⟨fun h => h.elim,fun h => (e h.1).elim⟩
@[go_sem ↓] theorem entK_v (j : Nat) (left : List (V × V)) (p : V × V) : entK H j kv (.iterv left (some p)) = kv (.tuple [p.1,p.2]) := rfl
@[go_sem ↓] theorem entK_some (j i : Nat) : entK H j kv (.iter (some i)) = need (H i) (entK2 j kv) := rfl
@[go_sem ↓] theorem entK2_mapi (j j' : Nat) (es left : List (V × V)) (p : V × V) : entK2 j kv (.mapi es j' left (some p)) = (j' = j ∧ kv (.tuple [p.1,p.2])) := rfl
@[go_sem ↓] theorem mres_tt (z v : V) : mres true z (some v) = .tuple [v,.bool true] := rfl
@[go_sem ↓] theorem mres_tf (z : V) : mres true z none = .tuple [z,.bool false] := rfl
@[go_sem ↓] theorem mres_ft (z v : V) : mres false z (some v) = v := rfl
@[go_sem ↓] theorem mres_ff (z : V) : mres false z none = z := rfl
@[go_sem ↓] theorem vop_len (lk : LenK) (x : Opd) : vop (.len lk x) a H kv = need (a.ev x) (fun v => vlen H lk v kv) := rfl
@[go_sem ↓] theorem vlen_str (lk : LenK) (x : List UInt8) : vlen H lk (.str x) kv = (lk = .str ∧ kv (.int .i64 x.length)) := rfl
@[go_sem ↓] theorem vlen_nil (lk : LenK) : vlen H lk .nilSl kv = (lk = .sl ∧ kv (.int .i64 0)) := rfl
@[go_sem ↓] theorem vlen_sl (lk : LenK) (z : Nat) (es : List (List V)) (t : Tok) : vlen H lk (.sl z es t) kv = (lk = .sl ∧ kv (.int .i64 es.length)) := rfl
@[go_sem ↓] theorem vlen_msl (lk : LenK) (b z o n : Nat) : vlen H lk (.msl b z o n) kv = (lk = .sl ∧ kv (.int .i64 n)) := rfl
@[go_sem ↓] theorem vlen_nilMap (lk : LenK) : vlen H lk .nilMap kv = (lk = .map ∧ kv (.int .i64 0)) := rfl
@[go_sem ↓] theorem vlen_mapv (lk : LenK) (es : List (V × V)) : vlen H lk (.mapv es) kv = (lk = .map ∧ kv (.int .i64 es.length)) := rfl
def lenM (lk : LenK) (kv : V → Prop) : AObj → Prop
  | .map es => lk = .map ∧ kv (.int .i64 es.length)
  | _ => False
@[go_sem ↓] theorem vlen_map (lk : LenK) (i : Nat) : vlen H lk (.map i) kv = need (H i) (lenM lk kv) := by
  simp only [vlen]; cases H i with
  | none => rfl
  | some o => cases o <;> rfl
@[go_sem ↓] theorem lenM_map (lk : LenK) (es : List (V × V)) : lenM lk kv (.map es) = (lk = .map ∧ kv (.int .i64 es.length)) := rfl
def mxK (b : Bool) (oy : Option V) (kv : V → Prop) : V → Prop
  | .int i n => need oy (intK fun j m => i = j ∧ kv (.int i (match b with | true => max n m | false => min n m)))
  | _ => False
@[go_sem ↓] theorem mxK_max (oy : Option V) (i : IntKind) (n : Int) : mxK true oy kv (.int i n) = need oy (intK fun j m => i = j ∧ kv (.int i (max n m))) := rfl
@[go_sem ↓] theorem mxK_min (oy : Option V) (i : IntKind) (n : Int) : mxK false oy kv (.int i n) = need oy (intK fun j m => i = j ∧ kv (.int i (min n m))) := rfl
@[go_sem ↓] theorem vop_mx (b : Bool) (x y : Opd) : vop (.mx b x y) a H kv = need (a.ev x) (mxK b (a.ev y) kv) := by
  simp only [vop]; cases a.ev x with
  | none => rfl
  | some v =>
    cases v <;> first | rfl | (simp only [need_some,mxK]; cases a.ev y with | none => rfl | some u => cases u <;> rfl)
@[go_sem ↓] theorem vop_mkif (t : Nat) (x : Opd) : vop (.mkif t x) a H kv = need (a.ev x) (fun v => kv (.iface t v)) := rfl
@[go_sem ↓] theorem vop_mkfn (fn : Fn) (xs ys : List Opd) : vop (.mkfn fn xs ys) a H kv = need (a.evs xs) (fun us => need (a.evs ys) fun vs => kv (.func fn us vs)) := rfl
attribute [go_sem] V.flat V.cells List.getElem?_cons_zero List.getElem?_cons_succ List.length_cons List.length_nil List.drop List.take List.set_cons_zero List.set_cons_succ over chop
@[go_sem] theorem elems_nil (sz : Nat) : elems sz .nilSl = some [] := rfl
@[go_sem] theorem elems_sl (sz z : Nat) (es : List (List V)) (t : Tok) : elems sz (.sl z es t) = if z = sz then some es else none := rfl
@[go_sem] theorem elems_str (sz : Nat) (l : List UInt8) : elems sz (.str l) = if sz = 1 then some (byteCells l) else none := rfl
@[go_sem] theorem vbytes_nil : vbytes .nilSl = some [] := rfl
@[go_sem] theorem vbytes_sl (es : List (List V)) (t : Tok) : vbytes (.sl 1 es t) = bytesOf es.flatten := rfl
attribute [go_sem] Nat.zero_add Nat.add_zero AH.put_same AH.put_put
def layC (a : A) (cs : List V) (off sz : Nat) (ps : List (Nat × Nat × Opd)) : Option V → Option (List V)
  | some v => if v.flat = true ∧ v.cells.length = sz ∧ off + sz ≤ cs.length then lay a (over cs off v.cells) ps else none
  | none => none
@[go_sem] theorem lay_nil (cs : List V) : lay a cs [] = some cs := rfl
@[go_sem] theorem lay_cons (cs : List V) (off sz : Nat) (x : Opd) (ps : List (Nat × Nat × Opd)) : lay a cs ((off,sz,x) :: ps) = layC a cs off sz ps (a.ev x) := by
  simp only [lay,layC]
  cases a.ev x <;> rfl
@[go_sem] theorem layC_some (cs : List V) (off sz : Nat) (ps : List (Nat × Nat × Opd)) (v : V) : layC a cs off sz ps (some v) = if v.flat = true ∧ v.cells.length = sz ∧ off + sz ≤ cs.length then lay a (over cs off v.cells) ps else none := rfl
@[go_sem ↓] theorem vapp_nil (H : AH) (sz bytes : Nat) (fs : List (List V)) (k : V → AH → Prop) : vapp H sz bytes fs k .nilSl = ((fs.length * bytes ≤ 140737488355328) ∧ ∀ i,H i = none → k (.sl sz fs (.id i)) (H.put i (.top sz fs.length))) := rfl
def topK (z sz bytes : Nat) (es fs : List (List V)) (i : Nat) (H : AH) (k : V → AH → Prop) : AObj → Prop
  | .top y n => (z = sz ∧ y = sz ∧ n = es.length ∧ (es.length + fs.length) * bytes ≤ 140737488355328) ∧ k (.sl sz (es ++ fs) (.id i)) (H.put i (.top sz (es.length + fs.length)))
  | _ => False
@[go_sem ↓] theorem topK_top (z sz bytes : Nat) (es fs : List (List V)) (i : Nat) (H : AH) (k : V → AH → Prop) (y n : Nat) : topK z sz bytes es fs i H k (.top y n) = ((z = sz ∧ y = sz ∧ n = es.length ∧ (es.length + fs.length) * bytes ≤ 140737488355328) ∧ k (.sl sz (es ++ fs) (.id i)) (H.put i (.top sz (es.length + fs.length)))) := rfl
@[go_sem ↓] theorem vapp_id (H : AH) (sz bytes : Nat) (fs : List (List V)) (k : V → AH → Prop) (z : Nat) (es : List (List V)) (i : Nat) : vapp H sz bytes fs k (.sl z es (.id i)) = need (H i) (topK z sz bytes es fs i H k) := by
  simp only [vapp]
  cases H i with
  | none => rfl
  | some o => cases o <;> rfl
@[go_sem ↓] theorem vapp_tight (H : AH) (sz bytes : Nat) (fs : List (List V)) (k : V → AH → Prop) (z : Nat) (es : List (List V)) : vapp H sz bytes fs k (.sl z es .tight) = ((z = sz ∧ min es.length 1 ≤ fs.length ∧ (es.length + fs.length) * bytes ≤ 140737488355328) ∧ ∀ i,H i = none → k (.sl sz (es ++ fs) (.id i)) (H.put i (.top sz (es.length + fs.length)))) := rfl
end
end Go.Vm
