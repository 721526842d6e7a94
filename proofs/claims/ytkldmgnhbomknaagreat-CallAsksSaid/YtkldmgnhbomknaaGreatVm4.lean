/- Operations that leave the world as it is: what they yield, on abstract values; and that the machine's operation yields it. -/
import Derived.Test.YtkldmgnhbomknaaGreatVm3
import Derived.Laws.Strings
import Derived.Laws.Slices
import Derived.Laws.Panics
import Derived.Laws.FloatArith
import Derived.Laws.Cover3
set_option linter.unusedVariables false
set_option linter.unusedSimpArgs false
namespace Go.Vm
inductive Opd where
  | t (n : Nat)
  | c (v : V)
def A.ev (a : A) : Opd → Option V
  | .t n => a.get n
  | .c v => some v
def A.evs (a : A) : List Opd → Option (List V)
  | [] => some []
  | x :: xs => match a.ev x,a.evs xs with
    | some v,some vs => some (v :: vs)
    | _,_ => none
def need {α : Type} (o : Option α) (k : α → Prop) : Prop :=
  match o with
  | some v => k v
  | none => False
theorem need_some {α : Type} (v : α) (k : α → Prop) : need (some v) k = k v := rfl
theorem need_elim {α : Type} {o : Option α} {k : α → Prop} (h : need o k) : ∃ v,o = some v ∧ k v := by
  cases o with
  | none => exact h.elim
  | some v => exact ⟨v,rfl,h⟩
def isT (b : Bool) (k : Bool → Prop) : Prop := k b
/-! ### Operands -/
def cellOf : Value → Option V
  | .bool b => some (.bool b)
  | .int k n => some (.int k n)
  | .float k n => some (.float k n)
  | .complex k a b => some (.complex k a b)
  | .string s => some (.str s.data.toList)
  | .pointer none => some .nilPtr
  | .slice none 0 0 => some .nilSl
  | .map none => some .nilMap
  | .nilFunc => some .nilFunc
  | .nilIface => some .nilIface
  | _ => none
def cellsOf : List Value → Option (List V)
  | [] => some []
  | x :: xs => match cellOf x,cellsOf xs with
    | some v,some vs => some (v :: vs)
    | _,_ => none
def valOf : Value → Option V
  | .agg cs => (cellsOf cs.toList).map .agg
  | x => cellOf x
theorem cellOf_holds {s : St} {x : Value} {v : V} (h : cellOf x = some v) : s.val v x := by
  cases x with
  | bool b => cases h; exact .bool b
  | int k n => cases h; exact .int k n
  | float k n => cases h; exact .float k n
  | complex k a b => cases h; exact .complex k a b
  | string x =>
    cases h
    have := Holds.str (s := s) x.data.toList
    simpa using this
  | pointer a => cases a with | none => cases h; exact .nilPtr | some a => cases h
  | slice a n c =>
    cases a with
    | some a => cases h
    | none => cases n with
      | succ n => cases h
      | zero => cases c with
        | succ c => cases h
        | zero => cases h; exact .nilSl
  | map r => cases r with | none => cases h; exact .nilMap | some r => cases h
  | nilFunc => cases h; exact .nilFunc
  | nilIface => cases h; exact .nilIface
  | chan r => cases h
  | func f a b => cases h
  | iface t v => cases h
  | agg cs => cases h
  | tuple vs => cases h
theorem cellsOf_holds {s : St} {xs : List Value} {vs : List V} (h : cellsOf xs = some vs) : s.vals vs xs := by
  induction xs generalizing vs with
  | nil => cases h; exact .nil
  | cons x xs ih =>
    simp only [cellsOf] at h
    split at h
    · rename_i v us h1 h2; cases h; exact .cons _ _ _ _ (cellOf_holds h1) (ih h2)
    · cases h
theorem cellOf_one {x : Value} {v : V} (h : cellOf x = some v) : v.one = true := by
  unfold cellOf at h
  split at h <;> first | (cases h; rfl) | cases h
theorem cellsOf_ones {xs : List Value} {vs : List V} (h : cellsOf xs = some vs) : ones vs = true := by
  induction xs generalizing vs with
  | nil => cases h; rfl
  | cons x xs ih =>
    simp only [cellsOf] at h
    split at h
    · rename_i v us h1 h2; cases h; rw [ones_cons,cellOf_one h1,ih h2]; rfl
    · cases h
theorem valOf_holds {s : St} {x : Value} {v : V} (h : valOf x = some v) : s.val v x := by
  cases x with
  | agg cs =>
    simp only [valOf,Option.map_eq_some_iff] at h
    obtain ⟨us,h1,rfl⟩ := h
    exact vals_agg (cellsOf_ones h1) (cellsOf_holds h1)
  | _ => exact cellOf_holds h
def opdOf : Operand → Option Opd
  | .tmp t => some (.t t)
  | .const v => (valOf v).map .c
  | .func f => some (.c (.func (.func f) [] []))
  | .global _ => none
theorem opd_holds {s : St} {a : A} {act : Act} (ha : ARel s a act) {x : Operand} {y : Opd} (h : opdOf x = some y) {v : V} (hv : a.ev y = some v) : s.val v (act.eval x) := by
  cases x with
  | tmp t =>
    cases h
    obtain ⟨z,hz,hh⟩ := ha.get t v hv
    simp only [Act.eval,Array.getD_eq_getD_getElem?,hz,Option.getD_some]
    exact hh
  | const c =>
    simp only [opdOf,Option.map_eq_some_iff] at h
    obtain ⟨u,h1,rfl⟩ := h
    cases hv
    exact valOf_holds h1
  | func f =>
    cases h; cases hv
    exact Holds.func (.func f) [] [] [] [] .nil .nil
  | global g => cases h
def opdsOf : List Operand → Option (List Opd)
  | [] => some []
  | x :: xs => match opdOf x,opdsOf xs with
    | some v,some vs => some (v :: vs)
    | _,_ => none
theorem opds_holds {s : St} {a : A} {act : Act} (ha : ARel s a act) {xs : List Operand} {ys : List Opd} (h : opdsOf xs = some ys) {vs : List V} (hv : a.evs ys = some vs) : s.vals vs (xs.map act.eval) := by
  induction xs generalizing ys vs with
  | nil => cases h; cases hv; exact .nil
  | cons x xs ih =>
    simp only [opdsOf] at h
    split at h
    · rename_i y ys' h1 h2
      cases h
      simp only [A.evs] at hv
      split at hv
      · rename_i u us h3 h4
        cases hv
        exact .cons _ _ _ _ (opd_holds ha h1 h3) (ih h2 h4)
      · cases hv
    · cases h
/-! ### What the operations are -/
inductive BK where
  | int
  | str
  | bool
  deriving DecidableEq
inductive IK where
  | int
  | str
  | bool
  | cplx
  | unit
  deriving DecidableEq
inductive EqK where
  | iface (ks : List (Nat × IK))
  | num
  | bool
  | slice
  | ptr
  | cells (ks : List BK)
  | other
  deriving DecidableEq
inductive LenK where
  | str
  | sl
  | map
  deriving DecidableEq
inductive YOp where
  | look (kk : BK) (z : V) (ok : Bool)
  | ent
  | i2f
  | f2i (k : IntKind)
  | cplx
  | creal
  | cimag
inductive VOp where
  | yo (q : YOp) (xs : List Opd)
  | mv (x : Opd)
  | pick (c x y : Opd)
  | load (agg : Bool) (sz : Nat) (x : Opd)
  | nilc (x : Opd)
  | bin (op : BinOp) (k : EqK) (x y : Opd)
  | not (x : Opd)
  | neg (x : Opd)
  | i2i (k : IntKind) (x : Opd)
  | b2s (x : Opd)
  | s2s (x : Opd)
  | slc (sz : Option Nat) (x : Opd) (lo hi mx : Option Opd)
  | fld (agg : Bool) (sz off : Nat) (x : Opd)
  | faddr (off : Nat) (x : Opd)
  | iaddr (sz : Nat) (x i : Opd)
  | idx (x i : Opd)
  | aidx (agg : Bool) (sz n : Nat) (x i : Opd)
  | tya (t : Nat) (ok : Bool) (z : V) (x : Opd)
  | ext (x : Opd) (i : Nat)
  | len (k : LenK) (x : Opd)
  | mx (isMax : Bool) (x y : Opd)
  | mkif (t : Nat) (x : Opd)
  | mkfn (fn : Fn) (first cap : List Opd)
def vload (agg : Bool) (sz : Nat) (H : AH) : V → (V → Prop) → Prop
  | .rptr cs off,k => need (pickCells agg sz cs off) k
  | .ptr i off,k => need (H i) fun
    | .cells cs => need (pickCells agg sz cs off) k
    | _ => False
  | _,_ => False
def BK.eq : BK → V → V → Option Bool
  | .int,.int k a,.int k' b => if k = k' then some (decide (a = b)) else none
  | .str,.str a,.str b => some (decide (a = b))
  | .bool,.bool a,.bool b => some (a == b)
  | _,_,_ => none
def andO : Option Bool → Option Bool → Option Bool
  | some a,some b => some (a && b)
  | _,_ => none
def eqCells : List BK → List V → List V → Option Bool
  | [],[],[] => some true
  | k :: ks,x :: xs,y :: ys => andO (k.eq x y) (eqCells ks xs ys)
  | _,_,_ => none
def mfind (kk : BK) (key : V) : List (V × V) → Option (Option V)
  | [] => some none
  | (k,v) :: es => match kk.eq key k with
    | some true => some (some v)
    | some false => mfind kk key es
    | none => none
def mput (kk : BK) (key v : V) : List (V × V) → List (V × V)
  | [] => [(key,v)]
  | (k,u) :: es => if kk.eq key k = some true then (key,v) :: es else (k,u) :: mput kk key v es
def mdel (kk : BK) (key : V) : List (V × V) → List (V × V)
  | [] => []
  | (k,u) :: es => if kk.eq key k = some true then es else (k,u) :: mdel kk key es
def mres (ok : Bool) (z : V) : Option V → V
  | some v => if ok = true then .tuple [v,.bool true] else v
  | none => if ok = true then .tuple [z,.bool false] else z
def yval : YOp → AH → List V → Option V
  | .look _ z ok,_,[.nilMap,_] => some (mres ok z none)
  | .look kk z ok,_,[.mapv es,key] => (mfind kk key es).map (mres ok z)
  | .look kk z ok,H,[.map i,key] => match H i with
    | some (.map es) | some (.mapi es _ _ _) => (mfind kk key es).map (mres ok z)
    | _ => none
  | .ent,H,[.ptr j 0] => match H j with
    | some (.iterv _ (some kv)) => some (.tuple [kv.1,kv.2])
    | some (.iter (some i)) => match H i with
      | some (.mapi _ j' _ (some kv)) => if j' = j then some (.tuple [kv.1,kv.2]) else none
      | _ => none
    | _ => none
  | .i2f,_,[.int _ n] => some (.float .f64 (FloatKind.f64.nearest n))
  | .f2i k,_,[.float .f64 b] => (floatToIntVal .f64 b k).map (.int k)
  | .cplx,_,[.float .f64 a,.float .f64 b] => some (.complex .f64 a b)
  | .creal,_,[.complex .f64 a _] => some (.float .f64 a)
  | .cimag,_,[.complex .f64 _ b] => some (.float .f64 b)
  | _,_,_ => none
def ysem (q : YOp) (H : AH) (vs : List V) (k : V → Prop) : Prop := need (yval q H vs) k
def kdOf : TypeDesc → Option BK
  | .int _ => some .int
  | .string => some .str
  | .bool => some .bool
  | _ => none
def mapT (P : Program) (T : TypeId) : Option (BK × TypeId) :=
  match P.underlying T with
  | some (.map k e) => match P.underlying k with
    | some d => (kdOf d).map fun kk => (kk,e)
    | none => none
  | _ => none
def intBin (op : BinOp) (k : IntKind) (x y : Int) (K : V → Prop) : Prop :=
  match op with
  | .add => K (.int k (k.wrap (x + y)))
  | .sub => K (.int k (k.wrap (x - y)))
  | .mul => K (.int k (k.wrap (x * y)))
  | .quo => y ≠ 0 ∧ K (.int k (k.wrap (x.tdiv y)))
  | .rem => y ≠ 0 ∧ K (.int k (x.tmod y))
  | .and => K (.int k (k.wrap (BitVec.ofInt k.bits x &&& BitVec.ofInt k.bits y).toNat))
  | .or => K (.int k (k.wrap (BitVec.ofInt k.bits x ||| BitVec.ofInt k.bits y).toNat))
  | .xor => K (.int k (k.wrap (BitVec.ofInt k.bits x ^^^ BitVec.ofInt k.bits y).toNat))
  | .andNot => K (.int k (k.wrap (BitVec.ofInt k.bits x &&& ~~~ BitVec.ofInt k.bits y).toNat))
  | .eql => K (.bool (decide (x = y)))
  | .neq => K (.bool (!decide (x = y)))
  | .lss => K (.bool (decide (x < y)))
  | .leq => K (.bool (decide (x ≤ y)))
  | .gtr => K (.bool (decide (y < x)))
  | .geq => K (.bool (decide (y ≤ x)))
  | _ => False
def strBin (op : BinOp) (x y : List UInt8) (K : V → Prop) : Prop :=
  match op with
  | .add => (x.length + y.length < 9223372036854775808) ∧ K (.str (x ++ y))
  | .eql => K (.bool (decide (x = y)))
  | .neq => K (.bool (!decide (x = y)))
  | .lss => K (.bool (Op.bytesLess x y))
  | .leq => K (.bool (Op.bytesLess x y || decide (x = y)))
  | .gtr => K (.bool (!(Op.bytesLess x y || decide (x = y))))
  | .geq => K (.bool (!Op.bytesLess x y))
  | _ => False
def ikAt : List (Nat × IK) → Nat → Option IK
  | [],_ => none
  | (n,k) :: l,t => if n = t then some k else ikAt l t
def ikEq : IK → V → V → Option Bool
  | .int,.int k a,.int k' b => if k = k' then some (decide (a = b)) else none
  | .str,.str a,.str b => some (decide (a = b))
  | .bool,.bool a,.bool b => some (a == b)
  | .cplx,.complex k a b,.complex k' c d => if k = k' then some (Op.floatEq k a c && Op.floatEq k b d) else none
  | .unit,.agg [],.agg [] => some true
  | _,_,_ => none
def ifEq (ks : List (Nat × IK)) (t : Nat) (u : V) (t' : Nat) (v : V) : Option Bool :=
  if t = t' then match ikAt ks t with
    | some k => ikEq k u v
    | none => none
  else some false
def vbin (op : BinOp) (e : EqK) : V → V → (V → Prop) → Prop
  | .int k x,.int k' y,K =>
    match op with
    | .shl => 0 ≤ y ∧ K (.int k (k.wrap (x * 2 ^ min y.toNat k.bits)))
    | .shr => 0 ≤ y ∧ K (.int k (x.fdiv (2 ^ min y.toNat k.bits)))
    | _ => k = k' ∧ intBin op k x y K
  | .str x,.str y,K => strBin op x y K
  | .bool x,.bool y,K =>
    match e,op with
    | .bool,.eql => K (.bool (x == y))
    | .bool,.neq => K (.bool (!(x == y)))
    | _,_ => False
  | .agg xs,.agg ys,K =>
    match e,op with
    | .cells ks,.eql => need (eqCells ks xs ys) fun b => K (.bool b)
    | .cells ks,.neq => need (eqCells ks xs ys) fun b => K (.bool (!b))
    | _,_ => False
  | .nilPtr,.nilPtr,K =>
    match e,op with
    | .ptr,.eql => K (.bool true)
    | .ptr,.neq => K (.bool false)
    | _,_ => False
  | .ptr _ _,.nilPtr,K =>
    match e,op with
    | .ptr,.eql => K (.bool false)
    | .ptr,.neq => K (.bool true)
    | _,_ => False
  | .rptr _ _,.nilPtr,K =>
    match e,op with
    | .ptr,.eql => K (.bool false)
    | .ptr,.neq => K (.bool true)
    | _,_ => False
  | .nilSl,.nilSl,K =>
    match e,op with
    | .slice,.eql => K (.bool true)
    | .slice,.neq => K (.bool false)
    | _,_ => False
  | .sl _ es _,.nilSl,K =>
    match e,op with
    | .slice,.eql => es ≠ [] ∧ K (.bool false)
    | .slice,.neq => es ≠ [] ∧ K (.bool true)
    | _,_ => False
  | .nilIface,.nilIface,K =>
    match e,op with
    | .iface _,.eql => K (.bool true)
    | .iface _,.neq => K (.bool false)
    | _,_ => False
  | .nilIface,.iface _ _,K =>
    match e,op with
    | .iface _,.eql => K (.bool false)
    | .iface _,.neq => K (.bool true)
    | _,_ => False
  | .iface _ _,.nilIface,K =>
    match e,op with
    | .iface _,.eql => K (.bool false)
    | .iface _,.neq => K (.bool true)
    | _,_ => False
  | .iface t u,.iface t' v,K =>
    match e,op with
    | .iface ks,.eql => need (ifEq ks t u t' v) fun b => K (.bool b)
    | .iface ks,.neq => need (ifEq ks t u t' v) fun b => K (.bool (!b))
    | _,_ => False
  | _,_,_ => False
def bytesOf : List V → Option (List UInt8)
  | [] => some []
  | .int .u8 n :: vs => match bytesOf vs with
    | some l => some (UInt8.ofNat n.toNat :: l)
    | none => none
  | _ => none
def vbytes : V → Option (List UInt8)
  | .nilSl => some []
  | .sl 1 es _ => bytesOf es.flatten
  | _ => none
def vbytesH (H : AH) : V → Option (List UInt8)
  | .msl k 1 off n => match H k with
    | some (.cells cs) => if off + n ≤ cs.length then bytesOf ((cs.drop off).take n) else none
    | _ => none
  | v => vbytes v
def bound (a : A) (d : Nat) : Option Opd → (Int → Prop) → Prop
  | none,k => k d
  | some x,k => need (a.ev x) fun
    | .int _ n => k n
    | _ => False
def vslc (a : A) (sz : Option Nat) (lo hi mx : Option Opd) : V → (V → Prop) → Prop
  | .str x,k =>
    match sz,mx with
    | none,none => bound a 0 lo fun l => bound a x.length hi fun h => (0 ≤ l ∧ l ≤ h ∧ h ≤ x.length) ∧ k (.str ((x.drop l.toNat).take (h.toNat - l.toNat)))
    | _,_ => False
  | .sl z es t,k => bound a 0 lo fun l =>
      match sz,hi,mx with
      | some sz,hi,none => bound a es.length hi fun h => (z = sz ∧ 0 ≤ l ∧ l ≤ h ∧ h ≤ es.length) ∧ k (.sl sz ((es.drop l.toNat).take (h.toNat - l.toNat)) (if l = 0 ∧ h = es.length then t else .no))
      | some sz,some hi,some m => bound a 0 (some hi) fun h => bound a 0 (some m) fun m => (z = sz ∧ 0 ≤ l ∧ l ≤ h ∧ h = m ∧ m ≤ es.length) ∧ k (.sl sz ((es.drop l.toNat).take (h.toNat - l.toNat)) .tight)
      | _,_,_ => False
  | .msl i z off n,k => bound a 0 lo fun l => bound a n hi fun h =>
      match sz,mx with
      | some sz,none => (z = sz ∧ 0 ≤ l ∧ l ≤ h ∧ h ≤ n) ∧ k (.msl i sz (off + l.toNat * sz) (h.toNat - l.toNat))
      | _,_ => False
  | .nilSl,k => bound a 0 lo fun l => bound a 0 hi fun h =>
      match sz,mx with
      | some _,none => (l = 0 ∧ h = 0) ∧ k .nilSl
      | _,_ => False
  | _,_ => False
def vlen (H : AH) (lk : LenK) : V → (V → Prop) → Prop
  | .str x,k => lk = .str ∧ k (.int .i64 x.length)
  | .nilSl,k => lk = .sl ∧ k (.int .i64 0)
  | .sl _ es _,k => lk = .sl ∧ k (.int .i64 es.length)
  | .msl _ _ _ n,k => lk = .sl ∧ k (.int .i64 n)
  | .nilMap,k => lk = .map ∧ k (.int .i64 0)
  | .mapv es,k => lk = .map ∧ k (.int .i64 es.length)
  | .map i,k => need (H i) fun
    | .map es => lk = .map ∧ k (.int .i64 es.length)
    | _ => False
  | _,_ => False
def vop : VOp → A → AH → (V → Prop) → Prop
  | .yo q xs,a,H,k => need (a.evs xs) fun vs => need (yval q H vs) k
  | .mv x,a,_,k => need (a.ev x) k
  | .pick c x y,a,_,k => need (a.ev c) fun
    | .bool true => need (a.ev x) k
    | .bool false => need (a.ev y) k
    | _ => False
  | .load agg sz x,a,H,k => need (a.ev x) fun p => vload agg sz H p k
  | .nilc x,a,_,k => need (a.ev x) fun
    | .ptr i o => k (.ptr i o)
    | .rptr cs o => k (.rptr cs o)
    | .func (.func f) xs ys => k (.func (.func f) xs ys)
    | _ => False
  | .bin op e x y,a,_,k => need (a.ev x) fun u => need (a.ev y) fun v => vbin op e u v k
  | .not x,a,_,k => need (a.ev x) fun
    | .bool b => k (.bool (!b))
    | _ => False
  | .neg x,a,_,k => need (a.ev x) fun
    | .int i n => k (.int i (i.wrap (0 - n)))
    | _ => False
  | .i2i i x,a,_,k => need (a.ev x) fun
    | .int _ n => k (.int i (i.wrap n))
    | _ => False
  | .b2s x,a,H,k => need (a.ev x) fun v => need (vbytesH H v) fun l => k (.str l)
  | .slc sz x lo hi mx,a,_,k => need (a.ev x) fun v => vslc a sz lo hi mx v k
  | .fld agg sz off x,a,_,k => need (a.ev x) fun
    | .agg cs => need (pickCells agg sz cs off) k
    | _ => False
  | .faddr off x,a,_,k => need (a.ev x) fun
    | .ptr i o => k (.ptr i (o + off))
    | .rptr cs o => k (.rptr cs (o + off))
    | _ => False
  | .iaddr sz x i,a,_,k => need (a.ev x) fun
    | .sl z es _ => need (a.ev i) fun
      | .int _ n => (z = sz ∧ 0 ≤ n) ∧ need (es[n.toNat]?) fun c => k (.rptr c 0)
      | _ => False
    | .msl b z off n => need (a.ev i) fun
      | .int _ m => (z = sz ∧ 0 ≤ m ∧ m < (n : Int)) ∧ k (.ptr b (off + m.toNat * sz))
      | _ => False
    | _ => False
  | .aidx agg sz n x i,a,_,k => need (a.ev x) fun
    | .agg cs => need (a.ev i) fun
      | .int _ m => (0 ≤ m ∧ m < (n : Int)) ∧ need (pickCells agg sz cs (m.toNat * sz)) k
      | _ => False
    | _ => False
  | .tya t ok z x,a,_,k => need (a.ev x) fun
    | .iface u v => (ok = true ∨ u = t) ∧ k (if ok = true then .tuple [if u = t then v else z,.bool (decide (u = t))] else v)
    | .nilIface => ok = true ∧ k (.tuple [z,.bool false])
    | _ => False
  | .idx x i,a,_,k => need (a.ev x) fun
    | .str l => need (a.ev i) fun
      | .int _ n => 0 ≤ n ∧ need (l[n.toNat]?) fun b => k (.int .u8 b.toNat)
      | _ => False
    | _ => False
  | .ext x i,a,_,k => need (a.ev x) fun
    | .tuple vs => need (vs[i]?) k
    | _ => False
  | .len lk x,a,H,k => need (a.ev x) fun v => vlen H lk v k
  | .s2s x,a,_,k => need (a.ev x) fun
    | .str l => k (.str l)
    | _ => False
  | .mx b x y,a,_,k => need (a.ev x) fun
    | .int i n => need (a.ev y) fun
      | .int j m => i = j ∧ k (.int i (match b with | true => max n m | false => min n m))
      | _ => False
    | _ => False
  | .mkif t x,a,_,k => need (a.ev x) fun v => k (.iface t v)
  | .mkfn fn xs ys,a,_,k => need (a.evs xs) fun us => need (a.evs ys) fun vs => k (.func fn us vs)
/-! ### Out of the translation -/
def isAggD : TypeDesc → Bool
  | .struct _ | .array _ _ => true
  | _ => false
def tinfo (P : Program) (T : TypeId) : Option (Bool × Nat) :=
  match P.underlying T,P.info? T with
  | some d,some i => some (isAggD d,i.size)
  | _,_ => none
theorem tinfo_TI {P : Program} {T : TypeId} {agg : Bool} {sz : Nat} (h : tinfo P T = some (agg,sz)) : TI P T agg sz := by
  unfold tinfo at h
  split at h
  · rename_i d i h1 h2
    cases h
    refine ⟨fun w => ?_,fun w => ?_⟩
    · simp only [isAgg,underlying,Sem.run_bind,run_program,Result.andThen_ok,h1]
      cases d <;> simp [isAggD]
    · simp only [sizeOf,typeInfo,Sem.run_bind,run_program,Result.andThen_ok,h2,Sem.run_pure]
  · cases h
theorem run_underlying' {P : Program} {T : TypeId} {d : TypeDesc} (h : P.underlying T = some d) (w : World) : (underlying T).run P w = .ok d w := by
  simp [underlying,h]
def sizeT (P : Program) (T : TypeId) : Option Nat := (P.info? T).map (·.size)
theorem sizeT_run {P : Program} {T : TypeId} {n : Nat} (h : sizeT P T = some n) (w : World) : (sizeOf T).run P w = .ok n w := by
  simp only [sizeT,Option.map_eq_some_iff] at h
  obtain ⟨i,h1,rfl⟩ := h
  simp only [sizeOf,typeInfo,Sem.run_bind,run_program,Result.andThen_ok,h1,Sem.run_pure]
def flatFs (P : Program) (g : TypeId → Option (List BK)) : Nat → List Field → Option (List BK)
  | _,[] => some []
  | pos,f :: fs => match g f.type,flatFs P g (pos + (sizeT P f.type).getD 0) fs with
    | some ks, some ls => if f.name ≠ "_" ∧ f.offset = pos ∧ sizeT P f.type = some ks.length then some (ks ++ ls) else none
    | _,_ => none
def flatK (P : Program) : Nat → TypeId → Option (List BK)
  | 0,_ => none
  | d + 1,t => match P.underlying t with
    | some .bool => some [.bool]
    | some (.int _) => some [.int]
    | some .string => some [.str]
    | some (.struct fs) => if P.stoodInHeld t = false then flatFs P (flatK P d) 0 fs.toList else none
    | some (.array n e) => match flatK P d e with
      | some ks => if sizeT P e = some ks.length then some (List.replicate n ks).flatten else none
      | none => none
    | _ => none
def eqkCells (P : Program) (T : TypeId) : EqK :=
  match flatK P 6 T with
  | some ks => if P.eqGuardType P.depth T = false then .cells ks else .other
  | none => .other
theorem eqkCells_or (P : Program) (T : TypeId) : eqkCells P T = .other ∨ ∃ ks,eqkCells P T = .cells ks := by
  unfold eqkCells
  split
  · split
    · exact .inr ⟨_,rfl⟩
    · exact .inl rfl
  · exact .inl rfl
def ikOf (P : Program) (T : TypeId) : Option IK :=
  match P.info? T with
  | some i => if i.comparable = true then match P.underlying T with
      | some .bool => some .bool
      | some (.int _) => some .int
      | some .string => some .str
      | some (.complex _) => some .cplx
      | some (.struct fs) => if fs.isEmpty = true ∧ P.stoodInHeld T = false then some .unit else none
      | _ => none
    else none
  | none => none
def ifaceKs (P : Program) : List (Nat × IK) := (List.range P.types.size).filterMap fun t => (ikOf P t).map fun k => (t,k)
def eqkIface {α : Type} (P : Program) (ms : Array α) : EqK := if ms.isEmpty = true then .iface (ifaceKs P) else .other
theorem eqkIface_or {α : Type} (P : Program) (ms : Array α) : eqkIface P ms = .other ∨ ∃ ks,eqkIface P ms = .iface ks := by
  unfold eqkIface
  split
  · exact .inr ⟨_,rfl⟩
  · exact .inl rfl
theorem ikAt_mem {t : Nat} {k : IK} : ∀ {l : List (Nat × IK)},ikAt l t = some k → (t,k) ∈ l
  | [],h => by cases h
  | (n,k') :: l,h => by
    simp only [ikAt] at h
    split at h
    · rename_i e; cases h; subst e; exact List.mem_cons_self
    · exact List.mem_cons_of_mem _ (ikAt_mem h)
theorem ikAt_of {P : Program} {t : Nat} {k : IK} (h : ikAt (ifaceKs P) t = some k) : ikOf P t = some k := by
  have h1 := ikAt_mem h
  simp only [ifaceKs,List.mem_filterMap,Option.map_eq_some_iff,Prod.mk.injEq] at h1
  obtain ⟨_,_,_,h2,rfl,rfl⟩ := h1
  exact h2
def eqkOf (P : Program) (T : TypeId) : EqK :=
  match P.underlying T with
  | some (.interface ms) => eqkIface P ms
  | some (.struct _) | some (.array _ _) => eqkCells P T
  | some .bool => .bool
  | some (.slice _) => .slice
  | some (.pointer _) => .ptr
  | some (.int _) | some .string => .num
  | _ => .other
def sliceElem (P : Program) (T : TypeId) : Option TypeId :=
  match P.underlying T with
  | some (.slice e) => some e
  | _ => none
def fieldOf (P : Program) (T : TypeId) (f : Nat) : Option (Nat × Bool × Nat) :=
  match P.underlying T with
  | some (.struct fs) => match fs[f]? with
    | some x => match tinfo P x.type with
      | some (agg,sz) => if sz = 0 then none else some (x.offset,agg,sz)
      | none => none
    | none => none
  | _ => none
def zeroV (P : Program) (T : TypeId) : Option V :=
  match P.info? T with
  | some i => match i.zero with
    | some z => valOf z
    | none => none
  | none => none
theorem zeroV_holds {P : Program} {T : TypeId} {v : V} (h : zeroV P T = some v) : ∃ z,(∀ w,(zeroValue T).run P w = .ok z w) ∧ (∀ s : St,s.val v z) := by
  unfold zeroV at h
  split at h
  · rename_i i h1
    split at h
    · rename_i z h2
      exact ⟨z,fun w => by simp [zeroValue,typeInfo,h1,h2],fun s => valOf_holds h⟩
    · cases h
  · cases h
def optOpd : Option Operand → Option (Option Opd)
  | none => some none
  | some x => (opdOf x).map some
def bopOf (P : Program) (b : Builtin) (xs : List Operand) (Ts : List TypeId) : Option VOp :=
  match b,xs,Ts with
  | .len,[x],[T] => match P.underlying T,opdOf x with
    | some .string,some x => some (.len .str x)
    | some (.slice _),some x => some (.len .sl x)
    | some (.map _ _),some x => some (.len .map x)
    | _,_ => none
  | .max,[x,y],_ => match opdOf x,opdOf y with
    | some x,some y => some (.mx true x y)
    | _,_ => none
  | .min,[x,y],_ => match opdOf x,opdOf y with
    | some x,some y => some (.mx false x y)
    | _,_ => none
  | .complex,[x,y],_ => match opdOf x,opdOf y with
    | some x,some y => some (.yo .cplx [x,y])
    | _,_ => none
  | .real,[x],_ => (opdOf x).map fun x => .yo .creal [x]
  | .imag,[x],_ => (opdOf x).map fun x => .yo .cimag [x]
  | _,_,_ => none
def copOf (P : Program) (c : Call) : Option VOp :=
  match c.callee with
  | .builtin b => bopOf P b c.args.toList c.argTypes.toList
  | _ => none
def uopOf (op : UnOp) (x : Opd) : Option VOp :=
  match op with
  | .not => some (.not x)
  | .neg => some (.neg x)
  | _ => none
def tapOk (P : Program) : Bool := match P.underlying P.rt.typeAssertionError with
  | some (.pointer _) => true
  | _ => false
def vopOf (P : Program) (op : Go.Op) : Option VOp :=
  match op with
  | .move x | .assign x => (opdOf x).map .mv
  | .pick c x y => match opdOf c,opdOf x,opdOf y with
    | some c,some x,some y => some (.pick c x y)
    | _,_,_ => none
  | .load T x => match tinfo P T,opdOf x with
    | some (agg,sz),some x => some (.load agg sz x)
    | _,_ => none
  | .nilCheck x => (opdOf x).map .nilc
  | .binOp op T x y _ => if eqkOf P T = .slice then none else match opdOf x,opdOf y with
    | some x,some y => some (.bin op (eqkOf P T) x y)
    | _,_ => none
  | .unOp op _ x => (opdOf x).bind (uopOf op)
  | .convert S T x => match P.underlying S,P.underlying T,opdOf x with
    | some (.int _),some (.int k),some x => some (.i2i k x)
    | some (.int _),some (.float .f64),some x => some (.yo .i2f [x])
    | some (.float .f64),some (.int k),some x => some (.yo (.f2i k) [x])
    | some .string,some .string,some x => some (.s2s x)
    | some (.slice e),some .string,some x => match P.underlying e,sizeT P e with
      | some (.int .u8),some 1 => some (.b2s x)
      | _,_ => none
    | _,_,_ => none
  | .slice T x lo hi mx => match opdOf x,optOpd lo,optOpd hi,optOpd mx with
    | some x,some lo,some hi,some mx => match P.underlying T with
      | some .string => some (.slc none x lo hi mx)
      | some (.slice e) => (sizeT P e).map fun sz => .slc (some sz) x lo hi mx
      | _ => none
    | _,_,_,_ => none
  | .field T x f => match fieldOf P T f,opdOf x with
    | some (off,agg,sz),some x => some (.fld agg sz off x)
    | _,_ => none
  | .fieldAddr T x f => match fieldOf P T f,opdOf x with
    | some (off,_,_),some x => some (.faddr off x)
    | _,_ => none
  | .indexAddr T x i => match sliceElem P T,opdOf x,opdOf i with
    | some e,some x,some i => match sizeT P e with
      | some (sz + 1) => some (.iaddr (sz + 1) x i)
      | _ => none
    | _,_,_ => none
  | .index T x i => match P.underlying T,opdOf x,opdOf i with
    | some .string,some x,some i => some (.idx x i)
    | some (.array n e),some x,some i => match tinfo P e with
      | some (agg,sz) => some (.aidx agg sz n x i)
      | none => none
    | _,_,_ => none
  | .typeAssert x _ T ok => if ok = false ∧ tapOk P = true then none else match P.underlying T,opdOf x,zeroV P T with
    | some (.interface _),_,_ => none
    | some _,some x,some z => some (.tya T ok z x)
    | _,_,_ => none
  | .extract x i => (opdOf x).map fun x => .ext x i
  | .entry x => (opdOf x).map fun x => .yo .ent [x]
  | .lookup T x i ok => match mapT P T,opdOf x,opdOf i with
    | some (kk,e),some x,some i => (zeroV P e).map fun z => .yo (.look kk z ok) [x,i]
    | _,_,_ => none
  | .call c => copOf P c
  | .makeInterface T x => match P.underlying T,opdOf x with
    | some (.interface _),_ => none
    | some _,some x => some (.mkif T x)
    | _,_ => none
  | .makeFunc fn xs ys => match opdsOf xs.toList,opdsOf ys.toList with
    | some xs,some ys => some (.mkfn fn xs ys)
    | _,_ => none
  | _ => none
end Go.Vm
