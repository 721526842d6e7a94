/- All operations of a region, one behind the other. -/
import Derived.Test.YtkldmgnhbomknaaGreatVm6
set_option linter.unusedVariables false
set_option linter.unusedSimpArgs false
namespace Go.Vm
def unitV : V := .tuple []
inductive XOp where
  | appm (sz bytes : Nat)
  | s2bm
  | mkbld (T e : Nat)
  | appg (sz bytes : Nat)
  | mkmap
  | mset (kk : BK)
  | mdel (kk : BK)
  | mrange
  | mnext
inductive MOp where
  | xo (q : XOp) (xs : List Opd)
  | val (q : VOp)
  | zalloc (cs : List V)
  | box (x : Opd)
  | boxi (x : Opd)
  | build (zero : List V) (parts : List (Nat × Nat × Opd))
  | bslice (sz n : Nat) (zero : List V) (parts : List (Nat × Nat × Opd))
  | store (sz : Nat) (x y : Opd)
  | s2b (x : Opd)
  | app (sz bytes : Nat) (x y : Opd)
  | isnil (neg : Bool) (x : Opd)
  | tap (t : Nat) (x : Opd)
  | call (f : Nat) (xs : List Opd)
  | scall (f : Nat) (xs : List Opd)
  | callv (x : Opd) (xs : List Opd)
structure MO where
  dst : Option Nat
  g : Option (Nat × Bool)
  op : MOp
def lay (a : A) : List V → List (Nat × Nat × Opd) → Option (List V)
  | cs,[] => some cs
  | cs,(off,sz,x) :: ps => match a.ev x with
    | some v => if v.flat = true ∧ v.cells.length = sz ∧ off + sz ≤ cs.length then lay a (over cs off v.cells) ps else none
    | none => none
def chop (sz : Nat) : Nat → List V → List (List V)
  | 0,_ => []
  | n + 1,cs => cs.take sz :: chop sz n (cs.drop sz)
def byteCells (l : List UInt8) : List (List V) := l.map fun b => [.int .u8 b.toNat]
def elems (sz : Nat) : V → Option (List (List V))
  | .nilSl => some []
  | .sl z es _ => if z = sz then some es else none
  | .str l => if sz = 1 then some (byteCells l) else none
  | _ => none
def elemsH (H : AH) (sz : Nat) : V → Option (List (List V))
  | .msl k z off n => match H k with
    | some (.cells cs) => if z = sz ∧ off + n * sz ≤ cs.length then some (chop sz n (cs.drop off)) else none
    | _ => none
  | v => elems sz v
def bytesV (l : List UInt8) : List V := l.map fun b => .int .u8 b.toNat
def appmK (H : AH) (sz bytes : Nat) (es fs : List (List V)) (u : V) (k : V → AH → Prop) : Prop :=
  (fs = [] → k u H) ∧ (fs ≠ [] → (es.length + fs.length) * bytes ≤ 140737488355328 ∧ ∀ i,H i = none → k (.msl i sz 0 (es.length + fs.length)) (H.put i (.cells (es ++ fs).flatten)))
def vappm (H : AH) (sz bytes : Nat) (fs : List (List V)) (k : V → AH → Prop) : V → Prop
  | .nilSl => appmK H sz bytes [] fs .nilSl k
  | .sl z es .tight => z = sz ∧ appmK H sz bytes es fs (.sl z es .tight) k
  | _ => False
def vappg (H : AH) (sz bytes : Nat) (fs : List (List V)) (k : V → AH → Prop) : V → Prop
  | .nilSl => (0 < fs.length ∧ fs.length * bytes ≤ 140737488355328) ∧ ∀ i,H i = none → k (.gsl i sz fs.length) (H.put i (.gr sz fs.length fs.flatten))
  | .gsl i z n => need (H i) fun
    | .gr y m cs => (z = sz ∧ y = sz ∧ m = n ∧ 0 < fs.length ∧ (n + fs.length) * bytes ≤ 140737488355328) ∧ k (.gsl i sz (n + fs.length)) (H.put i (.gr sz (n + fs.length) (cs ++ fs.flatten)))
    | _ => False
  | _ => False
def xsem : XOp → AH → List V → (V → AH → Prop) → Prop
  | .appm sz bytes,H,[u,v],k => need (elemsH H sz v) fun fs => vappm H sz bytes fs k u
  | .s2bm,H,[.str l],k => ∀ i,H i = none → k (.msl i 1 0 l.length) (H.put i (.cells (bytesV l)))
  | .mkbld T e,H,[],k => ∀ i,H i = none → k (.ptr i 0) (H.put i (.bld T e []))
  | .appg sz bytes,H,[u,v],k => need (elemsH H sz v) fun fs => vappg H sz bytes fs k u
  | .mkmap,H,[],k => ∀ i,H i = none → k (.map i) (H.put i (.map []))
  | .mset kk,H,[.map i,key,v],k => need (H i) fun
    | .map es => need (mfind kk key es) fun _ => k unitV (H.put i (.map (mput kk key v es)))
    | _ => False
  | .mdel kk,H,[.map i,key],k => need (H i) fun
    | .map es => need (mfind kk key es) fun _ => k unitV (H.put i (.map (mdel kk key es)))
    | _ => False
  | .mrange,H,[.nilMap],k => ∀ j,H j = none → k (.ptr j 0) (H.put j (.iter none))
  | .mrange,H,[.map i],k => need (H i) fun
    | .map es => ∀ j,H j = none → k (.ptr j 0) ((H.put i (.mapi es j es none)).put j (.iter (some i)))
    | _ => False
  | .mrange,H,[.mapv es],k => ∀ j,H j = none → k (.ptr j 0) (H.put j (.iterv es none))
  | .mnext,H,[.ptr j 0],k => need (H j) fun
    | .iterv left _ => (left = [] → k (.tuple [.bool false]) H) ∧ ∀ l1 kv l2,left = l1 ++ kv :: l2 → k (.tuple [.bool true,kv.1,kv.2]) (H.put j (.iterv (l1 ++ l2) (some kv)))
    | .iter none => k (.tuple [.bool false]) H
    | .iter (some i) => need (H i) fun
      | .mapi es j' left _ => j' = j ∧ (left = [] → k (.tuple [.bool false]) (H.put i (.map es))) ∧ ∀ l1 kv l2,left = l1 ++ kv :: l2 → k (.tuple [.bool true,kv.1,kv.2]) (H.put i (.mapi es j (l1 ++ l2) (some kv)))
      | _ => False
    | _ => False
  | _,_,_,_ => False
def XOp.soft : XOp → Bool
  | .appm .. | .s2bm | .mkbld .. | .mkmap => true
  | .appg .. | .mset _ | .mdel _ | .mrange | .mnext => false
def outK (k : V → AH → Prop) (kp : AH → Prop) : Out → AH → Prop
  | .ret v,H => k v H
  | .pan,H => kp H
def vapp (H : AH) (sz bytes : Nat) (fs : List (List V)) (k : V → AH → Prop) : V → Prop
  | .nilSl => (fs.length * bytes ≤ 140737488355328) ∧ ∀ i,H i = none → k (.sl sz fs (.id i)) (H.put i (.top sz fs.length))
  | .sl z es t => match t with
    | .id i => need (H i) fun
      | .top y n => (z = sz ∧ y = sz ∧ n = es.length ∧ (es.length + fs.length) * bytes ≤ 140737488355328) ∧ k (.sl sz (es ++ fs) (.id i)) (H.put i (.top sz (es.length + fs.length)))
      | _ => False
    | .tight => (z = sz ∧ min es.length 1 ≤ fs.length ∧ (es.length + fs.length) * bytes ≤ 140737488355328) ∧ ∀ i,H i = none → k (.sl sz (es ++ fs) (.id i)) (H.put i (.top sz (es.length + fs.length)))
    | .no => False
  | _ => False
def tapK (t : Nat) (k : V → Prop) (kp : Prop) : V → Prop
  | .iface u v => if u = t then k v else kp
  | .nilIface => kp
  | _ => False
def entered (P : Program) (f : FuncId) : Bool :=
  match P.funcs[f]? with
  | some fn => fn.body.isSome && !(fn.name == "runtime.NumGoroutine")
  | none => false
def mop (P : Program) : MOp → A → AH → (V → AH → Prop) → (AH → Prop) → Prop
  | .xo q xs,a,H,k,_ => need (a.evs xs) fun vs => xsem q H vs k
  | .val q,a,H,k,_ => vop q a H fun v => k v H
  | .zalloc cs,_,H,k,_ => ∀ i,H i = none → k (.ptr i 0) (H.put i (.cells cs))
  | .box x,a,H,k,_ => need (a.ev x) fun v => v.flat = true ∧ ∀ i,H i = none → k (.ptr i 0) (H.put i (.cells v.cells))
  | .boxi x,a,H,k,_ => need (a.ev x) fun v => v.flat = true ∧ k (.rptr v.cells 0) H
  | .build zero ps,a,H,k,_ => need (lay a zero ps) fun cs => k (.agg cs) H
  | .bslice sz n zero ps,a,H,k,_ => need (lay a zero ps) fun cs => k (.sl sz (chop sz n cs) .tight) H
  | .store sz x y,a,H,k,_ => need (a.ev x) fun
    | .ptr i off => need (a.ev y) fun v => need (H i) fun
      | .cells cs => (v.flat = true ∧ v.cells.length = sz ∧ off + sz ≤ cs.length) ∧ k unitV (H.put i (.cells (over cs off v.cells)))
      | _ => False
    | _ => False
  | .s2b x,a,H,k,_ => need (a.ev x) fun
    | .str l => k (.sl 1 (byteCells l) .no) H
    | _ => False
  | .app sz bytes x y,a,H,k,_ => need (a.ev x) fun u => need (a.ev y) fun v => need (elemsH H sz v) fun fs => vapp H sz bytes fs k u
  | .tap t x,a,H,k,Kp => need (a.ev x) (tapK t (fun v => k v H) (Kp H))
  | .isnil neg x,a,H,k,_ => need (a.ev x) fun
    | .nilSl => k (.bool (!neg)) H
    | .sl _ [] _ => k (.bool true) H ∧ k (.bool false) H
    | .sl _ (_ :: _) _ => k (.bool neg) H
    | .msl .. => k (.bool neg) H
    | _ => False
  | .call f xs,a,H,k,kp => need (a.evs xs) fun vs => ACalls P f vs H (outK k kp)
  | .scall f xs,a,H,k,kp => need (a.evs xs) fun vs => ACalls P f vs H (outK (fun v H' => H.lec H' ∧ k v H') kp)
  | .callv x xs,a,H,k,kp => need (a.ev x) fun
    | .func (.func f) us ws => need (a.evs xs) fun vs => entered P f = true ∧ ACalls P f (us ++ vs ++ ws) H (outK k kp)
    | _ => False
/-! ### Out of the translation -/
def zeroOf (P : Program) (T : TypeId) : Option (List V) :=
  match P.info? T with
  | some i => match i.zero with
    | some z => (valOf z).map V.cells
    | none => none
  | none => none
def partsOf (place : Nat → Option (Nat × Nat)) : List (Nat × Operand) → Option (List (Nat × Nat × Opd))
  | [] => some []
  | (i,x) :: ps => match place i,opdOf x,partsOf place ps with
    | some (off,sz),some y,some qs => some ((off,sz,y) :: qs)
    | _,_,_ => none
def placesOf (P : Program) : List Field → Option (List (Nat × Nat))
  | [] => some []
  | f :: fs => match sizeT P f.type,placesOf P fs with
    | some sz,some ps => some ((f.offset,sz) :: ps)
    | _,_ => none
def bytesT (P : Program) (T : TypeId) : Option Nat := (P.info? T).map (·.bytes)
def _root_.Option.isEqSome2 : Option (List V) → Bool
  | some [.nilPtr,.nilSl] => true
  | _ => false
def bufElem (P : Program) (T : TypeId) : Option TypeId :=
  match P.underlying T with
  | some (.struct fs) => match fs[1]? with
    | some f => sliceElem P f.type
    | none => none
  | _ => none
def immD (imm : Nat → Bool) (o : Oper) : Bool := match o.dst with
  | some d => imm d
  | none => false
def immG (imm : Nat → Bool) (o : Oper) : Bool := match o.dst with
  | some d => imm (d + 100000)
  | none => false
def mopOf (P : Program) (imm : Nat → Bool) (o : Oper) : Option MOp :=
  match vopOf P o.op with
  | some q => some (.val q)
  | none => match o.op with
    | .typeAssert x _ T ok => if ok = false ∧ tapOk P = true then (match P.underlying T,opdOf x with
      | some (.interface _),_ => none
      | some _,some x => some (.tap T x)
      | _,_ => none) else none
    | .alloc T => if immD imm o = true then (if zeroOf P T |>.isEqSome2 then (bufElem P T).map (fun e => .xo (.mkbld T e) []) else none) else (zeroOf P T).map .zalloc
    | .makeMap _ r => match r with
      | none => some (.xo .mkmap [])
      | some _ => none
    | .mapUpdate T m x y => match mapT P T,opdOf m,opdOf x,opdOf y with
      | some (kk,_),some m,some x,some y => some (.xo (.mset kk) [m,x,y])
      | _,_,_,_ => none
    | .range T x => match mapT P T,opdOf x with
      | some _,some x => some (.xo .mrange [x])
      | _,_ => none
    | .next x b => match b with
      | false => (opdOf x).map fun x => .xo .mnext [x]
      | true => none
    | .box _ x => match o.dst with
      | some d => if imm d then (opdOf x).map .boxi else (opdOf x).map .box
      | none => none
    | .build T ps => match P.underlying T,zeroOf P T with
      | some (.struct fs),some zero => match placesOf P fs.toList with
        | some pl => (partsOf (fun i => pl[i]?) ps.toList).map (.build zero)
        | none => none
      | some (.array _ e),some zero => match sizeT P e with
        | some sz => (partsOf (fun i => some (i * sz,sz)) ps.toList).map (.build zero)
        | none => none
      | _,_ => none
    | .buildSlice T n ps => match sliceElem P T with
      | some e => match sizeT P e,zeroOf P e with
        | some (sz + 1),some zero => if n * (sz + 1) ≤ 16777216 ∧ zero.length = sz + 1 then (partsOf (fun i => some (i * (sz + 1),sz + 1)) ps.toList).map (.bslice (sz + 1) n ((List.replicate n zero).flatten)) else none
        | _,_ => none
      | none => none
    | .binOp op T x y _ => if eqkOf P T = .slice then match op,opdOf x,opdOf y with
        | .eql,some x,some (.c .nilSl) => some (.isnil false x)
        | .neq,some x,some (.c .nilSl) => some (.isnil true x)
        | _,_,_ => none
      else none
    | .store T x y => match sizeT P T,opdOf x,opdOf y with
      | some sz,some x,some y => some (.store sz x y)
      | _,_,_ => none
    | .convert S T x => match P.underlying S,P.underlying T,opdOf x with
      | some .string,some (.slice e),some x => match P.underlying e with
        | some (.int .u8) => if immD imm o = true then some (.xo .s2bm [x]) else some (.s2b x)
        | _ => none
      | _,_,_ => none
    | .call c => match c.callee with
      | .value (.func f) => (opdsOf c.args.toList).map (.call f)
      | .value x => match opdOf x,opdsOf c.args.toList with
        | some x,some xs => some (.callv x xs)
        | _,_ => none
      | .builtin .delete => match c.args.toList,c.argTypes.toList with
        | [m,x],[T,_] => match mapT P T,opdOf m,opdOf x with
          | some (kk,_),some m,some x => some (.xo (.mdel kk) [m,x])
          | _,_,_ => none
        | _,_ => none
      | .builtin .append => match c.args.toList,c.argTypes.toList with
        | [x,y],[T,U] => match sliceElem P T,opdOf x,opdOf y with
          | some e,some x,some y => match P.underlying U,sizeT P e,bytesT P e with
            | some (.int _),_,_ => none
            | some _,some (sz + 1),some b => match zeroOf P e with
              | some zc => if 0 < b ∧ zc.length = sz + 1 then (if immG imm o = true then some (.xo (.appg (sz + 1) b) [x,y]) else if immD imm o = true then some (.xo (.appm (sz + 1) b) [x,y]) else some (.app (sz + 1) b x y)) else none
              | none => none
            | _,_,_ => none
          | _,_,_ => none
        | _,_ => none
      | _ => none
    | _ => none
def Went (s : St) (act : Act) (dst : Option Tmp) (k : V → AH → Prop) (act' : Act) (w' : World) : Prop :=
  ∃ s' x v H',s'.w = w' ∧ Ext s s' ∧ HRel s' H' ∧ act' = act.put dst x ∧ s'.val v x ∧ k v H'
def Fell (s : St) (act : Act) (kp : AH → Prop) (e : Exit) (act' : Act) (w' : World) : Prop :=
  ∃ ch s' H',e = .panic ch ∧ Chain ch ∧ act' = act ∧ s'.w = w' ∧ Ext s s' ∧ HRel s' H' ∧ kp H'
theorem wp_of_yields {P : Program} {o : Oper} {s : St} {act : Act} {H : AH} (hr : HRel s H) {k : V → AH → Prop} {kp : AH → Prop} (h : Yields P s (execOp act.eval o) (fun v => k v H)) :
    o.wp P act s.w (Went s act o.dst k) (Fell s act kp) := by
  obtain ⟨x,v,h1,h2,h3⟩ := h
  unfold Oper.wp
  rw [h1]
  exact ⟨s,x,v,H,rfl,.refl s,hr,rfl,h2,h3⟩
theorem wp_of_run {P : Program} {o : Oper} {s s' : St} {act : Act} {H' : AH} {k : V → AH → Prop} {kp : AH → Prop} {x : Value} {v : V} (h1 : (execOp act.eval o).run P s.w = .ok (.value x) s'.w) (hx : Ext s s') (hr : HRel s' H') (hv : s'.val v x) (hk : k v H') :
    o.wp P act s.w (Went s act o.dst k) (Fell s act kp) := by
  unfold Oper.wp
  rw [h1]
  exact ⟨s',x,v,H',rfl,hx,hr,rfl,hv,hk⟩
theorem zero_holds {P : Program} {T : TypeId} {cs : List V} (h : zeroOf P T = some cs) : ∃ z,(∀ w,(zeroValue T).run P w = .ok z w) ∧ (∀ s : St,s.vals cs z.cells.toList) ∧ ones cs = true := by
  unfold zeroOf at h
  split at h
  · rename_i i h1
    split at h
    · rename_i z h2
      simp only [Option.map_eq_some_iff] at h
      obtain ⟨v,h3,rfl⟩ := h
      refine ⟨z,fun w => by simp [zeroValue,typeInfo,h1,h2],fun s => val_cells (valOf_holds h3),?_⟩
      cases z with
      | agg zs =>
        simp only [valOf,Option.map_eq_some_iff] at h3
        obtain ⟨us,h4,rfl⟩ := h3
        exact cellsOf_ones h4
      | _ =>
        simp only [valOf] at h3
        have := cellOf_one h3
        cases v <;> first | rfl | (simp [V.one] at this)
    · cases h
  · cases h
theorem newCells {s : St} {H : AH} (hr : HRel s H) {cs : List V} {ys : Array Value} (hone : ones cs = true) (h : s.vals cs ys.toList) (T : TypeId) :
    Ext s (s.newObj (.cells ys T (0,0))) ∧ HRel (s.newObj (.cells ys T (0,0))) (H.put s.nx (.cells cs)) ∧ (s.newObj (.cells ys T (0,0))).val (.ptr s.nx 0) (.pointer (some ⟨s.w.heap.size,0,none⟩)) := by
  have hx := St.ext_newObj hr (.cells ys T (0,0))
  have hb : (s.newObj (.cells ys T (0,0))).blk s.nx = some s.w.heap.size := by simp [St.newObj]
  refine ⟨hx,hr.newObj _ _ ⟨s.w.heap.size,ys,#[],T,(0,0),hb,by simp [St.newObj],by rw [Array.append_empty]; exact heap_alloc_new,.inl (Nat.le_refl _),h.mono hx,hone⟩,.ptr _ _ _ hb⟩
theorem fits_one {cs : List V} {s : St} {xs : List Value} (h : s.vals cs xs) (h1 : ones cs = true) : ∀ x ∈ xs,x.oneCell' = true := by
  induction cs generalizing xs with
  | nil => cases h; simp
  | cons c cs ih =>
    cases h with
    | cons _ y _ ys k1 k2 =>
      rw [ones_cons,Bool.and_eq_true] at h1
      intro x hx
      simp only [List.mem_cons] at hx
      rcases hx with rfl | hx
      · exact one_val k1 h1.1
      · exact ih k2 h1.2 x hx
end Go.Vm
