/- Of the walks of this seat: contracts of functions of the given program, proved over the abstract values of the texts Vm. Conditions: as each theorem says. -/
import Derived.Test.YtjlphncecdlmcaaVmR
import Derived.Test.YtjlphncecdlmcaaShk
set_option linter.unusedVariables false
set_option linter.unusedSimpArgs false
/- slices.Sorted over the keys of a map that is not written any more: the shelf's contract, over the abstract heap. -/
namespace Go.Proofs.Ytjlphncecdlmcaa
open Go.Vm Go.Proofs Go.Maps Go.Sort Go.Shelf Go.RowKit Go.MapKept
theorem sorts127 (m : Nat) : AnyZ.SortsIn Try.prog Try.sorted127_ren Fence.wide m :=
  ⟨fun blk off cap ss W hH hblk hsz => callsIn_wide.2 (AnyM.slices_Sort_string Try.sort148 blk off cap ss W hH hblk hsz),
   fun p cap W => callsIn_wide.2 (AnyM.slices_Sort_string_none Try.sort148 p cap W)⟩
abbrev anyR : Value → Option (DataW Unit × List MemPlace) := fun _ => some (.lit (.bool true), [])
def strE (l : List (List UInt8)) : List (List V) := l.map fun x => [.str x]
theorem strE_len (l : List (List UInt8)) : (strE l).length = l.length := by simp [strE]
theorem ents_keys {s : St} : ∀ (ks : List (List UInt8)) (es : List (V × V)) (ms : List MapEntry), Holds s (.ents es ms) → es.map Prod.fst = ks.map V.str → ms.map (·.key) = ks.map fun k => Value.string ⟨k.toArray⟩
  | [], es, ms, h, e => by
    cases es with
    | nil => cases h; rfl
    | cons => cases e
  | k :: ks, es, ms, h, e => by
    cases es with
    | nil => cases e
    | cons p es =>
      obtain ⟨p1, p2⟩ := p
      simp only [List.map_cons, List.cons.injEq] at e
      obtain ⟨rfl, e⟩ := e
      cases h with
      | entsCons _ _ m _ ms h1 h2 h3 =>
        rw [List.map_cons, List.map_cons, ents_keys ks es ms h3 e, inv_str h1]
theorem key_str {k : List UInt8} (h : k.length ≤ maxLen) : keyOf Try.prog 9 (.string ⟨k.toArray⟩) = some (.string k) := by
  simpa using Go.WideMaps.keyOf_string_mk (P := Try.prog) Try.underlying9 (s := ⟨k.toArray⟩) (by simpa [ByteArray.size] using h)
theorem rg_keys : ∀ (ms : List MapEntry) (ks : List (List UInt8)), (∀ k ∈ ks, k.length ≤ maxLen) → ms.map (·.key) = (ks.map fun k => Value.string ⟨k.toArray⟩) → (ms.map (Go.WideElems.rg Try.prog 9 anyR)).map (fun p => strOf p.1) = ks
  | [], ks, _, e => by
    cases ks with
    | nil => rfl
    | cons => cases e
  | m :: ms, ks, hl, e => by
    cases ks with
    | nil => cases e
    | cons k ks =>
      simp only [List.map_cons, List.cons.injEq] at e
      have hm : Go.WideElems.rg Try.prog 9 anyR m = (.string k, .lit (.bool true)) := by
        simp [Go.WideElems.rg, Go.WideElems.rd, e.1, key_str (hl k List.mem_cons_self), anyR]
      rw [List.map_cons, List.map_cons, hm, rg_keys ms ks (fun x hx => hl x (List.mem_cons_of_mem _ hx)) e.2]
      rfl
theorem els_sorted {s : St} {b : Nat} {T : TypeId} {fr : Nat × Nat} {cur : Array Value} (hb : s.w.heap[b]? = some (.cells cur T fr)) (hn : s.role b = none) : ∀ (ss : List (List UInt8)) (o : Nat), (∀ i (h : i < ss.length), cur[o + i]? = some (encStr ss[i])) → Holds s (.els b o 1 (strE ss))
  | [], o, _ => .elsNil b o 1
  | x :: ss, o, h => by
    refine .elsCons b o 1 [.str x] (strE ss) rfl (.rowCons b o (.str x) _ [] rfl ⟨?_, fun k e he => by rw [hn] at he; cases he⟩ (Holds.str x) (.rowNil _ _)) ?_
    · rw [obj_cell hb]
      have := h 0 (by simp)
      simpa [encStr] using this
    · refine els_sorted hb hn ss (o + 1) (fun i hi => ?_)
      have := h (i + 1) (by simpa using hi)
      rw [show o + 1 + i = o + (i + 1) by omega]
      simpa using this
theorem below_ext {s : St} {w' : World} (hd : s.dr = false) (hb : Below s.w.heap.size s.w w') : Ext s { s with w := w' } := by
  refine ⟨hb.os, hb.tape, hb.output, ⟨rfl, fun h => by rw [hd] at h; cases h⟩, hb.size, fun c hc h => ⟨h, hb.block c hc⟩, fun c i e hc h => ⟨.inr ⟨e, Nat.le_refl _, h⟩, fun o ho => cell_of_block (hb.block c hc) o⟩, fun _ _ h => h, fun _ st h => ⟨st, h, .inl rfl⟩, Nat.le_refl _⟩
theorem below_rel {s : St} {H : AH} {w' : World} (hr : HRel s H) (hd : s.dr = false) (hb : Below s.w.heap.size s.w w') : HRel { s with w := w' } H := by
  refine ⟨fun k o hk => ORel.keep (below_ext hd hb) (fun c e he => ⟨rfl, hb.block c (hr.role c k e he).2⟩) rfl (hr.obj k o hk), hr.lt, hr.blk, hr.tok, fun c i e he => ⟨(hr.role c i e he).1, Nat.lt_of_lt_of_le (hr.role c i e he).2 hb.size⟩⟩
theorem fresh_role {s : St} {H : AH} (hr : HRel s H) {b : Nat} (h : s.w.heap.size ≤ b) : s.role b = none := by
  cases e : s.role b with
  | none => rfl
  | some p => exact absurd (hr.role b p.1 p.2 e).2 (by omega)
theorem sorted_calls {g ko : Nat} {es : List (V × V)} {ks : List (List UInt8)} {H : AH} (hg : H g = some .nodr) (hko : H ko = some (.cells [.mapv es])) (hk : es.map Prod.fst = ks.map V.str) (hn : ks.Nodup) (hl : ∀ k ∈ ks, k.length ≤ maxLen) (hb : ks.length * 16 ≤ 140737488355328) :
    ACalls Try.prog 127 [.func (.func 149) [] [.ptr ko 0]] H (fun o H' => o = .ret (.sl 1 (strE (ks.mergeSort leB)) .no) ∧ H' = H) := by
  intro s xs hr hv
  have hd : s.dr = false := hr.obj g _ hg
  obtain ⟨B, ys, zs, T, fr, t1, t2, t3, t4, t5, t6⟩ := hr.obj ko _ hko
  cases hv with
  | cons _ x _ xs h1 h2 =>
    cases h2
    obtain ⟨us, vs, u1, u2, rfl⟩ := inv_func h1
    cases u1
    cases u2 with
    | cons _ y _ vs v1 v2 =>
      cases v2
      obtain ⟨B', e1, rfl⟩ := inv_ptr v1
      rw [t1] at e1; cases e1
      generalize hys : ys.toList = yl at *
      cases t5 with
      | cons _ y _ yl p1 p2 =>
        cases p2
        cases p1 with
        | mapv _ b ms clock q1 q2 q3 q4 q5 q6 =>
          have hkey := ents_keys ks es ms.toList q4 hk
          have hml : ms.toList.length = ks.length := by
            have := congrArg List.length hkey
            simpa using this
          have hmc : s.w.cell? ⟨B, 0, none⟩ = some (.map (some b)) := by
            rw [obj_cell t3]
            rw [← Array.getElem?_toList, Array.toList_append, hys]
            rfl
          have hmax : (9223372036854775807 : Nat) = maxLen := rfl
          have hkN : (ms.toList.map (·.key)).Nodup := by
            rw [hkey]
            refine List.pairwise_map.2 (hn.imp fun hne e => hne ?_)
            simpa using e
          have hfit : Go.WideElems.Fit Try.prog 9 anyR ms clock := by
            refine ⟨by rw [← Array.length_toList]; omega, ⟨q5, q6, hkN⟩, fun m hm => ?_⟩
            have : m.key ∈ ms.toList.map (·.key) := List.mem_map_of_mem hm
            rw [hkey, List.mem_map] at this
            obtain ⟨k, hk1, hk2⟩ := this
            exact ⟨(.string k, .lit (.bool true)), by simp [Go.WideElems.rd, ← hk2, key_str (hl k hk1), anyR]⟩
          have hown : s.w.ownsMap Try.prog 9 anyR b ms.size (.map ((ms.toList.map (Go.WideElems.rg Try.prog 9 anyR)).foldr DataW.insert [])) := ⟨ms, clock, q3, hfit, Nat.le_refl _, rfl⟩
          have hperm : (strKeys (H := Unit) (.map ((ms.toList.map (Go.WideElems.rg Try.prog 9 anyR)).foldr DataW.insert []))).Perm ks := by
            have := ((Go.WideShapes.sorted_perm (ms.toList.map (Go.WideElems.rg Try.prog 9 anyR))).map fun p => strOf p.1)
            rwa [rg_keys ms.toList ks hl hkey] at this
          have hsz : Maps.size (H := Unit) (.map ((ms.toList.map (Go.WideElems.rg Try.prog 9 anyR)).foldr DataW.insert [])) = ks.length := by
            have := (Go.WideShapes.sorted_perm (ms.toList.map (Go.WideElems.rg Try.prog 9 anyR))).length_eq
            simpa [Maps.size_eq, hml] using this
          generalize (DataW.map ((ms.toList.map (Go.WideElems.rg Try.prog 9 anyR)).foldr DataW.insert []) : DataW Unit) = D0 at *
          have hseq : SeqGives Fence.wide 2 Try.prog 149 #[.pointer (some ⟨B, 0, none⟩)] encStr (fun ss => ss.Perm (strKeys D0)) (Maps.size D0) s.w :=
            AnyZ.keys_gives (ρ := Try.keys128_ren) { Try.keys128 with } Fence.wide 2 trivial rfl (by omega) B b ms.size D0 s.w (hr.role B ko 0 t2).2 hmc hown
          have hS := AnyZ.sorted_in Try.sorted127 Fence.wide 5 trivial trivial trivial trivial rfl (by omega) (sorts127 _) (enters_of Try.func148 (by kernel_rfl) rfl) 149 #[.pointer (some ⟨B, 0, none⟩)] trivial (enters_of Try.func149 (by kernel_rfl) rfl) _ _ (by rw [hsz]; omega) (by rw [hsz]; exact hb) _ hseq
          refine Calls.mono (callsIn_wide.1 hS) ?_
          rintro e w' ⟨v, ss, rfl, hss, hrow, hnil, hbel⟩
          have hss2 : ss.mergeSort leB = ks.mergeSort leB := mergeSort_of_perm (hss.trans hperm)
          have hx := below_ext hd hbel
          have hr' := below_rel hr hd hbel
          have hle : ss.length = ks.length := (hss.trans hperm).length_eq
          refine ⟨{ s with w := w' }, H, .ret _, rfl, hx, hr', ?_, rfl, rfl⟩
          rcases hrow.2 with ⟨rfl, hz⟩ | ⟨gb, cap, cur, rfl, hbase, hgb, r1, r2, r3, r4⟩
          · have : ks = [] := List.eq_nil_of_length_eq_zero (by omega)
            subst this
            show Holds _ _
            simpa [strE] using Holds.slNil (s := { s with w := w' }) 1 .no trivial
          · have hgl := fresh_role hr hbase
            have e3 : (strE (ks.mergeSort leB)).length = ss.length := by rw [strE_len, List.length_mergeSort, hle]
            rw [← e3]
            refine Holds.sl 1 _ .no gb 0 cap (els_sorted (s := { s with w := w' }) hgb hgl _ 0 fun i hi => ?_) (by rw [e3]; exact r1) trivial
            have r5 : cur.toList.take (ss.length * 1) = (ks.mergeSort leB).map encStr := by rw [r4, ← hss2]
            have hi2 : i < ss.length := by rw [List.length_mergeSort] at hi; omega
            have := congrArg (fun l => l[i]?) r5
            simp only [List.getElem?_take, List.getElem?_map] at this
            rw [if_pos (by omega), List.getElem?_eq_getElem hi] at this
            simpa using this
theorem sorted_nil_calls {g ko : Nat} {H : AH} (hg : H g = some .nodr) (hko : H ko = some (.cells [.nilMap])) :
    ACalls Try.prog 127 [.func (.func 149) [] [.ptr ko 0]] H (fun o H' => o = .ret (.sl 1 (strE []) .no) ∧ H' = H) := by
  intro s xs hr hv
  have hd : s.dr = false := hr.obj g _ hg
  obtain ⟨B, ys, zs, T, fr, t1, t2, t3, t4, t5, t6⟩ := hr.obj ko _ hko
  cases hv with
  | cons _ x _ xs h1 h2 =>
    cases h2
    obtain ⟨us, vs, u1, u2, rfl⟩ := inv_func h1
    cases u1
    cases u2 with
    | cons _ y _ vs v1 v2 =>
      cases v2
      obtain ⟨B', e1, rfl⟩ := inv_ptr v1
      rw [t1] at e1; cases e1
      generalize hys : ys.toList = yl at *
      cases t5 with
      | cons _ y _ yl p1 p2 =>
        cases p2
        cases p1
        have hmc : s.w.cell? ⟨B, 0, none⟩ = some (.map none) := by
          rw [obj_cell t3]
          rw [← Array.getElem?_toList, Array.toList_append, hys]
          rfl
        have hseq : SeqGives Fence.wide 2 Try.prog 149 #[.pointer (some ⟨B, 0, none⟩)] encStr (fun ss : List (List UInt8) => ss = []) 0 s.w :=
          AnyZ.keys_gives_nil (ρ := Try.keys128_ren) { Try.keys128 with } Fence.wide 2 trivial rfl B s.w (hr.role B ko 0 t2).2 hmc
        have hS := AnyZ.sorted_in Try.sorted127 Fence.wide 5 trivial trivial trivial trivial rfl (by omega) (sorts127 _) (enters_of Try.func148 (by kernel_rfl) rfl) 149 #[.pointer (some ⟨B, 0, none⟩)] trivial (enters_of Try.func149 (by kernel_rfl) rfl) _ 0 (Nat.zero_le _) (by omega) _ hseq
        refine Calls.mono (callsIn_wide.1 hS) ?_
        rintro e w' ⟨v, ss, rfl, rfl, hrow, hnil, hbel⟩
        have hx := below_ext hd hbel
        have hr' := below_rel hr hd hbel
        refine ⟨{ s with w := w' }, H, .ret _, rfl, hx, hr', ?_, rfl, rfl⟩
        rw [hnil.2 rfl]
        exact Holds.slNil (s := { s with w := w' }) 1 .no trivial
end Go.Proofs.Ytjlphncecdlmcaa
namespace Go.Proofs.Ytjlphncecdlmcaa
open Go.Vm Go.Sort
inductive Vl where
  | nul
  | unk
  | bool (b : Bool)
  | int (n : Int)
  | pt (n m : Int)
  | text (s : List UInt8)
  | list (l : List Vl)
  | map (es : List (List UInt8 × Vl))
def fl (n : Int) : Nat := FloatKind.f64.nearest n
def vV : Vl → V
  | .nul => .nilIface
  | .unk => .iface 127 (.agg [])
  | .bool b => .iface 4 (.bool b)
  | .int n => .iface 3 (.int .i64 n)
  | .pt n m => .iface 128 (.complex .f64 (fl n) (fl m))
  | .text s => .iface 9 (.str s)
  | .list l => .iface 129 (.sl 1 (l.map fun x => [vV x]) .no)
  | .map es => .iface 131 (.mapv (es.map fun p => (.str p.1, .agg [vV p.2])))
termination_by v => SizeOf.sizeOf v
decreasing_by
  all_goals first
    | (have := List.sizeOf_lt_of_mem ‹_ ∈ l›; simp only [Vl.list.sizeOf_spec]; omega)
    | (rename_i hm; obtain ⟨a, b⟩ := p; have := List.sizeOf_lt_of_mem (by assumption); simp only [Prod.mk.sizeOf_spec, Vl.map.sizeOf_spec] at this ⊢; omega)
def vE (l : List Vl) : List (List V) := l.map fun x => [vV x]
def mE (es : List (List UInt8 × Vl)) : List (V × V) := es.map fun p => (.str p.1, .agg [vV p.2])
theorem vV_nul : vV .nul = .nilIface := by rw [vV]
theorem vV_unk : vV .unk = .iface 127 (.agg []) := by rw [vV]
theorem vV_bool (b : Bool) : vV (.bool b) = .iface 4 (.bool b) := by rw [vV]
theorem vV_int (n : Int) : vV (.int n) = .iface 3 (.int .i64 n) := by rw [vV]
theorem vV_pt (n m : Int) : vV (.pt n m) = .iface 128 (.complex .f64 (fl n) (fl m)) := by rw [vV]
theorem vV_text (s : List UInt8) : vV (.text s) = .iface 9 (.str s) := by rw [vV]
theorem vV_list (l : List Vl) : vV (.list l) = .iface 129 (.sl 1 (vE l) .no) := by rw [vV]; rfl
theorem vV_map (es : List (List UInt8 × Vl)) : vV (.map es) = .iface 131 (.mapv (mE es)) := by rw [vV]; rfl
theorem vE_length (l : List Vl) : (vE l).length = l.length := by simp [vE]
theorem mE_length (l : List (List UInt8 × Vl)) : (mE l).length = l.length := by simp [mE]
theorem vE_get {l : List Vl} {i : Nat} (h : i < l.length) : (vE l)[i]? = some [vV l[i]] := by simp [vE, h]
theorem vE_app (a b : List Vl) : vE a ++ vE b = vE (a ++ b) := by simp [vE]
theorem Vl.ind {Q : Vl → Prop} (h0 : Q .nul) (h1 : Q .unk) (h2 : ∀ b, Q (.bool b)) (h3 : ∀ n, Q (.int n)) (h4 : ∀ n m, Q (.pt n m)) (h5 : ∀ s, Q (.text s)) (h6 : ∀ l : List Vl, (∀ x ∈ l, Q x) → Q (.list l)) (h7 : ∀ es : List (List UInt8 × Vl), (∀ p ∈ es, Q p.2) → Q (.map es)) : ∀ v, Q v
  | .nul => h0
  | .unk => h1
  | .bool b => h2 b
  | .int n => h3 n
  | .pt n m => h4 n m
  | .text s => h5 s
  | .list l => h6 l fun x _ => Vl.ind h0 h1 h2 h3 h4 h5 h6 h7 x
  | .map es => h7 es fun p _ => Vl.ind h0 h1 h2 h3 h4 h5 h6 h7 p.2
termination_by v => SizeOf.sizeOf v
decreasing_by
  all_goals first
    | (have := List.sizeOf_lt_of_mem ‹_ ∈ l›; simp only [Vl.list.sizeOf_spec]; omega)
    | (rename_i hm; obtain ⟨a, b⟩ := p; have := List.sizeOf_lt_of_mem (by assumption); simp only [Prod.mk.sizeOf_spec, Vl.map.sizeOf_spec] at this ⊢; omega)
def kys (es : List (List UInt8 × Vl)) : List (List UInt8) := (es.map Prod.fst).mergeSort leB
def fnd (k : List UInt8) : List (List UInt8 × Vl) → Option Vl
  | [] => none
  | p :: es => if p.1 = k then some p.2 else fnd k es
inductive Vl.Ok : Vl → Prop where
  | nul : Vl.Ok .nul
  | unk : Vl.Ok .unk
  | bool b : Vl.Ok (.bool b)
  | int n : Vl.Ok (.int n)
  | pt n m : -9007199254740992 ≤ n → n ≤ 9007199254740992 → -9007199254740992 ≤ m → m ≤ 9007199254740992 → Vl.Ok (.pt n m)
  | text s : Vl.Ok (.text s)
  | list l : l.length * 16 ≤ 100000000000000 → (∀ x ∈ l, Vl.Ok x) → Vl.Ok (.list l)
  | map es : es.length * 16 ≤ 100000000000000 → (es.map Prod.fst).Nodup → (∀ p ∈ es, p.1.length ≤ 9223372036854775807) → (∀ p ∈ es, Vl.Ok p.2) → Vl.Ok (.map es)
def Vl.kind : Vl → Int
  | .nul => 0
  | .unk => 1
  | .bool _ => 2
  | .int _ => 3
  | .pt _ _ => 4
  | .text _ => 5
  | .list _ => 6
  | .map _ => 7
end Go.Proofs.Ytjlphncecdlmcaa
namespace Go.Proofs.Ytjlphncecdlmcaa
open Go.Vm Go.Sort
attribute [local go_sem] List.drop_zero toNat_succ Nat.sub_zero Int.toNat_natCast Option.map_some Int.natCast_nonneg decide_eq_true_eq decide_eq_false_iff_not
/- (flange/value.Value).Kind -/
abbrev k27_0 : MC :=
  .cond (.t 24) ((.seq (.reg [
     ⟨(some 2), none, .val (.mv (.c (.int .i64 7)))⟩] [2]) (.ret))) (.skip)
abbrev k27_1 : MC :=
  .cond (.t 21) ((.seq (.reg [
     ⟨(some 2), none, .val (.mv (.c (.int .i64 6)))⟩] [2]) (.ret))) ((.seq (.reg [
     ⟨(some 23), none, .val (.tya 131 true .nilMap (.t 4))⟩,
     ⟨(some 24), none, .val (.ext (.t 23) 1)⟩,
     ⟨(some 25), none, .val (.ext (.t 23) 0)⟩] [24]) k27_0))
abbrev k27_2 : MC :=
  .cond (.t 18) ((.seq (.reg [
     ⟨(some 2), none, .val (.mv (.c (.int .i64 5)))⟩] [2]) (.ret))) ((.seq (.reg [
     ⟨(some 20), none, .val (.tya 129 true .nilSl (.t 4))⟩,
     ⟨(some 21), none, .val (.ext (.t 20) 1)⟩,
     ⟨(some 22), none, .val (.ext (.t 20) 0)⟩] [4, 21]) k27_1))
abbrev k27_3 : MC :=
  .cond (.t 15) ((.seq (.reg [
     ⟨(some 2), none, .val (.mv (.c (.int .i64 4)))⟩] [2]) (.ret))) ((.seq (.reg [
     ⟨(some 17), none, .val (.tya 9 true (.str []) (.t 4))⟩,
     ⟨(some 18), none, .val (.ext (.t 17) 1)⟩,
     ⟨(some 19), none, .val (.ext (.t 17) 0)⟩] [4, 18]) k27_2))
abbrev k27_4 : MC :=
  .cond (.t 12) ((.seq (.reg [
     ⟨(some 2), none, .val (.mv (.c (.int .i64 3)))⟩] [2]) (.ret))) ((.seq (.reg [
     ⟨(some 14), none, .val (.tya 128 true (.complex .f64 0 0) (.t 4))⟩,
     ⟨(some 15), none, .val (.ext (.t 14) 1)⟩,
     ⟨(some 16), none, .val (.ext (.t 14) 0)⟩] [4, 15]) k27_3))
abbrev k27_5 : MC :=
  .cond (.t 9) ((.seq (.reg [
     ⟨(some 2), none, .val (.mv (.c (.int .i64 2)))⟩] [2]) (.ret))) ((.seq (.reg [
     ⟨(some 11), none, .val (.tya 3 true (.int .i64 0) (.t 4))⟩,
     ⟨(some 12), none, .val (.ext (.t 11) 1)⟩,
     ⟨(some 13), none, .val (.ext (.t 11) 0)⟩] [4, 12]) k27_4))
abbrev k27_6 : MC :=
  .cond (.t 6) ((.seq (.reg [
     ⟨(some 2), none, .val (.mv (.c (.int .i64 1)))⟩] [2]) (.ret))) ((.seq (.reg [
     ⟨(some 8), none, .val (.tya 4 true (.bool false) (.t 4))⟩,
     ⟨(some 9), none, .val (.ext (.t 8) 1)⟩,
     ⟨(some 10), none, .val (.ext (.t 8) 0)⟩] [4, 9]) k27_5))
abbrev k27_7 : MC :=
  .block 0 ((.seq (.reg [
     ⟨(some 5), none, .val (.tya 127 true (.agg []) (.t 4))⟩,
     ⟨(some 6), none, .val (.ext (.t 5) 1)⟩,
     ⟨(some 7), none, .val (.ext (.t 5) 0)⟩] [4, 6]) k27_6))
abbrev k27_8 : MC :=
  (.seq (.reg [
    ⟨(some 2), none, .val (.mv (.c (.int .i64 0)))⟩] [2]) (.ret))
abbrev k27_9 : MC :=
  (.seq ((.seq (.reg [
    ⟨(some 3), none, .val (.faddr 0 (.t 1))⟩,
    ⟨(some 4), none, .val (.load false 1 (.t 3))⟩] [4]) k27_7)) k27_8)
abbrev k27 : MC :=
  (.seq (.reg [
    ⟨(some 1), none, .boxi (.t 0)⟩,
    ⟨(some 2), none, .val (.mv (.c (.int .i64 0)))⟩] [1]) k27_9)
theorem c27 : Try.f27.body.bind (mcOf Try.prog (List.contains [1] ·) (List.getD [([], [1]), ([], [4]), ([], [4, 6]), ([], [2]), ([], [4, 9]), ([], [2]), ([], [4, 12]), ([], [2]), ([], [4, 15]), ([], [2]), ([], [4, 18]), ([], [2]), ([], [4, 21]), ([], [2]), ([], [24]), ([], [2]), ([], [2])] · ([], [])) 26) = some k27 := by kernel_rfl
theorem r27 : rvsOf Try.prog Try.f27.results.toList = some [.tmp 2] := by kernel_rfl
/- (flange/value.Value).Bool -/
abbrev k96_0 : MC :=
  (.seq (.reg [
    ⟨(some 12), none, .val (.mv (.t 4))⟩,
    ⟨(some 13), none, .val (.mv (.t 5))⟩,
    ⟨(some 2), none, .val (.mv (.t 12))⟩,
    ⟨(some 3), none, .val (.mv (.t 13))⟩] [2, 3]) (.ret))
abbrev k96_1 : MC :=
  (.seq (.reg [
    ⟨(some 7), none, .val (.faddr 0 (.t 1))⟩,
    ⟨(some 8), none, .val (.load false 1 (.t 7))⟩,
    ⟨(some 9), none, .val (.tya 4 true (.bool false) (.t 8))⟩,
    ⟨(some 6), none, .val (.mv (.t 9))⟩,
    ⟨(some 10), none, .val (.ext (.t 6) 0)⟩,
    ⟨(some 11), none, .val (.ext (.t 6) 1)⟩,
    ⟨(some 4), none, .val (.mv (.t 10))⟩,
    ⟨(some 5), none, .val (.mv (.t 11))⟩] [4, 5]) k96_0)
abbrev k96 : MC :=
  (.seq (.reg [
    ⟨(some 1), none, .boxi (.t 0)⟩,
    ⟨(some 2), none, .val (.mv (.c (.bool false)))⟩,
    ⟨(some 3), none, .val (.mv (.c (.bool false)))⟩] [1]) k96_1)
theorem c96 : Try.f96.body.bind (mcOf Try.prog (List.contains [1] ·) (List.getD [([], [1]), ([], [4, 5]), ([], [2, 3])] · ([], [])) 14) = some k96 := by kernel_rfl
theorem r96 : rvsOf Try.prog Try.f96.results.toList = some [.tmp 2, .tmp 3] := by kernel_rfl
/- (flange/value.Value).Int -/
abbrev k75_0 : MC :=
  (.seq (.reg [
    ⟨(some 12), none, .val (.mv (.t 4))⟩,
    ⟨(some 13), none, .val (.mv (.t 5))⟩,
    ⟨(some 2), none, .val (.mv (.t 12))⟩,
    ⟨(some 3), none, .val (.mv (.t 13))⟩] [2, 3]) (.ret))
abbrev k75_1 : MC :=
  (.seq (.reg [
    ⟨(some 7), none, .val (.faddr 0 (.t 1))⟩,
    ⟨(some 8), none, .val (.load false 1 (.t 7))⟩,
    ⟨(some 9), none, .val (.tya 3 true (.int .i64 0) (.t 8))⟩,
    ⟨(some 6), none, .val (.mv (.t 9))⟩,
    ⟨(some 10), none, .val (.ext (.t 6) 0)⟩,
    ⟨(some 11), none, .val (.ext (.t 6) 1)⟩,
    ⟨(some 4), none, .val (.mv (.t 10))⟩,
    ⟨(some 5), none, .val (.mv (.t 11))⟩] [4, 5]) k75_0)
abbrev k75 : MC :=
  (.seq (.reg [
    ⟨(some 1), none, .boxi (.t 0)⟩,
    ⟨(some 2), none, .val (.mv (.c (.int .i64 0)))⟩,
    ⟨(some 3), none, .val (.mv (.c (.bool false)))⟩] [1]) k75_1)
theorem c75 : Try.f75.body.bind (mcOf Try.prog (List.contains [1] ·) (List.getD [([], [1]), ([], [4, 5]), ([], [2, 3])] · ([], [])) 14) = some k75 := by kernel_rfl
theorem r75 : rvsOf Try.prog Try.f75.results.toList = some [.tmp 2, .tmp 3] := by kernel_rfl
/- (flange/value.Value).Text -/
abbrev k97_0 : MC :=
  (.seq (.reg [
    ⟨(some 12), none, .val (.mv (.t 4))⟩,
    ⟨(some 13), none, .val (.mv (.t 5))⟩,
    ⟨(some 2), none, .val (.mv (.t 12))⟩,
    ⟨(some 3), none, .val (.mv (.t 13))⟩] [2, 3]) (.ret))
abbrev k97_1 : MC :=
  (.seq (.reg [
    ⟨(some 7), none, .val (.faddr 0 (.t 1))⟩,
    ⟨(some 8), none, .val (.load false 1 (.t 7))⟩,
    ⟨(some 9), none, .val (.tya 9 true (.str []) (.t 8))⟩,
    ⟨(some 6), none, .val (.mv (.t 9))⟩,
    ⟨(some 10), none, .val (.ext (.t 6) 0)⟩,
    ⟨(some 11), none, .val (.ext (.t 6) 1)⟩,
    ⟨(some 4), none, .val (.mv (.t 10))⟩,
    ⟨(some 5), none, .val (.mv (.t 11))⟩] [4, 5]) k97_0)
abbrev k97 : MC :=
  (.seq (.reg [
    ⟨(some 1), none, .boxi (.t 0)⟩,
    ⟨(some 2), none, .val (.mv (.c (.str [])))⟩,
    ⟨(some 3), none, .val (.mv (.c (.bool false)))⟩] [1]) k97_1)
theorem c97 : Try.f97.body.bind (mcOf Try.prog (List.contains [1] ·) (List.getD [([], [1]), ([], [4, 5]), ([], [2, 3])] · ([], [])) 14) = some k97 := by kernel_rfl
theorem r97 : rvsOf Try.prog Try.f97.results.toList = some [.tmp 2, .tmp 3] := by kernel_rfl
/- flange/value.Int -/
abbrev k74_0 : MC :=
  (.seq (.reg [
    ⟨(some 3), none, .val (.mv (.t 0))⟩,
    ⟨(some 4), none, .val (.mkif 3 (.t 3))⟩,
    ⟨(some 5), none, .build [.nilIface] [(0, 1, (.t 4))]⟩,
    ⟨none, none, .store 1 (.t 2) (.t 5)⟩] [2]) (.ret))
abbrev k74 : MC :=
  (.seq (.reg [
    ⟨(some 2), none, .zalloc [.nilIface]⟩] [0, 2]) k74_0)
theorem c74 : Try.f74.body.bind (mcOf Try.prog (List.contains [] ·) (List.getD [([], [0, 2]), ([], [2])] · ([], [])) 6) = some k74 := by kernel_rfl
theorem r74 : rvsOf Try.prog Try.f74.results.toList = some [.cell 2 true 1] := by kernel_rfl
/- flange/value.Of -/
abbrev k77_0 : MC :=
  (.seq (.reg [
    ⟨(some 3), none, .val (.mv (.t 0))⟩,
    ⟨(some 4), none, .val (.mkif 4 (.t 3))⟩,
    ⟨(some 5), none, .build [.nilIface] [(0, 1, (.t 4))]⟩,
    ⟨none, none, .store 1 (.t 2) (.t 5)⟩] [2]) (.ret))
abbrev k77 : MC :=
  (.seq (.reg [
    ⟨(some 2), none, .zalloc [.nilIface]⟩] [0, 2]) k77_0)
theorem c77 : Try.f77.body.bind (mcOf Try.prog (List.contains [] ·) (List.getD [([], [0, 2]), ([], [2])] · ([], [])) 6) = some k77 := by kernel_rfl
theorem r77 : rvsOf Try.prog Try.f77.results.toList = some [.cell 2 true 1] := by kernel_rfl
/- flange/value.Text -/
abbrev k78_0 : MC :=
  (.seq (.reg [
    ⟨(some 3), none, .val (.mv (.t 0))⟩,
    ⟨(some 4), none, .val (.mkif 9 (.t 3))⟩,
    ⟨(some 5), none, .build [.nilIface] [(0, 1, (.t 4))]⟩,
    ⟨none, none, .store 1 (.t 2) (.t 5)⟩] [2]) (.ret))
abbrev k78 : MC :=
  (.seq (.reg [
    ⟨(some 2), none, .zalloc [.nilIface]⟩] [0, 2]) k78_0)
theorem c78 : Try.f78.body.bind (mcOf Try.prog (List.contains [] ·) (List.getD [([], [0, 2]), ([], [2])] · ([], [])) 6) = some k78 := by kernel_rfl
theorem r78 : rvsOf Try.prog Try.f78.results.toList = some [.cell 2 true 1] := by kernel_rfl
/- flange/value.Later -/
abbrev k76_0 : MC :=
  (.seq (.reg [
    ⟨(some 1), none, .build [] []⟩,
    ⟨(some 2), none, .val (.mkif 127 (.t 1))⟩,
    ⟨(some 3), none, .build [.nilIface] [(0, 1, (.t 2))]⟩,
    ⟨none, none, .store 1 (.t 0) (.t 3)⟩] [0]) (.ret))
abbrev k76 : MC :=
  (.seq (.reg [
    ⟨(some 0), none, .zalloc [.nilIface]⟩] [0]) k76_0)
theorem c76 : Try.f76.body.bind (mcOf Try.prog (List.contains [] ·) (List.getD [([], [0]), ([], [0])] · ([], [])) 4) = some k76 := by kernel_rfl
theorem r76 : rvsOf Try.prog Try.f76.results.toList = some [.cell 0 true 1] := by kernel_rfl
/- flange/value.Unset -/
abbrev k79_0 : MC :=
  (.seq (.reg [
    ⟨(some 1), none, .build [.nilIface] []⟩,
    ⟨none, none, .store 1 (.t 0) (.t 1)⟩] [0]) (.ret))
abbrev k79 : MC :=
  (.seq (.reg [
    ⟨(some 0), none, .zalloc [.nilIface]⟩] [0]) k79_0)
theorem c79 : Try.f79.body.bind (mcOf Try.prog (List.contains [] ·) (List.getD [([], [0]), ([], [0])] · ([], [])) 2) = some k79 := by kernel_rfl
theorem r79 : rvsOf Try.prog Try.f79.results.toList = some [.cell 0 true 1] := by kernel_rfl
def Vl.isB : Vl → Bool × Bool
  | .bool b => (b, true)
  | _ => (false, false)
def Vl.isI : Vl → Int × Bool
  | .int n => (n, true)
  | _ => (0, false)
def Vl.isT : Vl → List UInt8 × Bool
  | .text s => (s, true)
  | _ => ([], false)
theorem kind_calls (v : Vl) (H : AH) : ACalls Try.prog 27 [.agg [vV v]] H (fun o H' => o = .ret (.int .i64 v.kind) ∧ H' = H) := by
  refine ACalls.drop ?_
  refine acalls Try.func27 c27 r27 (by simp [Try.ntmps27]) ?_
  cases v
  all_goals simp only [vV_nul, vV_unk, vV_bool, vV_int, vV_pt, vV_text, vV_list, vV_map]
  repeat' (first | with_reducible (first | refine am_seq ?_ | refine am_block ?_) | ((with_reducible apply am_cond); (case hb => rfl); all_goals (intro hc; (try simp only [reduceCtorEq, decide_eq_true_eq, decide_eq_false_iff_not, Bool.or_eq_true, Bool.and_eq_true, Bool.or_eq_false_iff, Bool.not_eq_true', Bool.not_eq_false', beq_iff_eq] at hc); (try (exfalso; omega)))) | ((first | with_reducible (first | refine am_reg ?_ | refine am_drw ?_ | refine am_drx ?_ | refine am_skip ?_ | refine am_exit ?_ | refine am_ret ?_ | refine And.intro (by first | exact AH.lec_refl _ | assumption | exact AccP.lec (by assumption) | omega) ?_ | refine isnE_of (fun hc => ?_) (fun hc => ?_) (fun hc => ?_) | refine need_elems (by assumption) ?_ | refine vlen_acc (by assumption) ?_ | refine need_bytes (by assumption) ?_ | refine need_look (by repeat (first | assumption | exact AH.put_same _ _ _ | refine look_put ?_ (by assumption) | refine look_lec ?_ (by assumption))) ?_) | ((with_reducible (first | refine gd_not (fun hc => ?_) (fun hc => ?_) | refine gd_of (fun hc => ?_) (fun hc => ?_) | refine gq_not (fun hc => ?_) (fun hc => ?_) | refine gq_of (fun hc => ?_) (fun hc => ?_) | refine pickB_of (fun hc => ?_) (fun hc => ?_))) <;> (try simp -implicitDefEqProofs (disch := omega) only [go_sem, eq_self, decide_true, decide_false, Nat.reduceBEq, Nat.reduceAdd, Nat.reduceSub, Nat.reduceMul, Nat.reduceEqDiff, Nat.reduceLeDiff, Nat.reduceLT, Int.reduceLE, Int.reduceLT, Int.reduceToNat, Int.reduceAdd, Int.reduceEq, Int.reduceNeg, AH.put_ne, hc, true_or, or_true, true_and]) <;> (try simp only [reduceCtorEq, decide_eq_true_eq, decide_eq_false_iff_not, Bool.or_eq_true, Bool.and_eq_true, Bool.or_eq_false_iff, Bool.not_eq_true', Bool.not_eq_false', beq_iff_eq] at hc) <;> (try (exfalso; omega))) | ((with_reducible refine alloc_intro (fun ko hko => ?_)) <;> (try have hne := fresh_ne (by assumption) hko) <;> (try have hnk := fresh_ne hk hko) <;> (try have hnk2 := fresh_ne hk2 hko) <;> (try simp only [AH.put_none] at hko)) | ((with_reducible (first | refine vapp_accL (by assumption) ?_ (fun v2 H2 hacc hlec => ?_) | refine vapp_accL (AccP.mono (by assumption) (AccP.le (by assumption))) ?_ (fun v2 H2 hacc hlec => ?_) | refine vapp_accL (AccP.new (by assumption) (by assumption) _) ?_ (fun v2 H2 hacc hlec => ?_))); · simp only [byteCells_length, List.length_cons, List.length_nil, List.length_map, List.length_append, vE_length, mE_length]; omega)) <;> (try simp -implicitDefEqProofs (disch := omega) only [go_sem, eq_self, decide_true, decide_false, Nat.reduceBEq, Nat.reduceAdd, Nat.reduceSub, Nat.reduceMul, Nat.reduceEqDiff, Nat.reduceLeDiff, Nat.reduceLT, Int.reduceLE, Int.reduceLT, Int.reduceToNat, Int.reduceAdd, Int.reduceEq, Int.reduceNeg, AH.put_ne, true_or, or_true, true_and])))
  all_goals exact end_same
theorem bool_calls (v : Vl) (H : AH) : ACalls Try.prog 96 [.agg [vV v]] H (fun o H' => o = .ret (.tuple [.bool v.isB.1, .bool v.isB.2]) ∧ H' = H) := by
  refine ACalls.drop ?_
  refine acalls Try.func96 c96 r96 (by simp [Try.ntmps96]) ?_
  cases v
  all_goals simp only [vV_nul, vV_unk, vV_bool, vV_int, vV_pt, vV_text, vV_list, vV_map]
  repeat' (first | with_reducible (first | refine am_seq ?_ | refine am_block ?_) | ((with_reducible apply am_cond); (case hb => rfl); all_goals (intro hc; (try simp only [reduceCtorEq, decide_eq_true_eq, decide_eq_false_iff_not, Bool.or_eq_true, Bool.and_eq_true, Bool.or_eq_false_iff, Bool.not_eq_true', Bool.not_eq_false', beq_iff_eq] at hc); (try (exfalso; omega)))) | ((first | with_reducible (first | refine am_reg ?_ | refine am_drw ?_ | refine am_drx ?_ | refine am_skip ?_ | refine am_exit ?_ | refine am_ret ?_ | refine And.intro (by first | exact AH.lec_refl _ | assumption | exact AccP.lec (by assumption) | omega) ?_ | refine isnE_of (fun hc => ?_) (fun hc => ?_) (fun hc => ?_) | refine need_elems (by assumption) ?_ | refine vlen_acc (by assumption) ?_ | refine need_bytes (by assumption) ?_ | refine need_look (by repeat (first | assumption | exact AH.put_same _ _ _ | refine look_put ?_ (by assumption) | refine look_lec ?_ (by assumption))) ?_) | ((with_reducible (first | refine gd_not (fun hc => ?_) (fun hc => ?_) | refine gd_of (fun hc => ?_) (fun hc => ?_) | refine gq_not (fun hc => ?_) (fun hc => ?_) | refine gq_of (fun hc => ?_) (fun hc => ?_) | refine pickB_of (fun hc => ?_) (fun hc => ?_))) <;> (try simp -implicitDefEqProofs (disch := omega) only [go_sem, eq_self, decide_true, decide_false, Nat.reduceBEq, Nat.reduceAdd, Nat.reduceSub, Nat.reduceMul, Nat.reduceEqDiff, Nat.reduceLeDiff, Nat.reduceLT, Int.reduceLE, Int.reduceLT, Int.reduceToNat, Int.reduceAdd, Int.reduceEq, Int.reduceNeg, AH.put_ne, hc, true_or, or_true, true_and]) <;> (try simp only [reduceCtorEq, decide_eq_true_eq, decide_eq_false_iff_not, Bool.or_eq_true, Bool.and_eq_true, Bool.or_eq_false_iff, Bool.not_eq_true', Bool.not_eq_false', beq_iff_eq] at hc) <;> (try (exfalso; omega))) | ((with_reducible refine alloc_intro (fun ko hko => ?_)) <;> (try have hne := fresh_ne (by assumption) hko) <;> (try have hnk := fresh_ne hk hko) <;> (try have hnk2 := fresh_ne hk2 hko) <;> (try simp only [AH.put_none] at hko)) | ((with_reducible (first | refine vapp_accL (by assumption) ?_ (fun v2 H2 hacc hlec => ?_) | refine vapp_accL (AccP.mono (by assumption) (AccP.le (by assumption))) ?_ (fun v2 H2 hacc hlec => ?_) | refine vapp_accL (AccP.new (by assumption) (by assumption) _) ?_ (fun v2 H2 hacc hlec => ?_))); · simp only [byteCells_length, List.length_cons, List.length_nil, List.length_map, List.length_append, vE_length, mE_length]; omega)) <;> (try simp -implicitDefEqProofs (disch := omega) only [go_sem, eq_self, decide_true, decide_false, Nat.reduceBEq, Nat.reduceAdd, Nat.reduceSub, Nat.reduceMul, Nat.reduceEqDiff, Nat.reduceLeDiff, Nat.reduceLT, Int.reduceLE, Int.reduceLT, Int.reduceToNat, Int.reduceAdd, Int.reduceEq, Int.reduceNeg, AH.put_ne, true_or, or_true, true_and])))
  all_goals exact end_same
theorem int_calls (v : Vl) (H : AH) : ACalls Try.prog 75 [.agg [vV v]] H (fun o H' => o = .ret (.tuple [.int .i64 v.isI.1, .bool v.isI.2]) ∧ H' = H) := by
  refine ACalls.drop ?_
  refine acalls Try.func75 c75 r75 (by simp [Try.ntmps75]) ?_
  cases v
  all_goals simp only [vV_nul, vV_unk, vV_bool, vV_int, vV_pt, vV_text, vV_list, vV_map]
  repeat' (first | with_reducible (first | refine am_seq ?_ | refine am_block ?_) | ((with_reducible apply am_cond); (case hb => rfl); all_goals (intro hc; (try simp only [reduceCtorEq, decide_eq_true_eq, decide_eq_false_iff_not, Bool.or_eq_true, Bool.and_eq_true, Bool.or_eq_false_iff, Bool.not_eq_true', Bool.not_eq_false', beq_iff_eq] at hc); (try (exfalso; omega)))) | ((first | with_reducible (first | refine am_reg ?_ | refine am_drw ?_ | refine am_drx ?_ | refine am_skip ?_ | refine am_exit ?_ | refine am_ret ?_ | refine And.intro (by first | exact AH.lec_refl _ | assumption | exact AccP.lec (by assumption) | omega) ?_ | refine isnE_of (fun hc => ?_) (fun hc => ?_) (fun hc => ?_) | refine need_elems (by assumption) ?_ | refine vlen_acc (by assumption) ?_ | refine need_bytes (by assumption) ?_ | refine need_look (by repeat (first | assumption | exact AH.put_same _ _ _ | refine look_put ?_ (by assumption) | refine look_lec ?_ (by assumption))) ?_) | ((with_reducible (first | refine gd_not (fun hc => ?_) (fun hc => ?_) | refine gd_of (fun hc => ?_) (fun hc => ?_) | refine gq_not (fun hc => ?_) (fun hc => ?_) | refine gq_of (fun hc => ?_) (fun hc => ?_) | refine pickB_of (fun hc => ?_) (fun hc => ?_))) <;> (try simp -implicitDefEqProofs (disch := omega) only [go_sem, eq_self, decide_true, decide_false, Nat.reduceBEq, Nat.reduceAdd, Nat.reduceSub, Nat.reduceMul, Nat.reduceEqDiff, Nat.reduceLeDiff, Nat.reduceLT, Int.reduceLE, Int.reduceLT, Int.reduceToNat, Int.reduceAdd, Int.reduceEq, Int.reduceNeg, AH.put_ne, hc, true_or, or_true, true_and]) <;> (try simp only [reduceCtorEq, decide_eq_true_eq, decide_eq_false_iff_not, Bool.or_eq_true, Bool.and_eq_true, Bool.or_eq_false_iff, Bool.not_eq_true', Bool.not_eq_false', beq_iff_eq] at hc) <;> (try (exfalso; omega))) | ((with_reducible refine alloc_intro (fun ko hko => ?_)) <;> (try have hne := fresh_ne (by assumption) hko) <;> (try have hnk := fresh_ne hk hko) <;> (try have hnk2 := fresh_ne hk2 hko) <;> (try simp only [AH.put_none] at hko)) | ((with_reducible (first | refine vapp_accL (by assumption) ?_ (fun v2 H2 hacc hlec => ?_) | refine vapp_accL (AccP.mono (by assumption) (AccP.le (by assumption))) ?_ (fun v2 H2 hacc hlec => ?_) | refine vapp_accL (AccP.new (by assumption) (by assumption) _) ?_ (fun v2 H2 hacc hlec => ?_))); · simp only [byteCells_length, List.length_cons, List.length_nil, List.length_map, List.length_append, vE_length, mE_length]; omega)) <;> (try simp -implicitDefEqProofs (disch := omega) only [go_sem, eq_self, decide_true, decide_false, Nat.reduceBEq, Nat.reduceAdd, Nat.reduceSub, Nat.reduceMul, Nat.reduceEqDiff, Nat.reduceLeDiff, Nat.reduceLT, Int.reduceLE, Int.reduceLT, Int.reduceToNat, Int.reduceAdd, Int.reduceEq, Int.reduceNeg, AH.put_ne, true_or, or_true, true_and])))
  all_goals exact end_same
theorem text_calls (v : Vl) (H : AH) : ACalls Try.prog 97 [.agg [vV v]] H (fun o H' => o = .ret (.tuple [.str v.isT.1, .bool v.isT.2]) ∧ H' = H) := by
  refine ACalls.drop ?_
  refine acalls Try.func97 c97 r97 (by simp [Try.ntmps97]) ?_
  cases v
  all_goals simp only [vV_nul, vV_unk, vV_bool, vV_int, vV_pt, vV_text, vV_list, vV_map]
  repeat' (first | with_reducible (first | refine am_seq ?_ | refine am_block ?_) | ((with_reducible apply am_cond); (case hb => rfl); all_goals (intro hc; (try simp only [reduceCtorEq, decide_eq_true_eq, decide_eq_false_iff_not, Bool.or_eq_true, Bool.and_eq_true, Bool.or_eq_false_iff, Bool.not_eq_true', Bool.not_eq_false', beq_iff_eq] at hc); (try (exfalso; omega)))) | ((first | with_reducible (first | refine am_reg ?_ | refine am_drw ?_ | refine am_drx ?_ | refine am_skip ?_ | refine am_exit ?_ | refine am_ret ?_ | refine And.intro (by first | exact AH.lec_refl _ | assumption | exact AccP.lec (by assumption) | omega) ?_ | refine isnE_of (fun hc => ?_) (fun hc => ?_) (fun hc => ?_) | refine need_elems (by assumption) ?_ | refine vlen_acc (by assumption) ?_ | refine need_bytes (by assumption) ?_ | refine need_look (by repeat (first | assumption | exact AH.put_same _ _ _ | refine look_put ?_ (by assumption) | refine look_lec ?_ (by assumption))) ?_) | ((with_reducible (first | refine gd_not (fun hc => ?_) (fun hc => ?_) | refine gd_of (fun hc => ?_) (fun hc => ?_) | refine gq_not (fun hc => ?_) (fun hc => ?_) | refine gq_of (fun hc => ?_) (fun hc => ?_) | refine pickB_of (fun hc => ?_) (fun hc => ?_))) <;> (try simp -implicitDefEqProofs (disch := omega) only [go_sem, eq_self, decide_true, decide_false, Nat.reduceBEq, Nat.reduceAdd, Nat.reduceSub, Nat.reduceMul, Nat.reduceEqDiff, Nat.reduceLeDiff, Nat.reduceLT, Int.reduceLE, Int.reduceLT, Int.reduceToNat, Int.reduceAdd, Int.reduceEq, Int.reduceNeg, AH.put_ne, hc, true_or, or_true, true_and]) <;> (try simp only [reduceCtorEq, decide_eq_true_eq, decide_eq_false_iff_not, Bool.or_eq_true, Bool.and_eq_true, Bool.or_eq_false_iff, Bool.not_eq_true', Bool.not_eq_false', beq_iff_eq] at hc) <;> (try (exfalso; omega))) | ((with_reducible refine alloc_intro (fun ko hko => ?_)) <;> (try have hne := fresh_ne (by assumption) hko) <;> (try have hnk := fresh_ne hk hko) <;> (try have hnk2 := fresh_ne hk2 hko) <;> (try simp only [AH.put_none] at hko)) | ((with_reducible (first | refine vapp_accL (by assumption) ?_ (fun v2 H2 hacc hlec => ?_) | refine vapp_accL (AccP.mono (by assumption) (AccP.le (by assumption))) ?_ (fun v2 H2 hacc hlec => ?_) | refine vapp_accL (AccP.new (by assumption) (by assumption) _) ?_ (fun v2 H2 hacc hlec => ?_))); · simp only [byteCells_length, List.length_cons, List.length_nil, List.length_map, List.length_append, vE_length, mE_length]; omega)) <;> (try simp -implicitDefEqProofs (disch := omega) only [go_sem, eq_self, decide_true, decide_false, Nat.reduceBEq, Nat.reduceAdd, Nat.reduceSub, Nat.reduceMul, Nat.reduceEqDiff, Nat.reduceLeDiff, Nat.reduceLT, Int.reduceLE, Int.reduceLT, Int.reduceToNat, Int.reduceAdd, Int.reduceEq, Int.reduceNeg, AH.put_ne, true_or, or_true, true_and])))
  all_goals exact end_same
theorem mint_calls (n : Int) (H : AH) : ACalls Try.prog 74 [.int .i64 n] H (fun o H' => o = .ret (.agg [vV (.int n)]) ∧ H' = H) := by
  refine ACalls.drop ?_
  rw [vV_int]
  refine acalls Try.func74 c74 r74 (by simp [Try.ntmps74]) ?_
  repeat' (first | with_reducible (first | refine am_seq ?_ | refine am_block ?_) | ((with_reducible apply am_cond); (case hb => rfl); all_goals (intro hc; (try simp only [reduceCtorEq, decide_eq_true_eq, decide_eq_false_iff_not, Bool.or_eq_true, Bool.and_eq_true, Bool.or_eq_false_iff, Bool.not_eq_true', Bool.not_eq_false', beq_iff_eq] at hc); (try (exfalso; omega)))) | ((first | with_reducible (first | refine am_reg ?_ | refine am_drw ?_ | refine am_drx ?_ | refine am_skip ?_ | refine am_exit ?_ | refine am_ret ?_ | refine And.intro (by first | exact AH.lec_refl _ | assumption | exact AccP.lec (by assumption) | omega) ?_ | refine isnE_of (fun hc => ?_) (fun hc => ?_) (fun hc => ?_) | refine need_elems (by assumption) ?_ | refine vlen_acc (by assumption) ?_ | refine need_bytes (by assumption) ?_ | refine need_look (by repeat (first | assumption | exact AH.put_same _ _ _ | refine look_put ?_ (by assumption) | refine look_lec ?_ (by assumption))) ?_) | ((with_reducible (first | refine gd_not (fun hc => ?_) (fun hc => ?_) | refine gd_of (fun hc => ?_) (fun hc => ?_) | refine gq_not (fun hc => ?_) (fun hc => ?_) | refine gq_of (fun hc => ?_) (fun hc => ?_) | refine pickB_of (fun hc => ?_) (fun hc => ?_))) <;> (try simp -implicitDefEqProofs (disch := omega) only [go_sem, eq_self, decide_true, decide_false, Nat.reduceBEq, Nat.reduceAdd, Nat.reduceSub, Nat.reduceMul, Nat.reduceEqDiff, Nat.reduceLeDiff, Nat.reduceLT, Int.reduceLE, Int.reduceLT, Int.reduceToNat, Int.reduceAdd, Int.reduceEq, Int.reduceNeg, AH.put_ne, hc]) <;> (try simp only [reduceCtorEq, decide_eq_true_eq, decide_eq_false_iff_not, Bool.or_eq_true, Bool.and_eq_true, Bool.or_eq_false_iff, Bool.not_eq_true', Bool.not_eq_false', beq_iff_eq] at hc) <;> (try (exfalso; omega))) | ((with_reducible refine alloc_intro (fun ko hko => ?_)) <;> (try have hne := fresh_ne (by assumption) hko) <;> (try have hnk := fresh_ne hk hko) <;> (try have hnk2 := fresh_ne hk2 hko) <;> (try simp only [AH.put_none] at hko)) | ((with_reducible (first | refine vapp_accL (by assumption) ?_ (fun v2 H2 hacc hlec => ?_) | refine vapp_accL (AccP.mono (by assumption) (AccP.le (by assumption))) ?_ (fun v2 H2 hacc hlec => ?_) | refine vapp_accL (AccP.new (by assumption) (by assumption) _) ?_ (fun v2 H2 hacc hlec => ?_))); · simp only [byteCells_length, List.length_cons, List.length_nil, List.length_map, List.length_append, vE_length, mE_length]; omega)) <;> (try simp -implicitDefEqProofs (disch := omega) only [go_sem, eq_self, decide_true, decide_false, Nat.reduceBEq, Nat.reduceAdd, Nat.reduceSub, Nat.reduceMul, Nat.reduceEqDiff, Nat.reduceLeDiff, Nat.reduceLT, Int.reduceLE, Int.reduceLT, Int.reduceToNat, Int.reduceAdd, Int.reduceEq, Int.reduceNeg, AH.put_ne])))
  all_goals (refine drop_end (by (first | exact fun _ _ h => h | (intro s x h; first | exact no_sub _ h | exact nil_no _ h | exact AccP.sub (by assumption) _ _ h | (refine agg_sub rfl ?_ x h; repeat (first | exact .nil | refine .cons (fun _ h => h) ?_ | refine .cons (fun _ h => nil_no _ h) ?_ | refine .cons (fun _ h => no_sub _ h) ?_ | refine .cons (fun _ h => AccP.sub (by assumption) _ _ h) ?_)) | (refine tuple_sub ?_ x h; repeat (first | exact .nil | refine .cons (fun _ h => h) ?_ | refine .cons (fun _ h => nil_no _ h) ?_ | refine .cons (fun _ h => no_sub _ h) ?_ | refine .cons (fun _ h => AccP.sub (by assumption) _ _ h) ?_ | refine .cons (fun _ h => agg_sub rfl (by repeat (first | exact .nil | refine .cons (fun _ h => h) ?_ | refine .cons (fun _ h => nil_no _ h) ?_ | refine .cons (fun _ h => no_sub _ h) ?_ | refine .cons (fun _ h => AccP.sub (by assumption) _ _ h) ?_)) _ h) ?_))))) (by (repeat (first | exact AH.le_refl _ | assumption | exact AccP.le (by assumption) | refine AH.le_put ?_ (by first | assumption | exact none_of_le (by assumption) (by assumption) | exact And.right (by assumption) | exact And.right (And.right (by assumption))) _ | refine AH.le_trans ?_ (AccP.le (by assumption))))))
theorem mof_calls (b : Bool) (H : AH) : ACalls Try.prog 77 [.bool b] H (fun o H' => o = .ret (.agg [vV (.bool b)]) ∧ H' = H) := by
  refine ACalls.drop ?_
  rw [vV_bool]
  refine acalls Try.func77 c77 r77 (by simp [Try.ntmps77]) ?_
  repeat' (first | with_reducible (first | refine am_seq ?_ | refine am_block ?_) | ((with_reducible apply am_cond); (case hb => rfl); all_goals (intro hc; (try simp only [reduceCtorEq, decide_eq_true_eq, decide_eq_false_iff_not, Bool.or_eq_true, Bool.and_eq_true, Bool.or_eq_false_iff, Bool.not_eq_true', Bool.not_eq_false', beq_iff_eq] at hc); (try (exfalso; omega)))) | ((first | with_reducible (first | refine am_reg ?_ | refine am_drw ?_ | refine am_drx ?_ | refine am_skip ?_ | refine am_exit ?_ | refine am_ret ?_ | refine And.intro (by first | exact AH.lec_refl _ | assumption | exact AccP.lec (by assumption) | omega) ?_ | refine isnE_of (fun hc => ?_) (fun hc => ?_) (fun hc => ?_) | refine need_elems (by assumption) ?_ | refine vlen_acc (by assumption) ?_ | refine need_bytes (by assumption) ?_ | refine need_look (by repeat (first | assumption | exact AH.put_same _ _ _ | refine look_put ?_ (by assumption) | refine look_lec ?_ (by assumption))) ?_) | ((with_reducible (first | refine gd_not (fun hc => ?_) (fun hc => ?_) | refine gd_of (fun hc => ?_) (fun hc => ?_) | refine gq_not (fun hc => ?_) (fun hc => ?_) | refine gq_of (fun hc => ?_) (fun hc => ?_) | refine pickB_of (fun hc => ?_) (fun hc => ?_))) <;> (try simp -implicitDefEqProofs (disch := omega) only [go_sem, eq_self, decide_true, decide_false, Nat.reduceBEq, Nat.reduceAdd, Nat.reduceSub, Nat.reduceMul, Nat.reduceEqDiff, Nat.reduceLeDiff, Nat.reduceLT, Int.reduceLE, Int.reduceLT, Int.reduceToNat, Int.reduceAdd, Int.reduceEq, Int.reduceNeg, AH.put_ne, hc]) <;> (try simp only [reduceCtorEq, decide_eq_true_eq, decide_eq_false_iff_not, Bool.or_eq_true, Bool.and_eq_true, Bool.or_eq_false_iff, Bool.not_eq_true', Bool.not_eq_false', beq_iff_eq] at hc) <;> (try (exfalso; omega))) | ((with_reducible refine alloc_intro (fun ko hko => ?_)) <;> (try have hne := fresh_ne (by assumption) hko) <;> (try have hnk := fresh_ne hk hko) <;> (try have hnk2 := fresh_ne hk2 hko) <;> (try simp only [AH.put_none] at hko)) | ((with_reducible (first | refine vapp_accL (by assumption) ?_ (fun v2 H2 hacc hlec => ?_) | refine vapp_accL (AccP.mono (by assumption) (AccP.le (by assumption))) ?_ (fun v2 H2 hacc hlec => ?_) | refine vapp_accL (AccP.new (by assumption) (by assumption) _) ?_ (fun v2 H2 hacc hlec => ?_))); · simp only [byteCells_length, List.length_cons, List.length_nil, List.length_map, List.length_append, vE_length, mE_length]; omega)) <;> (try simp -implicitDefEqProofs (disch := omega) only [go_sem, eq_self, decide_true, decide_false, Nat.reduceBEq, Nat.reduceAdd, Nat.reduceSub, Nat.reduceMul, Nat.reduceEqDiff, Nat.reduceLeDiff, Nat.reduceLT, Int.reduceLE, Int.reduceLT, Int.reduceToNat, Int.reduceAdd, Int.reduceEq, Int.reduceNeg, AH.put_ne])))
  all_goals (refine drop_end (by (first | exact fun _ _ h => h | (intro s x h; first | exact no_sub _ h | exact nil_no _ h | exact AccP.sub (by assumption) _ _ h | (refine agg_sub rfl ?_ x h; repeat (first | exact .nil | refine .cons (fun _ h => h) ?_ | refine .cons (fun _ h => nil_no _ h) ?_ | refine .cons (fun _ h => no_sub _ h) ?_ | refine .cons (fun _ h => AccP.sub (by assumption) _ _ h) ?_)) | (refine tuple_sub ?_ x h; repeat (first | exact .nil | refine .cons (fun _ h => h) ?_ | refine .cons (fun _ h => nil_no _ h) ?_ | refine .cons (fun _ h => no_sub _ h) ?_ | refine .cons (fun _ h => AccP.sub (by assumption) _ _ h) ?_ | refine .cons (fun _ h => agg_sub rfl (by repeat (first | exact .nil | refine .cons (fun _ h => h) ?_ | refine .cons (fun _ h => nil_no _ h) ?_ | refine .cons (fun _ h => no_sub _ h) ?_ | refine .cons (fun _ h => AccP.sub (by assumption) _ _ h) ?_)) _ h) ?_))))) (by (repeat (first | exact AH.le_refl _ | assumption | exact AccP.le (by assumption) | refine AH.le_put ?_ (by first | assumption | exact none_of_le (by assumption) (by assumption) | exact And.right (by assumption) | exact And.right (And.right (by assumption))) _ | refine AH.le_trans ?_ (AccP.le (by assumption))))))
theorem mtext_calls (s : List UInt8) (H : AH) : ACalls Try.prog 78 [.str s] H (fun o H' => o = .ret (.agg [vV (.text s)]) ∧ H' = H) := by
  refine ACalls.drop ?_
  rw [vV_text]
  refine acalls Try.func78 c78 r78 (by simp [Try.ntmps78]) ?_
  repeat' (first | with_reducible (first | refine am_seq ?_ | refine am_block ?_) | ((with_reducible apply am_cond); (case hb => rfl); all_goals (intro hc; (try simp only [reduceCtorEq, decide_eq_true_eq, decide_eq_false_iff_not, Bool.or_eq_true, Bool.and_eq_true, Bool.or_eq_false_iff, Bool.not_eq_true', Bool.not_eq_false', beq_iff_eq] at hc); (try (exfalso; omega)))) | ((first | with_reducible (first | refine am_reg ?_ | refine am_drw ?_ | refine am_drx ?_ | refine am_skip ?_ | refine am_exit ?_ | refine am_ret ?_ | refine And.intro (by first | exact AH.lec_refl _ | assumption | exact AccP.lec (by assumption) | omega) ?_ | refine isnE_of (fun hc => ?_) (fun hc => ?_) (fun hc => ?_) | refine need_elems (by assumption) ?_ | refine vlen_acc (by assumption) ?_ | refine need_bytes (by assumption) ?_ | refine need_look (by repeat (first | assumption | exact AH.put_same _ _ _ | refine look_put ?_ (by assumption) | refine look_lec ?_ (by assumption))) ?_) | ((with_reducible (first | refine gd_not (fun hc => ?_) (fun hc => ?_) | refine gd_of (fun hc => ?_) (fun hc => ?_) | refine gq_not (fun hc => ?_) (fun hc => ?_) | refine gq_of (fun hc => ?_) (fun hc => ?_) | refine pickB_of (fun hc => ?_) (fun hc => ?_))) <;> (try simp -implicitDefEqProofs (disch := omega) only [go_sem, eq_self, decide_true, decide_false, Nat.reduceBEq, Nat.reduceAdd, Nat.reduceSub, Nat.reduceMul, Nat.reduceEqDiff, Nat.reduceLeDiff, Nat.reduceLT, Int.reduceLE, Int.reduceLT, Int.reduceToNat, Int.reduceAdd, Int.reduceEq, Int.reduceNeg, AH.put_ne, hc]) <;> (try simp only [reduceCtorEq, decide_eq_true_eq, decide_eq_false_iff_not, Bool.or_eq_true, Bool.and_eq_true, Bool.or_eq_false_iff, Bool.not_eq_true', Bool.not_eq_false', beq_iff_eq] at hc) <;> (try (exfalso; omega))) | ((with_reducible refine alloc_intro (fun ko hko => ?_)) <;> (try have hne := fresh_ne (by assumption) hko) <;> (try have hnk := fresh_ne hk hko) <;> (try have hnk2 := fresh_ne hk2 hko) <;> (try simp only [AH.put_none] at hko)) | ((with_reducible (first | refine vapp_accL (by assumption) ?_ (fun v2 H2 hacc hlec => ?_) | refine vapp_accL (AccP.mono (by assumption) (AccP.le (by assumption))) ?_ (fun v2 H2 hacc hlec => ?_) | refine vapp_accL (AccP.new (by assumption) (by assumption) _) ?_ (fun v2 H2 hacc hlec => ?_))); · simp only [byteCells_length, List.length_cons, List.length_nil, List.length_map, List.length_append, vE_length, mE_length]; omega)) <;> (try simp -implicitDefEqProofs (disch := omega) only [go_sem, eq_self, decide_true, decide_false, Nat.reduceBEq, Nat.reduceAdd, Nat.reduceSub, Nat.reduceMul, Nat.reduceEqDiff, Nat.reduceLeDiff, Nat.reduceLT, Int.reduceLE, Int.reduceLT, Int.reduceToNat, Int.reduceAdd, Int.reduceEq, Int.reduceNeg, AH.put_ne])))
  all_goals (refine drop_end (by (first | exact fun _ _ h => h | (intro s x h; first | exact no_sub _ h | exact nil_no _ h | exact AccP.sub (by assumption) _ _ h | (refine agg_sub rfl ?_ x h; repeat (first | exact .nil | refine .cons (fun _ h => h) ?_ | refine .cons (fun _ h => nil_no _ h) ?_ | refine .cons (fun _ h => no_sub _ h) ?_ | refine .cons (fun _ h => AccP.sub (by assumption) _ _ h) ?_)) | (refine tuple_sub ?_ x h; repeat (first | exact .nil | refine .cons (fun _ h => h) ?_ | refine .cons (fun _ h => nil_no _ h) ?_ | refine .cons (fun _ h => no_sub _ h) ?_ | refine .cons (fun _ h => AccP.sub (by assumption) _ _ h) ?_ | refine .cons (fun _ h => agg_sub rfl (by repeat (first | exact .nil | refine .cons (fun _ h => h) ?_ | refine .cons (fun _ h => nil_no _ h) ?_ | refine .cons (fun _ h => no_sub _ h) ?_ | refine .cons (fun _ h => AccP.sub (by assumption) _ _ h) ?_)) _ h) ?_))))) (by (repeat (first | exact AH.le_refl _ | assumption | exact AccP.le (by assumption) | refine AH.le_put ?_ (by first | assumption | exact none_of_le (by assumption) (by assumption) | exact And.right (by assumption) | exact And.right (And.right (by assumption))) _ | refine AH.le_trans ?_ (AccP.le (by assumption))))))
theorem mlater_calls (H : AH) : ACalls Try.prog 76 [] H (fun o H' => o = .ret (.agg [vV (.unk)]) ∧ H' = H) := by
  refine ACalls.drop ?_
  rw [vV_unk]
  refine acalls Try.func76 c76 r76 (by simp [Try.ntmps76]) ?_
  repeat' (first | with_reducible (first | refine am_seq ?_ | refine am_block ?_) | ((with_reducible apply am_cond); (case hb => rfl); all_goals (intro hc; (try simp only [reduceCtorEq, decide_eq_true_eq, decide_eq_false_iff_not, Bool.or_eq_true, Bool.and_eq_true, Bool.or_eq_false_iff, Bool.not_eq_true', Bool.not_eq_false', beq_iff_eq] at hc); (try (exfalso; omega)))) | ((first | with_reducible (first | refine am_reg ?_ | refine am_drw ?_ | refine am_drx ?_ | refine am_skip ?_ | refine am_exit ?_ | refine am_ret ?_ | refine And.intro (by first | exact AH.lec_refl _ | assumption | exact AccP.lec (by assumption) | omega) ?_ | refine isnE_of (fun hc => ?_) (fun hc => ?_) (fun hc => ?_) | refine need_elems (by assumption) ?_ | refine vlen_acc (by assumption) ?_ | refine need_bytes (by assumption) ?_ | refine need_look (by repeat (first | assumption | exact AH.put_same _ _ _ | refine look_put ?_ (by assumption) | refine look_lec ?_ (by assumption))) ?_) | ((with_reducible (first | refine gd_not (fun hc => ?_) (fun hc => ?_) | refine gd_of (fun hc => ?_) (fun hc => ?_) | refine gq_not (fun hc => ?_) (fun hc => ?_) | refine gq_of (fun hc => ?_) (fun hc => ?_) | refine pickB_of (fun hc => ?_) (fun hc => ?_))) <;> (try simp -implicitDefEqProofs (disch := omega) only [go_sem, eq_self, decide_true, decide_false, Nat.reduceBEq, Nat.reduceAdd, Nat.reduceSub, Nat.reduceMul, Nat.reduceEqDiff, Nat.reduceLeDiff, Nat.reduceLT, Int.reduceLE, Int.reduceLT, Int.reduceToNat, Int.reduceAdd, Int.reduceEq, Int.reduceNeg, AH.put_ne, hc]) <;> (try simp only [reduceCtorEq, decide_eq_true_eq, decide_eq_false_iff_not, Bool.or_eq_true, Bool.and_eq_true, Bool.or_eq_false_iff, Bool.not_eq_true', Bool.not_eq_false', beq_iff_eq] at hc) <;> (try (exfalso; omega))) | ((with_reducible refine alloc_intro (fun ko hko => ?_)) <;> (try have hne := fresh_ne (by assumption) hko) <;> (try have hnk := fresh_ne hk hko) <;> (try have hnk2 := fresh_ne hk2 hko) <;> (try simp only [AH.put_none] at hko)) | ((with_reducible (first | refine vapp_accL (by assumption) ?_ (fun v2 H2 hacc hlec => ?_) | refine vapp_accL (AccP.mono (by assumption) (AccP.le (by assumption))) ?_ (fun v2 H2 hacc hlec => ?_) | refine vapp_accL (AccP.new (by assumption) (by assumption) _) ?_ (fun v2 H2 hacc hlec => ?_))); · simp only [byteCells_length, List.length_cons, List.length_nil, List.length_map, List.length_append, vE_length, mE_length]; omega)) <;> (try simp -implicitDefEqProofs (disch := omega) only [go_sem, eq_self, decide_true, decide_false, Nat.reduceBEq, Nat.reduceAdd, Nat.reduceSub, Nat.reduceMul, Nat.reduceEqDiff, Nat.reduceLeDiff, Nat.reduceLT, Int.reduceLE, Int.reduceLT, Int.reduceToNat, Int.reduceAdd, Int.reduceEq, Int.reduceNeg, AH.put_ne])))
  all_goals (refine drop_end (by (first | exact fun _ _ h => h | (intro s x h; first | exact no_sub _ h | exact nil_no _ h | exact AccP.sub (by assumption) _ _ h | (refine agg_sub rfl ?_ x h; repeat (first | exact .nil | refine .cons (fun _ h => h) ?_ | refine .cons (fun _ h => nil_no _ h) ?_ | refine .cons (fun _ h => no_sub _ h) ?_ | refine .cons (fun _ h => AccP.sub (by assumption) _ _ h) ?_)) | (refine tuple_sub ?_ x h; repeat (first | exact .nil | refine .cons (fun _ h => h) ?_ | refine .cons (fun _ h => nil_no _ h) ?_ | refine .cons (fun _ h => no_sub _ h) ?_ | refine .cons (fun _ h => AccP.sub (by assumption) _ _ h) ?_ | refine .cons (fun _ h => agg_sub rfl (by repeat (first | exact .nil | refine .cons (fun _ h => h) ?_ | refine .cons (fun _ h => nil_no _ h) ?_ | refine .cons (fun _ h => no_sub _ h) ?_ | refine .cons (fun _ h => AccP.sub (by assumption) _ _ h) ?_)) _ h) ?_))))) (by (repeat (first | exact AH.le_refl _ | assumption | exact AccP.le (by assumption) | refine AH.le_put ?_ (by first | assumption | exact none_of_le (by assumption) (by assumption) | exact And.right (by assumption) | exact And.right (And.right (by assumption))) _ | refine AH.le_trans ?_ (AccP.le (by assumption))))))
theorem munset_calls (H : AH) : ACalls Try.prog 79 [] H (fun o H' => o = .ret (.agg [vV (.nul)]) ∧ H' = H) := by
  refine ACalls.drop ?_
  rw [vV_nul]
  refine acalls Try.func79 c79 r79 (by simp [Try.ntmps79]) ?_
  repeat' (first | with_reducible (first | refine am_seq ?_ | refine am_block ?_) | ((with_reducible apply am_cond); (case hb => rfl); all_goals (intro hc; (try simp only [reduceCtorEq, decide_eq_true_eq, decide_eq_false_iff_not, Bool.or_eq_true, Bool.and_eq_true, Bool.or_eq_false_iff, Bool.not_eq_true', Bool.not_eq_false', beq_iff_eq] at hc); (try (exfalso; omega)))) | ((first | with_reducible (first | refine am_reg ?_ | refine am_drw ?_ | refine am_drx ?_ | refine am_skip ?_ | refine am_exit ?_ | refine am_ret ?_ | refine And.intro (by first | exact AH.lec_refl _ | assumption | exact AccP.lec (by assumption) | omega) ?_ | refine isnE_of (fun hc => ?_) (fun hc => ?_) (fun hc => ?_) | refine need_elems (by assumption) ?_ | refine vlen_acc (by assumption) ?_ | refine need_bytes (by assumption) ?_ | refine need_look (by repeat (first | assumption | exact AH.put_same _ _ _ | refine look_put ?_ (by assumption) | refine look_lec ?_ (by assumption))) ?_) | ((with_reducible (first | refine gd_not (fun hc => ?_) (fun hc => ?_) | refine gd_of (fun hc => ?_) (fun hc => ?_) | refine gq_not (fun hc => ?_) (fun hc => ?_) | refine gq_of (fun hc => ?_) (fun hc => ?_) | refine pickB_of (fun hc => ?_) (fun hc => ?_))) <;> (try simp -implicitDefEqProofs (disch := omega) only [go_sem, eq_self, decide_true, decide_false, Nat.reduceBEq, Nat.reduceAdd, Nat.reduceSub, Nat.reduceMul, Nat.reduceEqDiff, Nat.reduceLeDiff, Nat.reduceLT, Int.reduceLE, Int.reduceLT, Int.reduceToNat, Int.reduceAdd, Int.reduceEq, Int.reduceNeg, AH.put_ne, hc]) <;> (try simp only [reduceCtorEq, decide_eq_true_eq, decide_eq_false_iff_not, Bool.or_eq_true, Bool.and_eq_true, Bool.or_eq_false_iff, Bool.not_eq_true', Bool.not_eq_false', beq_iff_eq] at hc) <;> (try (exfalso; omega))) | ((with_reducible refine alloc_intro (fun ko hko => ?_)) <;> (try have hne := fresh_ne (by assumption) hko) <;> (try have hnk := fresh_ne hk hko) <;> (try have hnk2 := fresh_ne hk2 hko) <;> (try simp only [AH.put_none] at hko)) | ((with_reducible (first | refine vapp_accL (by assumption) ?_ (fun v2 H2 hacc hlec => ?_) | refine vapp_accL (AccP.mono (by assumption) (AccP.le (by assumption))) ?_ (fun v2 H2 hacc hlec => ?_) | refine vapp_accL (AccP.new (by assumption) (by assumption) _) ?_ (fun v2 H2 hacc hlec => ?_))); · simp only [byteCells_length, List.length_cons, List.length_nil, List.length_map, List.length_append, vE_length, mE_length]; omega)) <;> (try simp -implicitDefEqProofs (disch := omega) only [go_sem, eq_self, decide_true, decide_false, Nat.reduceBEq, Nat.reduceAdd, Nat.reduceSub, Nat.reduceMul, Nat.reduceEqDiff, Nat.reduceLeDiff, Nat.reduceLT, Int.reduceLE, Int.reduceLT, Int.reduceToNat, Int.reduceAdd, Int.reduceEq, Int.reduceNeg, AH.put_ne])))
  all_goals (refine drop_end (by (first | exact fun _ _ h => h | (intro s x h; first | exact no_sub _ h | exact nil_no _ h | exact AccP.sub (by assumption) _ _ h | (refine agg_sub rfl ?_ x h; repeat (first | exact .nil | refine .cons (fun _ h => h) ?_ | refine .cons (fun _ h => nil_no _ h) ?_ | refine .cons (fun _ h => no_sub _ h) ?_ | refine .cons (fun _ h => AccP.sub (by assumption) _ _ h) ?_)) | (refine tuple_sub ?_ x h; repeat (first | exact .nil | refine .cons (fun _ h => h) ?_ | refine .cons (fun _ h => nil_no _ h) ?_ | refine .cons (fun _ h => no_sub _ h) ?_ | refine .cons (fun _ h => AccP.sub (by assumption) _ _ h) ?_ | refine .cons (fun _ h => agg_sub rfl (by repeat (first | exact .nil | refine .cons (fun _ h => h) ?_ | refine .cons (fun _ h => nil_no _ h) ?_ | refine .cons (fun _ h => no_sub _ h) ?_ | refine .cons (fun _ h => AccP.sub (by assumption) _ _ h) ?_)) _ h) ?_))))) (by (repeat (first | exact AH.le_refl _ | assumption | exact AccP.le (by assumption) | refine AH.le_put ?_ (by first | assumption | exact none_of_le (by assumption) (by assumption) | exact And.right (by assumption) | exact And.right (And.right (by assumption))) _ | refine AH.le_trans ?_ (AccP.le (by assumption))))))
end Go.Proofs.Ytjlphncecdlmcaa
namespace Go.Proofs.Ytjlphncecdlmcaa
open Go.Vm Go.Sort
attribute [local go_sem] List.drop_zero toNat_succ Nat.sub_zero Int.toNat_natCast Option.map_some Int.natCast_nonneg decide_eq_true_eq decide_eq_false_iff_not
/- (flange/value.Value).At -/
abbrev k53_0 : MC :=
  (.seq (.reg [
    ⟨(some 22), none, .val (.load true 1 (.t 8))⟩,
    ⟨(some 23), none, .val (.mv (.t 9))⟩,
    ⟨none, none, .store 1 (.t 4) (.t 22)⟩,
    ⟨(some 5), none, .val (.mv (.t 23))⟩] [4, 5]) (.ret))
abbrev k53_1 : MC :=
  (.seq (.reg [
    ⟨(some 17), none, .val (.mv (.t 6))⟩,
    ⟨(some 18), none, .val (.mv (.t 1))⟩,
    ⟨(some 19), none, .val (.yo (.look .str (.agg [.nilIface]) true) [(.t 17), (.t 18)])⟩,
    ⟨(some 16), none, .val (.mv (.t 19))⟩,
    ⟨(some 20), none, .val (.ext (.t 16) 0)⟩,
    ⟨(some 21), none, .val (.ext (.t 16) 1)⟩,
    ⟨(some 8), none, .zalloc [.nilIface]⟩,
    ⟨none, none, .store 1 (.t 8) (.t 20)⟩,
    ⟨(some 9), none, .val (.mv (.t 21))⟩] [4, 8, 9]) k53_0)
abbrev k53_2 : MC :=
  (.seq (.reg [
    ⟨(some 11), none, .val (.faddr 0 (.t 2))⟩,
    ⟨(some 12), none, .val (.load false 1 (.t 11))⟩,
    ⟨(some 13), none, .val (.tya 131 true .nilMap (.t 12))⟩,
    ⟨(some 10), none, .val (.mv (.t 13))⟩,
    ⟨(some 14), none, .val (.ext (.t 10) 0)⟩,
    ⟨(some 15), none, .val (.ext (.t 10) 1)⟩,
    ⟨(some 6), none, .val (.mv (.t 14))⟩,
    ⟨(some 7), none, .val (.mv (.t 15))⟩] [1, 4, 6]) k53_1)
abbrev k53 : MC :=
  (.seq (.reg [
    ⟨(some 2), none, .boxi (.t 0)⟩,
    ⟨(some 4), none, .zalloc [.nilIface]⟩,
    ⟨(some 5), none, .val (.mv (.c (.bool false)))⟩] [1, 2, 4]) k53_2)
theorem c53 : Try.f53.body.bind (mcOf Try.prog (List.contains [2] ·) (List.getD [([], [1, 2, 4]), ([], [1, 4, 6]), ([], [4, 8, 9]), ([], [4, 5])] · ([], [])) 24) = some k53 := by kernel_rfl
theorem r53 : rvsOf Try.prog Try.f53.results.toList = some [.cell 4 true 1, .tmp 5] := by kernel_rfl
/- (flange/value.Value).Keys -/
abbrev k99_0 : MC :=
  (.seq (.reg [
    ⟨(some 11), none, .val (.mv (.t 3))⟩,
    ⟨(some 12), none, .call 128 [(.t 11)]⟩,
    ⟨(some 13), none, .call 127 [(.t 12)]⟩,
    ⟨(some 2), none, .val (.mv (.t 13))⟩] [2]) (.ret))
abbrev k99_1 : MC :=
  (.seq (.reg [
    ⟨(some 6), none, .val (.faddr 0 (.t 1))⟩,
    ⟨(some 7), none, .val (.load false 1 (.t 6))⟩,
    ⟨(some 8), none, .val (.tya 131 true .nilMap (.t 7))⟩,
    ⟨(some 5), none, .val (.mv (.t 8))⟩,
    ⟨(some 9), none, .val (.ext (.t 5) 0)⟩,
    ⟨(some 10), none, .val (.ext (.t 5) 1)⟩,
    ⟨(some 3), none, .val (.mv (.t 9))⟩,
    ⟨(some 4), none, .val (.mv (.t 10))⟩] [3]) k99_0)
abbrev k99 : MC :=
  (.seq (.reg [
    ⟨(some 1), none, .boxi (.t 0)⟩,
    ⟨(some 2), none, .val (.mv (.c .nilSl))⟩] [1]) k99_1)
theorem c99 : Try.f99.body.bind (mcOf Try.prog (List.contains [1] ·) (List.getD [([], [1]), ([], [3]), ([], [2])] · ([], [])) 14) = some k99 := by kernel_rfl
theorem r99 : rvsOf Try.prog Try.f99.results.toList = some [.tmp 2] := by kernel_rfl
/- maps.Keys[flange/value.table,string,flange/value.Value] -/
abbrev k128_0 : MC :=
  (.seq (.reg [
    ⟨(some 3), none, .val (.mkfn (.func 149) [] [(.t 1)])⟩,
    ⟨(some 2), none, .val (.mv (.t 3))⟩] [2]) (.ret))
abbrev k128 : MC :=
  (.seq (.reg [
    ⟨(some 1), none, .box (.t 0)⟩,
    ⟨(some 2), none, .val (.mv (.c .nilFunc))⟩] [1]) k128_0)
theorem c128 : Try.f128.body.bind (mcOf Try.prog (List.contains [] ·) (List.getD [([], [1]), ([], [2])] · ([], [])) 4) = some k128 := by kernel_rfl
theorem r128 : rvsOf Try.prog Try.f128.results.toList = some [.tmp 2] := by kernel_rfl
def Vl.at (k : List UInt8) : Vl → Option Vl
  | .map es => fnd k es
  | _ => none
def Vl.keys : Vl → List (List UInt8)
  | .map es => kys es
  | _ => []
theorem mE_find (n : List UInt8) : ∀ l, mfind .str (.str n) (mE l) = some ((fnd n l).map fun x => V.agg [vV x])
  | [] => rfl
  | p :: l => by
    simp only [mE, List.map_cons, mfind, BK.eq, fnd]
    have := mE_find n l
    by_cases h : p.1 = n
    · simp [h]
    · have h' : ¬ n = p.1 := fun e => h e.symm
      simp only [h, h', decide_false, if_false]; exact this
theorem at_calls (v : Vl) (k : List UInt8) (H : AH) : ACalls Try.prog 53 [.agg [vV v], .str k] H (fun o H' => o = .ret (.tuple [.agg [vV ((v.at k).getD .nul)], .bool (v.at k).isSome]) ∧ H' = H) := by
  refine ACalls.drop ?_
  refine acalls Try.func53 c53 r53 (by simp [Try.ntmps53]) ?_
  by_cases hm : ∃ es, v = .map es
  · obtain ⟨es, rfl⟩ := hm
    rw [vV_map]
    cases h : fnd k es with
    | none =>
      repeat' (first | with_reducible (first | refine am_seq ?_ | refine am_block ?_) | ((with_reducible apply am_cond); (case hb => rfl); all_goals (intro hc; (try simp only [reduceCtorEq, decide_eq_true_eq, decide_eq_false_iff_not, Bool.or_eq_true, Bool.and_eq_true, Bool.or_eq_false_iff, Bool.not_eq_true', Bool.not_eq_false', beq_iff_eq] at hc); (try (exfalso; omega)))) | ((first | with_reducible (first | refine am_reg ?_ | refine am_drw ?_ | refine am_drx ?_ | refine am_skip ?_ | refine am_exit ?_ | refine am_ret ?_ | refine And.intro (by first | exact AH.lec_refl _ | assumption | exact AccP.lec (by assumption) | omega) ?_ | refine isnE_of (fun hc => ?_) (fun hc => ?_) (fun hc => ?_) | refine need_elems (by assumption) ?_ | refine vlen_acc (by assumption) ?_ | refine need_bytes (by assumption) ?_ | refine need_look (by repeat (first | assumption | exact AH.put_same _ _ _ | refine look_put ?_ (by assumption) | refine look_lec ?_ (by assumption))) ?_) | ((with_reducible (first | refine gd_not (fun hc => ?_) (fun hc => ?_) | refine gd_of (fun hc => ?_) (fun hc => ?_) | refine gq_not (fun hc => ?_) (fun hc => ?_) | refine gq_of (fun hc => ?_) (fun hc => ?_) | refine pickB_of (fun hc => ?_) (fun hc => ?_))) <;> (try simp -implicitDefEqProofs (disch := omega) only [go_sem, eq_self, decide_true, decide_false, Nat.reduceBEq, Nat.reduceAdd, Nat.reduceSub, Nat.reduceMul, Nat.reduceEqDiff, Nat.reduceLeDiff, Nat.reduceLT, Int.reduceLE, Int.reduceLT, Int.reduceToNat, Int.reduceAdd, Int.reduceEq, Int.reduceNeg, AH.put_ne, hc, mE_find, h, true_or, or_true, true_and, Option.map_none]) <;> (try simp only [reduceCtorEq, decide_eq_true_eq, decide_eq_false_iff_not, Bool.or_eq_true, Bool.and_eq_true, Bool.or_eq_false_iff, Bool.not_eq_true', Bool.not_eq_false', beq_iff_eq] at hc) <;> (try (exfalso; omega))) | ((with_reducible refine alloc_intro (fun ko hko => ?_)) <;> (try have hne := fresh_ne (by assumption) hko) <;> (try have hnk := fresh_ne hk hko) <;> (try have hnk2 := fresh_ne hk2 hko) <;> (try simp only [AH.put_none] at hko)) | ((with_reducible (first | refine vapp_accL (by assumption) ?_ (fun v2 H2 hacc hlec => ?_) | refine vapp_accL (AccP.mono (by assumption) (AccP.le (by assumption))) ?_ (fun v2 H2 hacc hlec => ?_) | refine vapp_accL (AccP.new (by assumption) (by assumption) _) ?_ (fun v2 H2 hacc hlec => ?_))); · simp only [byteCells_length, List.length_cons, List.length_nil, List.length_map, List.length_append, vE_length, mE_length]; omega)) <;> (try simp -implicitDefEqProofs (disch := omega) only [go_sem, eq_self, decide_true, decide_false, Nat.reduceBEq, Nat.reduceAdd, Nat.reduceSub, Nat.reduceMul, Nat.reduceEqDiff, Nat.reduceLeDiff, Nat.reduceLT, Int.reduceLE, Int.reduceLT, Int.reduceToNat, Int.reduceAdd, Int.reduceEq, Int.reduceNeg, AH.put_ne, mE_find, h, true_or, or_true, true_and, Option.map_none])))
      all_goals (simp only [Vl.at, h, Option.getD, Option.isSome, vV_nul]; (refine drop_end (by (first | exact fun _ _ h => h | (intro s x h; first | exact no_sub _ h | exact nil_no _ h | exact AccP.sub (by assumption) _ _ h | (refine agg_sub rfl ?_ x h; repeat (first | exact .nil | refine .cons (fun _ h => h) ?_ | refine .cons (fun _ h => nil_no _ h) ?_ | refine .cons (fun _ h => no_sub _ h) ?_ | refine .cons (fun _ h => AccP.sub (by assumption) _ _ h) ?_)) | (refine tuple_sub ?_ x h; repeat (first | exact .nil | refine .cons (fun _ h => h) ?_ | refine .cons (fun _ h => nil_no _ h) ?_ | refine .cons (fun _ h => no_sub _ h) ?_ | refine .cons (fun _ h => AccP.sub (by assumption) _ _ h) ?_ | refine .cons (fun _ h => agg_sub rfl (by repeat (first | exact .nil | refine .cons (fun _ h => h) ?_ | refine .cons (fun _ h => nil_no _ h) ?_ | refine .cons (fun _ h => no_sub _ h) ?_ | refine .cons (fun _ h => AccP.sub (by assumption) _ _ h) ?_)) _ h) ?_))))) (by (repeat (first | exact AH.le_refl _ | assumption | exact AccP.le (by assumption) | refine AH.le_put ?_ (by first | assumption | exact none_of_le (by assumption) (by assumption) | exact And.right (by assumption) | exact And.right (And.right (by assumption))) _ | refine AH.le_trans ?_ (AccP.le (by assumption)))))))
    | some x =>
      repeat' (first | with_reducible (first | refine am_seq ?_ | refine am_block ?_) | ((with_reducible apply am_cond); (case hb => rfl); all_goals (intro hc; (try simp only [reduceCtorEq, decide_eq_true_eq, decide_eq_false_iff_not, Bool.or_eq_true, Bool.and_eq_true, Bool.or_eq_false_iff, Bool.not_eq_true', Bool.not_eq_false', beq_iff_eq] at hc); (try (exfalso; omega)))) | ((first | with_reducible (first | refine am_reg ?_ | refine am_drw ?_ | refine am_drx ?_ | refine am_skip ?_ | refine am_exit ?_ | refine am_ret ?_ | refine And.intro (by first | exact AH.lec_refl _ | assumption | exact AccP.lec (by assumption) | omega) ?_ | refine isnE_of (fun hc => ?_) (fun hc => ?_) (fun hc => ?_) | refine need_elems (by assumption) ?_ | refine vlen_acc (by assumption) ?_ | refine need_bytes (by assumption) ?_ | refine need_look (by repeat (first | assumption | exact AH.put_same _ _ _ | refine look_put ?_ (by assumption) | refine look_lec ?_ (by assumption))) ?_) | ((with_reducible (first | refine gd_not (fun hc => ?_) (fun hc => ?_) | refine gd_of (fun hc => ?_) (fun hc => ?_) | refine gq_not (fun hc => ?_) (fun hc => ?_) | refine gq_of (fun hc => ?_) (fun hc => ?_) | refine pickB_of (fun hc => ?_) (fun hc => ?_))) <;> (try simp -implicitDefEqProofs (disch := omega) only [go_sem, eq_self, decide_true, decide_false, Nat.reduceBEq, Nat.reduceAdd, Nat.reduceSub, Nat.reduceMul, Nat.reduceEqDiff, Nat.reduceLeDiff, Nat.reduceLT, Int.reduceLE, Int.reduceLT, Int.reduceToNat, Int.reduceAdd, Int.reduceEq, Int.reduceNeg, AH.put_ne, hc, mE_find, h, true_or, or_true, true_and]) <;> (try simp only [reduceCtorEq, decide_eq_true_eq, decide_eq_false_iff_not, Bool.or_eq_true, Bool.and_eq_true, Bool.or_eq_false_iff, Bool.not_eq_true', Bool.not_eq_false', beq_iff_eq] at hc) <;> (try (exfalso; omega))) | ((with_reducible refine alloc_intro (fun ko hko => ?_)) <;> (try have hne := fresh_ne (by assumption) hko) <;> (try have hnk := fresh_ne hk hko) <;> (try have hnk2 := fresh_ne hk2 hko) <;> (try simp only [AH.put_none] at hko)) | ((with_reducible (first | refine vapp_accL (by assumption) ?_ (fun v2 H2 hacc hlec => ?_) | refine vapp_accL (AccP.mono (by assumption) (AccP.le (by assumption))) ?_ (fun v2 H2 hacc hlec => ?_) | refine vapp_accL (AccP.new (by assumption) (by assumption) _) ?_ (fun v2 H2 hacc hlec => ?_))); · simp only [byteCells_length, List.length_cons, List.length_nil, List.length_map, List.length_append, vE_length, mE_length]; omega)) <;> (try simp -implicitDefEqProofs (disch := omega) only [go_sem, eq_self, decide_true, decide_false, Nat.reduceBEq, Nat.reduceAdd, Nat.reduceSub, Nat.reduceMul, Nat.reduceEqDiff, Nat.reduceLeDiff, Nat.reduceLT, Int.reduceLE, Int.reduceLT, Int.reduceToNat, Int.reduceAdd, Int.reduceEq, Int.reduceNeg, AH.put_ne, mE_find, h, true_or, or_true, true_and])))
      all_goals (simp only [Vl.at, h, Option.getD, Option.isSome, vV_nul]; (refine drop_end (by (first | exact fun _ _ h => h | (intro s x h; first | exact no_sub _ h | exact nil_no _ h | exact AccP.sub (by assumption) _ _ h | (refine agg_sub rfl ?_ x h; repeat (first | exact .nil | refine .cons (fun _ h => h) ?_ | refine .cons (fun _ h => nil_no _ h) ?_ | refine .cons (fun _ h => no_sub _ h) ?_ | refine .cons (fun _ h => AccP.sub (by assumption) _ _ h) ?_)) | (refine tuple_sub ?_ x h; repeat (first | exact .nil | refine .cons (fun _ h => h) ?_ | refine .cons (fun _ h => nil_no _ h) ?_ | refine .cons (fun _ h => no_sub _ h) ?_ | refine .cons (fun _ h => AccP.sub (by assumption) _ _ h) ?_ | refine .cons (fun _ h => agg_sub rfl (by repeat (first | exact .nil | refine .cons (fun _ h => h) ?_ | refine .cons (fun _ h => nil_no _ h) ?_ | refine .cons (fun _ h => no_sub _ h) ?_ | refine .cons (fun _ h => AccP.sub (by assumption) _ _ h) ?_)) _ h) ?_))))) (by (repeat (first | exact AH.le_refl _ | assumption | exact AccP.le (by assumption) | refine AH.le_put ?_ (by first | assumption | exact none_of_le (by assumption) (by assumption) | exact And.right (by assumption) | exact And.right (And.right (by assumption))) _ | refine AH.le_trans ?_ (AccP.le (by assumption)))))))
  · have h : v.at k = none := by cases v <;> first | rfl | exact absurd ⟨_, rfl⟩ hm
    simp only [h, Option.getD, Option.isSome, vV_nul]
    cases v
    case map es => exact absurd ⟨_, rfl⟩ hm
    all_goals simp only [vV_nul, vV_unk, vV_bool, vV_int, vV_pt, vV_text, vV_list, vV_map]
    repeat' (first | with_reducible (first | refine am_seq ?_ | refine am_block ?_) | ((with_reducible apply am_cond); (case hb => rfl); all_goals (intro hc; (try simp only [reduceCtorEq, decide_eq_true_eq, decide_eq_false_iff_not, Bool.or_eq_true, Bool.and_eq_true, Bool.or_eq_false_iff, Bool.not_eq_true', Bool.not_eq_false', beq_iff_eq] at hc); (try (exfalso; omega)))) | ((first | with_reducible (first | refine am_reg ?_ | refine am_drw ?_ | refine am_drx ?_ | refine am_skip ?_ | refine am_exit ?_ | refine am_ret ?_ | refine And.intro (by first | exact AH.lec_refl _ | assumption | exact AccP.lec (by assumption) | omega) ?_ | refine isnE_of (fun hc => ?_) (fun hc => ?_) (fun hc => ?_) | refine need_elems (by assumption) ?_ | refine vlen_acc (by assumption) ?_ | refine need_bytes (by assumption) ?_ | refine need_look (by repeat (first | assumption | exact AH.put_same _ _ _ | refine look_put ?_ (by assumption) | refine look_lec ?_ (by assumption))) ?_) | ((with_reducible (first | refine gd_not (fun hc => ?_) (fun hc => ?_) | refine gd_of (fun hc => ?_) (fun hc => ?_) | refine gq_not (fun hc => ?_) (fun hc => ?_) | refine gq_of (fun hc => ?_) (fun hc => ?_) | refine pickB_of (fun hc => ?_) (fun hc => ?_))) <;> (try simp -implicitDefEqProofs (disch := omega) only [go_sem, eq_self, decide_true, decide_false, Nat.reduceBEq, Nat.reduceAdd, Nat.reduceSub, Nat.reduceMul, Nat.reduceEqDiff, Nat.reduceLeDiff, Nat.reduceLT, Int.reduceLE, Int.reduceLT, Int.reduceToNat, Int.reduceAdd, Int.reduceEq, Int.reduceNeg, AH.put_ne, hc, true_or, or_true, true_and]) <;> (try simp only [reduceCtorEq, decide_eq_true_eq, decide_eq_false_iff_not, Bool.or_eq_true, Bool.and_eq_true, Bool.or_eq_false_iff, Bool.not_eq_true', Bool.not_eq_false', beq_iff_eq] at hc) <;> (try (exfalso; omega))) | ((with_reducible refine alloc_intro (fun ko hko => ?_)) <;> (try have hne := fresh_ne (by assumption) hko) <;> (try have hnk := fresh_ne hk hko) <;> (try have hnk2 := fresh_ne hk2 hko) <;> (try simp only [AH.put_none] at hko)) | ((with_reducible (first | refine vapp_accL (by assumption) ?_ (fun v2 H2 hacc hlec => ?_) | refine vapp_accL (AccP.mono (by assumption) (AccP.le (by assumption))) ?_ (fun v2 H2 hacc hlec => ?_) | refine vapp_accL (AccP.new (by assumption) (by assumption) _) ?_ (fun v2 H2 hacc hlec => ?_))); · simp only [byteCells_length, List.length_cons, List.length_nil, List.length_map, List.length_append, vE_length, mE_length]; omega)) <;> (try simp -implicitDefEqProofs (disch := omega) only [go_sem, eq_self, decide_true, decide_false, Nat.reduceBEq, Nat.reduceAdd, Nat.reduceSub, Nat.reduceMul, Nat.reduceEqDiff, Nat.reduceLeDiff, Nat.reduceLT, Int.reduceLE, Int.reduceLT, Int.reduceToNat, Int.reduceAdd, Int.reduceEq, Int.reduceNeg, AH.put_ne, true_or, or_true, true_and])))
    all_goals (refine drop_end (by (first | exact fun _ _ h => h | (intro s x h; first | exact no_sub _ h | exact nil_no _ h | exact AccP.sub (by assumption) _ _ h | (refine agg_sub rfl ?_ x h; repeat (first | exact .nil | refine .cons (fun _ h => h) ?_ | refine .cons (fun _ h => nil_no _ h) ?_ | refine .cons (fun _ h => no_sub _ h) ?_ | refine .cons (fun _ h => AccP.sub (by assumption) _ _ h) ?_)) | (refine tuple_sub ?_ x h; repeat (first | exact .nil | refine .cons (fun _ h => h) ?_ | refine .cons (fun _ h => nil_no _ h) ?_ | refine .cons (fun _ h => no_sub _ h) ?_ | refine .cons (fun _ h => AccP.sub (by assumption) _ _ h) ?_ | refine .cons (fun _ h => agg_sub rfl (by repeat (first | exact .nil | refine .cons (fun _ h => h) ?_ | refine .cons (fun _ h => nil_no _ h) ?_ | refine .cons (fun _ h => no_sub _ h) ?_ | refine .cons (fun _ h => AccP.sub (by assumption) _ _ h) ?_)) _ h) ?_))))) (by (repeat (first | exact AH.le_refl _ | assumption | exact AccP.le (by assumption) | refine AH.le_put ?_ (by first | assumption | exact none_of_le (by assumption) (by assumption) | exact And.right (by assumption) | exact And.right (And.right (by assumption))) _ | refine AH.le_trans ?_ (AccP.le (by assumption))))))
theorem mkeys_calls {m : V} (hm : m = .nilMap ∨ ∃ es, m = .mapv es) (H : AH) : ACalls Try.prog 128 [m] H (fun o H' => ∃ v, o = .ret v ∧ ∃ ko, H ko = none ∧ v = .func (.func 149) [] [.ptr ko 0] ∧ H' = H.put ko (.cells [m])) := by
  refine acalls Try.func128 c128 r128 (by simp [Try.ntmps128]) ?_
  rcases hm with rfl | ⟨es, rfl⟩
  · repeat' (first | with_reducible (first | refine am_seq ?_ | refine am_block ?_) | ((with_reducible apply am_cond); (case hb => rfl); all_goals (intro hc; (try simp only [reduceCtorEq, decide_eq_true_eq, decide_eq_false_iff_not, Bool.or_eq_true, Bool.and_eq_true, Bool.or_eq_false_iff, Bool.not_eq_true', Bool.not_eq_false', beq_iff_eq] at hc); (try (exfalso; omega)))) | ((first | with_reducible (first | refine am_reg ?_ | refine am_drw ?_ | refine am_drx ?_ | refine am_skip ?_ | refine am_exit ?_ | refine am_ret ?_ | refine And.intro (by first | exact AH.lec_refl _ | assumption | exact AccP.lec (by assumption) | omega) ?_ | refine isnE_of (fun hc => ?_) (fun hc => ?_) (fun hc => ?_) | refine need_elems (by assumption) ?_ | refine vlen_acc (by assumption) ?_ | refine need_bytes (by assumption) ?_ | refine need_look (by repeat (first | assumption | exact AH.put_same _ _ _ | refine look_put ?_ (by assumption) | refine look_lec ?_ (by assumption))) ?_) | ((with_reducible (first | refine gd_not (fun hc => ?_) (fun hc => ?_) | refine gd_of (fun hc => ?_) (fun hc => ?_) | refine gq_not (fun hc => ?_) (fun hc => ?_) | refine gq_of (fun hc => ?_) (fun hc => ?_) | refine pickB_of (fun hc => ?_) (fun hc => ?_))) <;> (try simp -implicitDefEqProofs (disch := omega) only [go_sem, eq_self, decide_true, decide_false, Nat.reduceBEq, Nat.reduceAdd, Nat.reduceSub, Nat.reduceMul, Nat.reduceEqDiff, Nat.reduceLeDiff, Nat.reduceLT, Int.reduceLE, Int.reduceLT, Int.reduceToNat, Int.reduceAdd, Int.reduceEq, Int.reduceNeg, AH.put_ne, hc, true_or, or_true, true_and]) <;> (try simp only [reduceCtorEq, decide_eq_true_eq, decide_eq_false_iff_not, Bool.or_eq_true, Bool.and_eq_true, Bool.or_eq_false_iff, Bool.not_eq_true', Bool.not_eq_false', beq_iff_eq] at hc) <;> (try (exfalso; omega))) | ((with_reducible refine alloc_intro (fun ko hko => ?_)) <;> (try have hne := fresh_ne (by assumption) hko) <;> (try have hnk := fresh_ne hk hko) <;> (try have hnk2 := fresh_ne hk2 hko) <;> (try simp only [AH.put_none] at hko)) | ((with_reducible (first | refine vapp_accL (by assumption) ?_ (fun v2 H2 hacc hlec => ?_) | refine vapp_accL (AccP.mono (by assumption) (AccP.le (by assumption))) ?_ (fun v2 H2 hacc hlec => ?_) | refine vapp_accL (AccP.new (by assumption) (by assumption) _) ?_ (fun v2 H2 hacc hlec => ?_))); · simp only [byteCells_length, List.length_cons, List.length_nil, List.length_map, List.length_append, vE_length, mE_length]; omega)) <;> (try simp -implicitDefEqProofs (disch := omega) only [go_sem, eq_self, decide_true, decide_false, Nat.reduceBEq, Nat.reduceAdd, Nat.reduceSub, Nat.reduceMul, Nat.reduceEqDiff, Nat.reduceLeDiff, Nat.reduceLT, Int.reduceLE, Int.reduceLT, Int.reduceToNat, Int.reduceAdd, Int.reduceEq, Int.reduceNeg, AH.put_ne, true_or, or_true, true_and])))
    all_goals exact ⟨_, rfl, _, hko, rfl, rfl⟩
  · repeat' (first | with_reducible (first | refine am_seq ?_ | refine am_block ?_) | ((with_reducible apply am_cond); (case hb => rfl); all_goals (intro hc; (try simp only [reduceCtorEq, decide_eq_true_eq, decide_eq_false_iff_not, Bool.or_eq_true, Bool.and_eq_true, Bool.or_eq_false_iff, Bool.not_eq_true', Bool.not_eq_false', beq_iff_eq] at hc); (try (exfalso; omega)))) | ((first | with_reducible (first | refine am_reg ?_ | refine am_drw ?_ | refine am_drx ?_ | refine am_skip ?_ | refine am_exit ?_ | refine am_ret ?_ | refine And.intro (by first | exact AH.lec_refl _ | assumption | exact AccP.lec (by assumption) | omega) ?_ | refine isnE_of (fun hc => ?_) (fun hc => ?_) (fun hc => ?_) | refine need_elems (by assumption) ?_ | refine vlen_acc (by assumption) ?_ | refine need_bytes (by assumption) ?_ | refine need_look (by repeat (first | assumption | exact AH.put_same _ _ _ | refine look_put ?_ (by assumption) | refine look_lec ?_ (by assumption))) ?_) | ((with_reducible (first | refine gd_not (fun hc => ?_) (fun hc => ?_) | refine gd_of (fun hc => ?_) (fun hc => ?_) | refine gq_not (fun hc => ?_) (fun hc => ?_) | refine gq_of (fun hc => ?_) (fun hc => ?_) | refine pickB_of (fun hc => ?_) (fun hc => ?_))) <;> (try simp -implicitDefEqProofs (disch := omega) only [go_sem, eq_self, decide_true, decide_false, Nat.reduceBEq, Nat.reduceAdd, Nat.reduceSub, Nat.reduceMul, Nat.reduceEqDiff, Nat.reduceLeDiff, Nat.reduceLT, Int.reduceLE, Int.reduceLT, Int.reduceToNat, Int.reduceAdd, Int.reduceEq, Int.reduceNeg, AH.put_ne, hc, true_or, or_true, true_and]) <;> (try simp only [reduceCtorEq, decide_eq_true_eq, decide_eq_false_iff_not, Bool.or_eq_true, Bool.and_eq_true, Bool.or_eq_false_iff, Bool.not_eq_true', Bool.not_eq_false', beq_iff_eq] at hc) <;> (try (exfalso; omega))) | ((with_reducible refine alloc_intro (fun ko hko => ?_)) <;> (try have hne := fresh_ne (by assumption) hko) <;> (try have hnk := fresh_ne hk hko) <;> (try have hnk2 := fresh_ne hk2 hko) <;> (try simp only [AH.put_none] at hko)) | ((with_reducible (first | refine vapp_accL (by assumption) ?_ (fun v2 H2 hacc hlec => ?_) | refine vapp_accL (AccP.mono (by assumption) (AccP.le (by assumption))) ?_ (fun v2 H2 hacc hlec => ?_) | refine vapp_accL (AccP.new (by assumption) (by assumption) _) ?_ (fun v2 H2 hacc hlec => ?_))); · simp only [byteCells_length, List.length_cons, List.length_nil, List.length_map, List.length_append, vE_length, mE_length]; omega)) <;> (try simp -implicitDefEqProofs (disch := omega) only [go_sem, eq_self, decide_true, decide_false, Nat.reduceBEq, Nat.reduceAdd, Nat.reduceSub, Nat.reduceMul, Nat.reduceEqDiff, Nat.reduceLeDiff, Nat.reduceLT, Int.reduceLE, Int.reduceLT, Int.reduceToNat, Int.reduceAdd, Int.reduceEq, Int.reduceNeg, AH.put_ne, true_or, or_true, true_and])))
    all_goals exact ⟨_, rfl, _, hko, rfl, rfl⟩
theorem mE_keys (es : List (List UInt8 × Vl)) : (mE es).map Prod.fst = (es.map Prod.fst).map V.str := by simp [mE]
theorem sortedM {g kb : Nat} {es : List (List UInt8 × Vl)} (ho : (Vl.map es).Ok) {H : AH} (hg : H g = some .nodr) (hkb : H kb = none) :
    ACalls Try.prog 127 [.func (.func 149) [] [.ptr kb 0]] (H.put kb (.cells [.mapv (mE es)])) (fun o H' => o = .ret (.sl 1 (strE (kys es)) .no) ∧ H' = H.put kb (.cells [.mapv (mE es)])) := by
  cases ho with
  | map _ o1 o2 o3 o4 =>
    refine sorted_calls (look_put hg hkb) (AH.put_same _ _ _) (mE_keys es) o2 (fun k hk => ?_) (by rw [List.length_map]; omega)
    obtain ⟨p, hp, rfl⟩ := List.mem_map.1 hk
    exact o3 p hp
theorem keys_calls {g : Nat} {v : Vl} (ho : v.Ok) {H : AH} (hg : H g = some .nodr) : ACalls Try.prog 99 [.agg [vV v]] H (fun o H' => o = .ret (.sl 1 (strE v.keys) .no) ∧ H' = H) := by
  refine ACalls.drop ?_
  refine acalls Try.func99 c99 r99 (by simp [Try.ntmps99]) ?_
  by_cases hm : ∃ es, v = .map es
  · obtain ⟨es, rfl⟩ := hm
    rw [vV_map]
    repeat' (first | ((with_reducible refine call_ex (mkeys_calls (.inr ⟨_, rfl⟩) _) (fun v H2 hr => ?_)); obtain ⟨kb, hkb, rfl, rfl⟩ := hr) | with_reducible (first | refine am_seq ?_ | refine am_block ?_) | ((with_reducible apply am_cond); (case hb => rfl); all_goals (intro hc; (try simp only [reduceCtorEq, decide_eq_true_eq, decide_eq_false_iff_not, Bool.or_eq_true, Bool.and_eq_true, Bool.or_eq_false_iff, Bool.not_eq_true', Bool.not_eq_false', beq_iff_eq] at hc); (try (exfalso; omega)))) | ((first | with_reducible (first | refine am_reg ?_ | refine am_drw ?_ | refine am_drx ?_ | refine am_skip ?_ | refine am_exit ?_ | refine am_ret ?_ | refine And.intro (by first | exact AH.lec_refl _ | assumption | exact AccP.lec (by assumption) | omega) ?_ | refine isnE_of (fun hc => ?_) (fun hc => ?_) (fun hc => ?_) | refine need_elems (by assumption) ?_ | refine vlen_acc (by assumption) ?_ | refine need_bytes (by assumption) ?_ | refine call_turn (sortedM ho hg hkb) ?_ | refine need_look (by repeat (first | assumption | exact AH.put_same _ _ _ | refine look_put ?_ (by assumption) | refine look_lec ?_ (by assumption))) ?_) | ((with_reducible (first | refine gd_not (fun hc => ?_) (fun hc => ?_) | refine gd_of (fun hc => ?_) (fun hc => ?_) | refine gq_not (fun hc => ?_) (fun hc => ?_) | refine gq_of (fun hc => ?_) (fun hc => ?_) | refine pickB_of (fun hc => ?_) (fun hc => ?_))) <;> (try simp -implicitDefEqProofs (disch := omega) only [go_sem, eq_self, decide_true, decide_false, Nat.reduceBEq, Nat.reduceAdd, Nat.reduceSub, Nat.reduceMul, Nat.reduceEqDiff, Nat.reduceLeDiff, Nat.reduceLT, Int.reduceLE, Int.reduceLT, Int.reduceToNat, Int.reduceAdd, Int.reduceEq, Int.reduceNeg, AH.put_ne, hc, true_or, or_true, true_and]) <;> (try simp only [reduceCtorEq, decide_eq_true_eq, decide_eq_false_iff_not, Bool.or_eq_true, Bool.and_eq_true, Bool.or_eq_false_iff, Bool.not_eq_true', Bool.not_eq_false', beq_iff_eq] at hc) <;> (try (exfalso; omega))) | ((with_reducible refine alloc_intro (fun ko hko => ?_)) <;> (try have hne := fresh_ne (by assumption) hko) <;> (try have hnk := fresh_ne hk hko) <;> (try have hnk2 := fresh_ne hk2 hko) <;> (try simp only [AH.put_none] at hko)) | ((with_reducible (first | refine vapp_accL (by assumption) ?_ (fun v2 H2 hacc hlec => ?_) | refine vapp_accL (AccP.mono (by assumption) (AccP.le (by assumption))) ?_ (fun v2 H2 hacc hlec => ?_) | refine vapp_accL (AccP.new (by assumption) (by assumption) _) ?_ (fun v2 H2 hacc hlec => ?_))); · simp only [byteCells_length, List.length_cons, List.length_nil, List.length_map, List.length_append, vE_length, mE_length]; omega)) <;> (try simp -implicitDefEqProofs (disch := omega) only [go_sem, eq_self, decide_true, decide_false, Nat.reduceBEq, Nat.reduceAdd, Nat.reduceSub, Nat.reduceMul, Nat.reduceEqDiff, Nat.reduceLeDiff, Nat.reduceLT, Int.reduceLE, Int.reduceLT, Int.reduceToNat, Int.reduceAdd, Int.reduceEq, Int.reduceNeg, AH.put_ne, true_or, or_true, true_and])))
    all_goals (simp only [Vl.keys]; exact drop_end (fun s y h => h) (AH.le_put (AH.le_refl _) hkb _))
  · have hk : v.keys = [] := by cases v <;> first | rfl | exact absurd ⟨_, rfl⟩ hm
    rw [hk]
    cases v
    case map es => exact absurd ⟨_, rfl⟩ hm
    all_goals simp only [vV_nul, vV_unk, vV_bool, vV_int, vV_pt, vV_text, vV_list, vV_map]
    repeat' (first | ((with_reducible refine call_ex (mkeys_calls (.inl rfl) _) (fun v H2 hr => ?_)); obtain ⟨kb, hkb, rfl, rfl⟩ := hr) | with_reducible (first | refine am_seq ?_ | refine am_block ?_) | ((with_reducible apply am_cond); (case hb => rfl); all_goals (intro hc; (try simp only [reduceCtorEq, decide_eq_true_eq, decide_eq_false_iff_not, Bool.or_eq_true, Bool.and_eq_true, Bool.or_eq_false_iff, Bool.not_eq_true', Bool.not_eq_false', beq_iff_eq] at hc); (try (exfalso; omega)))) | ((first | with_reducible (first | refine am_reg ?_ | refine am_drw ?_ | refine am_drx ?_ | refine am_skip ?_ | refine am_exit ?_ | refine am_ret ?_ | refine And.intro (by first | exact AH.lec_refl _ | assumption | exact AccP.lec (by assumption) | omega) ?_ | refine isnE_of (fun hc => ?_) (fun hc => ?_) (fun hc => ?_) | refine need_elems (by assumption) ?_ | refine vlen_acc (by assumption) ?_ | refine need_bytes (by assumption) ?_ | refine call_turn (sorted_nil_calls (look_put hg hkb) (AH.put_same _ _ _)) ?_ | refine need_look (by repeat (first | assumption | exact AH.put_same _ _ _ | refine look_put ?_ (by assumption) | refine look_lec ?_ (by assumption))) ?_) | ((with_reducible (first | refine gd_not (fun hc => ?_) (fun hc => ?_) | refine gd_of (fun hc => ?_) (fun hc => ?_) | refine gq_not (fun hc => ?_) (fun hc => ?_) | refine gq_of (fun hc => ?_) (fun hc => ?_) | refine pickB_of (fun hc => ?_) (fun hc => ?_))) <;> (try simp -implicitDefEqProofs (disch := omega) only [go_sem, eq_self, decide_true, decide_false, Nat.reduceBEq, Nat.reduceAdd, Nat.reduceSub, Nat.reduceMul, Nat.reduceEqDiff, Nat.reduceLeDiff, Nat.reduceLT, Int.reduceLE, Int.reduceLT, Int.reduceToNat, Int.reduceAdd, Int.reduceEq, Int.reduceNeg, AH.put_ne, hc, true_or, or_true, true_and]) <;> (try simp only [reduceCtorEq, decide_eq_true_eq, decide_eq_false_iff_not, Bool.or_eq_true, Bool.and_eq_true, Bool.or_eq_false_iff, Bool.not_eq_true', Bool.not_eq_false', beq_iff_eq] at hc) <;> (try (exfalso; omega))) | ((with_reducible refine alloc_intro (fun ko hko => ?_)) <;> (try have hne := fresh_ne (by assumption) hko) <;> (try have hnk := fresh_ne hk hko) <;> (try have hnk2 := fresh_ne hk2 hko) <;> (try simp only [AH.put_none] at hko)) | ((with_reducible (first | refine vapp_accL (by assumption) ?_ (fun v2 H2 hacc hlec => ?_) | refine vapp_accL (AccP.mono (by assumption) (AccP.le (by assumption))) ?_ (fun v2 H2 hacc hlec => ?_) | refine vapp_accL (AccP.new (by assumption) (by assumption) _) ?_ (fun v2 H2 hacc hlec => ?_))); · simp only [byteCells_length, List.length_cons, List.length_nil, List.length_map, List.length_append, vE_length, mE_length]; omega)) <;> (try simp -implicitDefEqProofs (disch := omega) only [go_sem, eq_self, decide_true, decide_false, Nat.reduceBEq, Nat.reduceAdd, Nat.reduceSub, Nat.reduceMul, Nat.reduceEqDiff, Nat.reduceLeDiff, Nat.reduceLT, Int.reduceLE, Int.reduceLT, Int.reduceToNat, Int.reduceAdd, Int.reduceEq, Int.reduceNeg, AH.put_ne, true_or, or_true, true_and])))
    all_goals (exact drop_end (fun s y h => h) (AH.le_put (AH.le_refl _) hkb _))
end Go.Proofs.Ytjlphncecdlmcaa
namespace Go.Proofs.Ytjlphncecdlmcaa
open Go.Vm Go.Sort
attribute [local go_sem] List.drop_zero toNat_succ Nat.sub_zero Int.toNat_natCast Option.map_some Int.natCast_nonneg decide_eq_true_eq decide_eq_false_iff_not
/- (flange/value.Value).Items -/
abbrev k98_0 : MC :=
  .cond (.t 16) ((.seq (.reg [
     ⟨(some 17), none, .val (.mv (.t 3))⟩,
     ⟨(some 18), none, .call 126 [(.t 17)]⟩,
     ⟨(some 2), none, .val (.mv (.t 18))⟩] [2]) (.ret))) (.skip)
abbrev k98_1 : MC :=
  (.seq (.reg [
    ⟨(some 16), none, .val (.mv (.t 4))⟩] [1, 3, 16]) k98_0)
abbrev k98_2 : MC :=
  .reg [
    ⟨(some 32), none, .val (.mv (.t 5))⟩,
    ⟨(some 33), none, .val (.mv (.t 6))⟩,
    ⟨(some 34), none, .val (.mv (.t 9))⟩,
    ⟨(some 35), none, .val (.yo (.look .str (.agg [.nilIface]) false) [(.t 33), (.t 34)])⟩,
    ⟨(some 36), none, .bslice 1 1 [.nilIface] [(0, 1, (.t 35))]⟩,
    ⟨(some 37), none, .app 1 16 (.t 32) (.t 36)⟩,
    ⟨(some 5), none, .val (.mv (.t 37))⟩] [5, 6, 26, 27, 28]
abbrev k98_3 : MC :=
  .reg [
    ⟨(some 38), none, .val (.bin .add .num (.t 28) (.c (.int .i64 1)))⟩,
    ⟨(some 28), none, .val (.mv (.t 38))⟩] [5, 6, 26, 27, 28]
abbrev k98_4 : MC :=
  (.seq (.block 1 ((.seq (.reg [
     ⟨(some 30), none, .val (.iaddr 1 (.t 26) (.t 28))⟩,
     ⟨(some 31), none, .val (.load false 1 (.t 30))⟩,
     ⟨(some 9), none, .val (.mv (.t 31))⟩] [5, 6, 9, 26, 27, 28]) k98_2))) k98_3)
abbrev k98_5 : MC :=
  (.seq (.cond (.t 29) (.skip) (.exit 0)) k98_4)
abbrev k98_6 : MC :=
  (.seq (.reg [
    ⟨(some 29), none, .val (.bin .lss .num (.t 28) (.t 27))⟩] [5, 6, 26, 27, 28, 29]) k98_5)
abbrev k98_7 : MC :=
  .block 0 (.loop k98_6)
abbrev k98_8 : MC :=
  (.seq (.reg [
    ⟨(some 39), none, .val (.mv (.t 5))⟩,
    ⟨(some 2), none, .val (.mv (.t 39))⟩] [2]) (.ret))
abbrev k98_9 : MC :=
  (.seq ((.seq (.reg [
    ⟨(some 25), none, .val (.load true 1 (.t 1))⟩,
    ⟨(some 26), none, .call 99 [(.t 25)]⟩,
    ⟨(some 27), none, .val (.len .sl (.t 26))⟩,
    ⟨(some 28), none, .val (.mv (.c (.int .i64 0)))⟩] [5, 6, 26, 27, 28]) k98_7)) k98_8)
abbrev k98_10 : MC :=
  (.seq (.reg [
    ⟨(some 20), none, .val (.faddr 0 (.t 1))⟩,
    ⟨(some 21), none, .val (.load false 1 (.t 20))⟩,
    ⟨(some 22), none, .val (.tya 131 true .nilMap (.t 21))⟩,
    ⟨(some 19), none, .val (.mv (.t 22))⟩,
    ⟨(some 23), none, .val (.ext (.t 19) 0)⟩,
    ⟨(some 24), none, .val (.ext (.t 19) 1)⟩,
    ⟨(some 6), none, .val (.mv (.t 23))⟩,
    ⟨(some 7), none, .val (.mv (.t 24))⟩] [1, 5, 6]) k98_9)
abbrev k98_11 : MC :=
  (.seq (.reg [
    ⟨(some 5), none, .val (.mv (.c .nilSl))⟩] [1, 5]) k98_10)
abbrev k98_12 : MC :=
  (.seq ((.seq (.reg [
    ⟨(some 11), none, .val (.faddr 0 (.t 1))⟩,
    ⟨(some 12), none, .val (.load false 1 (.t 11))⟩,
    ⟨(some 13), none, .val (.tya 129 true .nilSl (.t 12))⟩,
    ⟨(some 10), none, .val (.mv (.t 13))⟩,
    ⟨(some 14), none, .val (.ext (.t 10) 0)⟩,
    ⟨(some 15), none, .val (.ext (.t 10) 1)⟩,
    ⟨(some 3), none, .val (.mv (.t 14))⟩,
    ⟨(some 4), none, .val (.mv (.t 15))⟩] [1, 3, 4]) k98_1)) k98_11)
abbrev k98 : MC :=
  (.seq (.reg [
    ⟨(some 1), none, .boxi (.t 0)⟩,
    ⟨(some 2), none, .val (.mv (.c .nilSl))⟩] [1]) k98_12)
theorem c98 : Try.f98.body.bind (mcOf Try.prog (List.contains [1] ·) (List.getD [([], [1]), ([], [1, 3, 4]), ([], [1, 3, 16]), ([], [2]), ([], [1, 5]), ([], [1, 5, 6]), ([], [5, 6, 26, 27, 28]), ([], [5, 6, 26, 27, 28, 29]), ([], [5, 6, 9, 26, 27, 28]), ([], [5, 6, 26, 27, 28]), ([], [5, 6, 26, 27, 28]), ([], [2])] · ([], [])) 40) = some k98 := by kernel_rfl
theorem r98 : rvsOf Try.prog Try.f98.results.toList = some [.tmp 2] := by kernel_rfl
/- slices.Clone[[]flange/value.Value,flange/value.Value] -/
abbrev k110_0 : MC :=
  .cond (.t 4) ((.seq (.reg [
     ⟨(some 2), none, .val (.mv (.c .nilSl))⟩] [2]) (.ret))) (.skip)
abbrev k110_1 : MC :=
  (.seq (.reg [
    ⟨(some 5), none, .bslice 1 0 [] []⟩,
    ⟨(some 6), none, .val (.mv (.t 0))⟩,
    ⟨(some 7), none, .app 1 16 (.t 5) (.t 6)⟩,
    ⟨(some 2), none, .val (.mv (.t 7))⟩] [2]) (.ret))
abbrev k110_2 : MC :=
  (.seq ((.seq (.reg [
    ⟨(some 3), none, .val (.mv (.t 0))⟩,
    ⟨(some 4), none, .isnil false (.t 3)⟩] [0, 4]) k110_0)) k110_1)
abbrev k110 : MC :=
  (.seq (.reg [
    ⟨(some 2), none, .val (.mv (.c .nilSl))⟩] [0]) k110_2)
theorem c110 : Try.f110.body.bind (mcOf Try.prog (List.contains [] ·) (List.getD [([], [0]), ([], [0, 4]), ([], [2]), ([], [2])] · ([], [])) 8) = some k110 := by kernel_rfl
theorem r110 : rvsOf Try.prog Try.f110.results.toList = some [.tmp 2] := by kernel_rfl
/- slices.Clone[flange/value.list,flange/value.Value] -/
abbrev k126_0 : MC :=
  .cond (.t 4) ((.seq (.reg [
     ⟨(some 2), none, .val (.mv (.c .nilSl))⟩] [2]) (.ret))) (.skip)
abbrev k126_1 : MC :=
  (.seq (.reg [
    ⟨(some 5), none, .bslice 1 0 [] []⟩,
    ⟨(some 6), none, .val (.mv (.t 0))⟩,
    ⟨(some 7), none, .app 1 16 (.t 5) (.t 6)⟩,
    ⟨(some 2), none, .val (.mv (.t 7))⟩] [2]) (.ret))
abbrev k126_2 : MC :=
  (.seq ((.seq (.reg [
    ⟨(some 3), none, .val (.mv (.t 0))⟩,
    ⟨(some 4), none, .isnil false (.t 3)⟩] [0, 4]) k126_0)) k126_1)
abbrev k126 : MC :=
  (.seq (.reg [
    ⟨(some 2), none, .val (.mv (.c .nilSl))⟩] [0]) k126_2)
theorem c126 : Try.f126.body.bind (mcOf Try.prog (List.contains [] ·) (List.getD [([], [0]), ([], [0, 4]), ([], [2]), ([], [2])] · ([], [])) 8) = some k126 := by kernel_rfl
theorem r126 : rvsOf Try.prog Try.f126.results.toList = some [.tmp 2] := by kernel_rfl
/- flange/value.List -/
abbrev k73_0 : MC :=
  (.seq (.reg [
    ⟨(some 3), none, .val (.mv (.t 0))⟩,
    ⟨(some 4), none, .call 110 [(.t 3)]⟩,
    ⟨(some 5), none, .val (.mkif 129 (.t 4))⟩,
    ⟨(some 6), none, .build [.nilIface] [(0, 1, (.t 5))]⟩,
    ⟨none, none, .store 1 (.t 2) (.t 6)⟩] [2]) (.ret))
abbrev k73 : MC :=
  (.seq (.reg [
    ⟨(some 2), none, .zalloc [.nilIface]⟩] [0, 2]) k73_0)
theorem c73 : Try.f73.body.bind (mcOf Try.prog (List.contains [] ·) (List.getD [([], [0, 2]), ([], [2])] · ([], [])) 7) = some k73 := by kernel_rfl
theorem r73 : rvsOf Try.prog Try.f73.results.toList = some [.cell 2 true 1] := by kernel_rfl
theorem clone_calls {l : List Vl} {t : Tok} (hl : l.length * 16 ≤ 140000000000000) (H : AH) : ACalls Try.prog 110 [.sl 1 (vE l) t] H (fun o H' => o = .ret (.sl 1 (vE l) .no) ∧ H' = H) := by
  refine ACalls.drop ?_
  refine acalls Try.func110 c110 r110 (by simp [Try.ntmps110]) ?_
  repeat' (first | with_reducible (first | refine am_seq ?_ | refine am_block ?_) | ((with_reducible apply am_cond); (case hb => rfl); all_goals (intro hc; (try simp only [reduceCtorEq, decide_eq_true_eq, decide_eq_false_iff_not, Bool.or_eq_true, Bool.and_eq_true, Bool.or_eq_false_iff, Bool.not_eq_true', Bool.not_eq_false', beq_iff_eq] at hc); (try (exfalso; omega)))) | ((first | with_reducible (first | refine am_reg ?_ | refine am_drw ?_ | refine am_drx ?_ | refine am_skip ?_ | refine am_exit ?_ | refine am_ret ?_ | refine And.intro (by first | exact AH.lec_refl _ | assumption | exact AccP.lec (by assumption) | omega) ?_ | refine isnE_of (fun hc => ?_) (fun hc => ?_) (fun hc => ?_) | refine need_elems (by assumption) ?_ | refine vlen_acc (by assumption) ?_ | refine need_bytes (by assumption) ?_ | refine need_look (by repeat (first | assumption | exact AH.put_same _ _ _ | refine look_put ?_ (by assumption) | refine look_lec ?_ (by assumption))) ?_) | ((with_reducible (first | refine gd_not (fun hc => ?_) (fun hc => ?_) | refine gd_of (fun hc => ?_) (fun hc => ?_) | refine gq_not (fun hc => ?_) (fun hc => ?_) | refine gq_of (fun hc => ?_) (fun hc => ?_) | refine pickB_of (fun hc => ?_) (fun hc => ?_))) <;> (try simp -implicitDefEqProofs (disch := omega) only [go_sem, eq_self, decide_true, decide_false, Nat.reduceBEq, Nat.reduceAdd, Nat.reduceSub, Nat.reduceMul, Nat.reduceEqDiff, Nat.reduceLeDiff, Nat.reduceLT, Int.reduceLE, Int.reduceLT, Int.reduceToNat, Int.reduceAdd, Int.reduceEq, Int.reduceNeg, AH.put_ne, hc, vE_length]) <;> (try simp only [reduceCtorEq, decide_eq_true_eq, decide_eq_false_iff_not, Bool.or_eq_true, Bool.and_eq_true, Bool.or_eq_false_iff, Bool.not_eq_true', Bool.not_eq_false', beq_iff_eq] at hc) <;> (try (exfalso; omega))) | ((with_reducible refine alloc_intro (fun ko hko => ?_)) <;> (try have hne := fresh_ne (by assumption) hko) <;> (try have hnk := fresh_ne hk hko) <;> (try have hnk2 := fresh_ne hk2 hko) <;> (try simp only [AH.put_none] at hko)) | ((with_reducible (first | refine vapp_accL (by assumption) ?_ (fun v2 H2 hacc hlec => ?_) | refine vapp_accL (AccP.mono (by assumption) (AccP.le (by assumption))) ?_ (fun v2 H2 hacc hlec => ?_) | refine vapp_accL (AccP.new (by assumption) (by assumption) _) ?_ (fun v2 H2 hacc hlec => ?_))); · simp only [byteCells_length, List.length_cons, List.length_nil, List.length_map, List.length_append, vE_length, mE_length, strE_len, List.length_take]; omega)) <;> (try simp -implicitDefEqProofs (disch := omega) only [go_sem, eq_self, decide_true, decide_false, Nat.reduceBEq, Nat.reduceAdd, Nat.reduceSub, Nat.reduceMul, Nat.reduceEqDiff, Nat.reduceLeDiff, Nat.reduceLT, Int.reduceLE, Int.reduceLT, Int.reduceToNat, Int.reduceAdd, Int.reduceEq, Int.reduceNeg, AH.put_ne, vE_length])))
  · rename_i he; rw [he]; exact drop_end (fun s y h => nil_no _ h) (AH.le_refl _)
  all_goals exact drop_end (fun s y h => by rw [List.nil_append] at h; exact no_sub _ h) (AH.le_put (AH.le_refl _) hko _)
theorem clonel_calls {l : List Vl} {t : Tok} (hl : l.length * 16 ≤ 140000000000000) (H : AH) : ACalls Try.prog 126 [.sl 1 (vE l) t] H (fun o H' => o = .ret (.sl 1 (vE l) .no) ∧ H' = H) := by
  refine ACalls.drop ?_
  refine acalls Try.func126 c126 r126 (by simp [Try.ntmps126]) ?_
  repeat' (first | with_reducible (first | refine am_seq ?_ | refine am_block ?_) | ((with_reducible apply am_cond); (case hb => rfl); all_goals (intro hc; (try simp only [reduceCtorEq, decide_eq_true_eq, decide_eq_false_iff_not, Bool.or_eq_true, Bool.and_eq_true, Bool.or_eq_false_iff, Bool.not_eq_true', Bool.not_eq_false', beq_iff_eq] at hc); (try (exfalso; omega)))) | ((first | with_reducible (first | refine am_reg ?_ | refine am_drw ?_ | refine am_drx ?_ | refine am_skip ?_ | refine am_exit ?_ | refine am_ret ?_ | refine And.intro (by first | exact AH.lec_refl _ | assumption | exact AccP.lec (by assumption) | omega) ?_ | refine isnE_of (fun hc => ?_) (fun hc => ?_) (fun hc => ?_) | refine need_elems (by assumption) ?_ | refine vlen_acc (by assumption) ?_ | refine need_bytes (by assumption) ?_ | refine need_look (by repeat (first | assumption | exact AH.put_same _ _ _ | refine look_put ?_ (by assumption) | refine look_lec ?_ (by assumption))) ?_) | ((with_reducible (first | refine gd_not (fun hc => ?_) (fun hc => ?_) | refine gd_of (fun hc => ?_) (fun hc => ?_) | refine gq_not (fun hc => ?_) (fun hc => ?_) | refine gq_of (fun hc => ?_) (fun hc => ?_) | refine pickB_of (fun hc => ?_) (fun hc => ?_))) <;> (try simp -implicitDefEqProofs (disch := omega) only [go_sem, eq_self, decide_true, decide_false, Nat.reduceBEq, Nat.reduceAdd, Nat.reduceSub, Nat.reduceMul, Nat.reduceEqDiff, Nat.reduceLeDiff, Nat.reduceLT, Int.reduceLE, Int.reduceLT, Int.reduceToNat, Int.reduceAdd, Int.reduceEq, Int.reduceNeg, AH.put_ne, hc, vE_length]) <;> (try simp only [reduceCtorEq, decide_eq_true_eq, decide_eq_false_iff_not, Bool.or_eq_true, Bool.and_eq_true, Bool.or_eq_false_iff, Bool.not_eq_true', Bool.not_eq_false', beq_iff_eq] at hc) <;> (try (exfalso; omega))) | ((with_reducible refine alloc_intro (fun ko hko => ?_)) <;> (try have hne := fresh_ne (by assumption) hko) <;> (try have hnk := fresh_ne hk hko) <;> (try have hnk2 := fresh_ne hk2 hko) <;> (try simp only [AH.put_none] at hko)) | ((with_reducible (first | refine vapp_accL (by assumption) ?_ (fun v2 H2 hacc hlec => ?_) | refine vapp_accL (AccP.mono (by assumption) (AccP.le (by assumption))) ?_ (fun v2 H2 hacc hlec => ?_) | refine vapp_accL (AccP.new (by assumption) (by assumption) _) ?_ (fun v2 H2 hacc hlec => ?_))); · simp only [byteCells_length, List.length_cons, List.length_nil, List.length_map, List.length_append, vE_length, mE_length, strE_len, List.length_take]; omega)) <;> (try simp -implicitDefEqProofs (disch := omega) only [go_sem, eq_self, decide_true, decide_false, Nat.reduceBEq, Nat.reduceAdd, Nat.reduceSub, Nat.reduceMul, Nat.reduceEqDiff, Nat.reduceLeDiff, Nat.reduceLT, Int.reduceLE, Int.reduceLT, Int.reduceToNat, Int.reduceAdd, Int.reduceEq, Int.reduceNeg, AH.put_ne, vE_length])))
  · rename_i he; rw [he]; exact drop_end (fun s y h => nil_no _ h) (AH.le_refl _)
  all_goals exact drop_end (fun s y h => by rw [List.nil_append] at h; exact no_sub _ h) (AH.le_put (AH.le_refl _) hko _)
theorem list_calls {l : List Vl} {t : Tok} (hl : l.length * 16 ≤ 140000000000000) (H : AH) : ACalls Try.prog 73 [.sl 1 (vE l) t] H (fun o H' => o = .ret (.agg [vV (.list l)]) ∧ H' = H) := by
  refine ACalls.drop ?_
  rw [vV_list]
  refine acalls Try.func73 c73 r73 (by simp [Try.ntmps73]) ?_
  repeat' (first | with_reducible (first | refine am_seq ?_ | refine am_block ?_) | ((with_reducible apply am_cond); (case hb => rfl); all_goals (intro hc; (try simp only [reduceCtorEq, decide_eq_true_eq, decide_eq_false_iff_not, Bool.or_eq_true, Bool.and_eq_true, Bool.or_eq_false_iff, Bool.not_eq_true', Bool.not_eq_false', beq_iff_eq] at hc); (try (exfalso; omega)))) | ((first | with_reducible (first | refine am_reg ?_ | refine am_drw ?_ | refine am_drx ?_ | refine am_skip ?_ | refine am_exit ?_ | refine am_ret ?_ | refine And.intro (by first | exact AH.lec_refl _ | assumption | exact AccP.lec (by assumption) | omega) ?_ | refine isnE_of (fun hc => ?_) (fun hc => ?_) (fun hc => ?_) | refine need_elems (by assumption) ?_ | refine vlen_acc (by assumption) ?_ | refine need_bytes (by assumption) ?_ | refine call_of (clone_calls hl) ?_ | refine qcall_of (clone_calls hl) ?_ | refine need_look (by repeat (first | assumption | exact AH.put_same _ _ _ | refine look_put ?_ (by assumption) | refine look_lec ?_ (by assumption))) ?_) | ((with_reducible (first | refine gd_not (fun hc => ?_) (fun hc => ?_) | refine gd_of (fun hc => ?_) (fun hc => ?_) | refine gq_not (fun hc => ?_) (fun hc => ?_) | refine gq_of (fun hc => ?_) (fun hc => ?_) | refine pickB_of (fun hc => ?_) (fun hc => ?_))) <;> (try simp -implicitDefEqProofs (disch := omega) only [go_sem, eq_self, decide_true, decide_false, Nat.reduceBEq, Nat.reduceAdd, Nat.reduceSub, Nat.reduceMul, Nat.reduceEqDiff, Nat.reduceLeDiff, Nat.reduceLT, Int.reduceLE, Int.reduceLT, Int.reduceToNat, Int.reduceAdd, Int.reduceEq, Int.reduceNeg, AH.put_ne, hc, vE_length]) <;> (try simp only [reduceCtorEq, decide_eq_true_eq, decide_eq_false_iff_not, Bool.or_eq_true, Bool.and_eq_true, Bool.or_eq_false_iff, Bool.not_eq_true', Bool.not_eq_false', beq_iff_eq] at hc) <;> (try (exfalso; omega))) | ((with_reducible refine alloc_intro (fun ko hko => ?_)) <;> (try have hne := fresh_ne (by assumption) hko) <;> (try have hnk := fresh_ne hk hko) <;> (try have hnk2 := fresh_ne hk2 hko) <;> (try simp only [AH.put_none] at hko)) | ((with_reducible (first | refine vapp_accL (by assumption) ?_ (fun v2 H2 hacc hlec => ?_) | refine vapp_accL (AccP.mono (by assumption) (AccP.le (by assumption))) ?_ (fun v2 H2 hacc hlec => ?_) | refine vapp_accL (AccP.new (by assumption) (by assumption) _) ?_ (fun v2 H2 hacc hlec => ?_))); · simp only [byteCells_length, List.length_cons, List.length_nil, List.length_map, List.length_append, vE_length, mE_length, strE_len, List.length_take]; omega)) <;> (try simp -implicitDefEqProofs (disch := omega) only [go_sem, eq_self, decide_true, decide_false, Nat.reduceBEq, Nat.reduceAdd, Nat.reduceSub, Nat.reduceMul, Nat.reduceEqDiff, Nat.reduceLeDiff, Nat.reduceLT, Int.reduceLE, Int.reduceLT, Int.reduceToNat, Int.reduceAdd, Int.reduceEq, Int.reduceNeg, AH.put_ne, vE_length])))
  all_goals (refine drop_end (by (first | exact fun _ _ h => h | (intro s x h; first | exact no_sub _ h | exact nil_no _ h | exact AccP.sub (by assumption) _ _ h | (refine agg_sub rfl ?_ x h; repeat (first | exact .nil | refine .cons (fun _ h => h) ?_ | refine .cons (fun _ h => nil_no _ h) ?_ | refine .cons (fun _ h => no_sub _ h) ?_ | refine .cons (fun _ h => AccP.sub (by assumption) _ _ h) ?_)) | (refine tuple_sub ?_ x h; repeat (first | exact .nil | refine .cons (fun _ h => h) ?_ | refine .cons (fun _ h => nil_no _ h) ?_ | refine .cons (fun _ h => no_sub _ h) ?_ | refine .cons (fun _ h => AccP.sub (by assumption) _ _ h) ?_ | refine .cons (fun _ h => agg_sub rfl (by repeat (first | exact .nil | refine .cons (fun _ h => h) ?_ | refine .cons (fun _ h => nil_no _ h) ?_ | refine .cons (fun _ h => no_sub _ h) ?_ | refine .cons (fun _ h => AccP.sub (by assumption) _ _ h) ?_)) _ h) ?_))))) (by (repeat (first | exact AH.le_refl _ | assumption | exact AccP.le (by assumption) | refine AH.le_put ?_ (by first | assumption | exact none_of_le (by assumption) (by assumption) | exact And.right (by assumption) | exact And.right (And.right (by assumption))) _ | refine AH.le_trans ?_ (AccP.le (by assumption))))))
theorem iface_sub {s : St} {t : Nat} {v u : V} (h : ∀ x, s.val v x → s.val u x) (x : Value) (hx : s.val (.iface t v) x) : s.val (.iface t u) x := by
  cases hx with
  | iface _ _ y h1 => exact .iface _ _ _ (h _ h1)
theorem nil_vE : V.sl 1 (vE []) .no = .sl 1 [] .no := rfl
def look (es : List (List UInt8 × Vl)) (k : List UInt8) : Vl := (fnd k es).getD .nul
def Vl.items : Vl → List Vl
  | .list l => l
  | .map es => (kys es).map (look es)
  | _ => []
theorem kys_length (es : List (List UInt8 × Vl)) : (kys es).length = es.length := by rw [kys, List.length_mergeSort, List.length_map]
theorem strE_get {l : List (List UInt8)} {i : Nat} (h : i < l.length) : (strE l)[i]? = some [.str l[i]] := by simp [strE, h]
theorem mres_look (es : List (List UInt8 × Vl)) (k : List UInt8) : mres false (.agg [.nilIface]) ((fnd k es).map fun x => V.agg [vV x]) = .agg [vV (look es k)] := by
  unfold look
  cases fnd k es with
  | none => rw [Option.map_none, Option.getD_none, vV_nul]; rfl
  | some x => rfl
theorem items_calls {g : Nat} {v : Vl} (ho : v.Ok) {H : AH} (hg : H g = some .nodr) : ACalls Try.prog 98 [.agg [vV v]] H (fun o H' => o = .ret (.sl 1 (vE v.items) .no) ∧ H' = H) := by
  refine ACalls.drop ?_
  refine acalls Try.func98 c98 r98 (by simp [Try.ntmps98]) ?_
  by_cases hm : ∃ es, v = .map es
  · obtain ⟨es, rfl⟩ := hm
    have hk := fun H hg => keys_calls (g := g) ho (H := H) hg
    simp only [Vl.keys] at hk
    rw [vV_map] at hk ⊢
    have hkl := kys_length es
    have hb : es.length * 16 ≤ 100000000000000 := by cases ho; assumption
    repeat' (first | with_reducible (first | refine am_seq ?_ | refine am_block ?_) | ((with_reducible apply am_cond); (case hb => rfl); all_goals (intro hc; (try simp only [reduceCtorEq, decide_eq_true_eq, decide_eq_false_iff_not, Bool.or_eq_true, Bool.and_eq_true, Bool.or_eq_false_iff, Bool.not_eq_true', Bool.not_eq_false', beq_iff_eq] at hc); (try (exfalso; omega)))) | ((first | with_reducible (first | refine am_reg ?_ | refine am_drw ?_ | refine am_drx ?_ | refine am_skip ?_ | refine am_exit ?_ | refine am_ret ?_ | refine And.intro (by first | exact AH.lec_refl _ | assumption | exact AccP.lec (by assumption) | omega) ?_ | refine isnE_of (fun hc => ?_) (fun hc => ?_) (fun hc => ?_) | refine need_elems (by assumption) ?_ | refine vlen_acc (by assumption) ?_ | refine need_bytes (by assumption) ?_ | refine call_turn (hk _ hg) ?_ | refine need_look (by repeat (first | assumption | exact AH.put_same _ _ _ | refine look_put ?_ (by assumption) | refine look_lec ?_ (by assumption))) ?_) | ((with_reducible (first | refine gd_not (fun hc => ?_) (fun hc => ?_) | refine gd_of (fun hc => ?_) (fun hc => ?_) | refine gq_not (fun hc => ?_) (fun hc => ?_) | refine gq_of (fun hc => ?_) (fun hc => ?_) | refine pickB_of (fun hc => ?_) (fun hc => ?_))) <;> (try simp -implicitDefEqProofs (disch := omega) only [go_sem, eq_self, decide_true, decide_false, Nat.reduceBEq, Nat.reduceAdd, Nat.reduceSub, Nat.reduceMul, Nat.reduceEqDiff, Nat.reduceLeDiff, Nat.reduceLT, Int.reduceLE, Int.reduceLT, Int.reduceToNat, Int.reduceAdd, Int.reduceEq, Int.reduceNeg, AH.put_ne, hc, true_or, or_true, true_and, strE_len]) <;> (try simp only [reduceCtorEq, decide_eq_true_eq, decide_eq_false_iff_not, Bool.or_eq_true, Bool.and_eq_true, Bool.or_eq_false_iff, Bool.not_eq_true', Bool.not_eq_false', beq_iff_eq] at hc) <;> (try (exfalso; omega))) | ((with_reducible refine alloc_intro (fun ko hko => ?_)) <;> (try have hne := fresh_ne (by assumption) hko) <;> (try have hnk := fresh_ne hk hko) <;> (try have hnk2 := fresh_ne hk2 hko) <;> (try simp only [AH.put_none] at hko)) | ((with_reducible (first | refine vapp_accL (by assumption) ?_ (fun v2 H2 hacc hlec => ?_) | refine vapp_accL (AccP.mono (by assumption) (AccP.le (by assumption))) ?_ (fun v2 H2 hacc hlec => ?_) | refine vapp_accL (AccP.new (by assumption) (by assumption) _) ?_ (fun v2 H2 hacc hlec => ?_))); · simp only [byteCells_length, List.length_cons, List.length_nil, List.length_map, List.length_append, vE_length, mE_length, strE_len, List.length_take]; omega)) <;> (try simp -implicitDefEqProofs (disch := omega) only [go_sem, eq_self, decide_true, decide_false, Nat.reduceBEq, Nat.reduceAdd, Nat.reduceSub, Nat.reduceMul, Nat.reduceEqDiff, Nat.reduceLeDiff, Nat.reduceLT, Int.reduceLE, Int.reduceLT, Int.reduceToNat, Int.reduceAdd, Int.reduceEq, Int.reduceNeg, AH.put_ne, true_or, or_true, true_and, strE_len])))
    refine am_loop (fun n a H' => ∃ (i : Nat) (v : V), i + n = (kys es).length ∧ a = [(5, v), (6, .mapv (mE es)), (26, .sl 1 (strE (kys es)) .no), (27, .int .i64 (kys es).length), (28, .int .i64 i)] ∧ AccP H 1 (vE (((kys es).take i).map (look es))) v H') ?_ (kys es).length ⟨0, .nilSl, by omega, rfl, AH.le_refl _, .inl ⟨rfl, rfl⟩⟩
    rintro n a H' ⟨i, v, hi, rfl, hacc⟩
    by_cases hlt : i < (kys es).length
    · have e : vE (((kys es).take i).map (look es)) ++ [[vV (look es (kys es)[i])]] = vE (((kys es).take (i + 1)).map (look es)) := by
        rw [List.take_succ_eq_append_getElem hlt, List.map_append, ← vE_app]; rfl
      repeat' (first | with_reducible (first | refine am_seq ?_ | refine am_block ?_) | ((with_reducible apply am_cond); (case hb => rfl); all_goals (intro hc; (try simp only [reduceCtorEq, decide_eq_true_eq, decide_eq_false_iff_not, Bool.or_eq_true, Bool.and_eq_true, Bool.or_eq_false_iff, Bool.not_eq_true', Bool.not_eq_false', beq_iff_eq] at hc); (try (exfalso; omega)))) | ((first | with_reducible (first | refine am_reg ?_ | refine am_drw ?_ | refine am_drx ?_ | refine am_skip ?_ | refine am_exit ?_ | refine am_ret ?_ | refine And.intro (by first | exact AH.lec_refl _ | assumption | exact AccP.lec (by assumption) | omega) ?_ | refine isnE_of (fun hc => ?_) (fun hc => ?_) (fun hc => ?_) | refine need_elems (by assumption) ?_ | refine vlen_acc (by assumption) ?_ | refine need_bytes (by assumption) ?_ | refine need_look (by repeat (first | assumption | exact AH.put_same _ _ _ | refine look_put ?_ (by assumption) | refine look_lec ?_ (by assumption))) ?_) | ((with_reducible (first | refine gd_not (fun hc => ?_) (fun hc => ?_) | refine gd_of (fun hc => ?_) (fun hc => ?_) | refine gq_not (fun hc => ?_) (fun hc => ?_) | refine gq_of (fun hc => ?_) (fun hc => ?_) | refine pickB_of (fun hc => ?_) (fun hc => ?_))) <;> (try simp -implicitDefEqProofs (disch := omega) only [go_sem, eq_self, decide_true, decide_false, Nat.reduceBEq, Nat.reduceAdd, Nat.reduceSub, Nat.reduceMul, Nat.reduceEqDiff, Nat.reduceLeDiff, Nat.reduceLT, Int.reduceLE, Int.reduceLT, Int.reduceToNat, Int.reduceAdd, Int.reduceEq, Int.reduceNeg, AH.put_ne, hc, wrap_id, strE_len, strE_get hlt, mE_find, mres_look]) <;> (try simp only [reduceCtorEq, decide_eq_true_eq, decide_eq_false_iff_not, Bool.or_eq_true, Bool.and_eq_true, Bool.or_eq_false_iff, Bool.not_eq_true', Bool.not_eq_false', beq_iff_eq] at hc) <;> (try (exfalso; omega))) | ((with_reducible refine alloc_intro (fun ko hko => ?_)) <;> (try have hne := fresh_ne (by assumption) hko) <;> (try have hnk := fresh_ne hk hko) <;> (try have hnk2 := fresh_ne hk2 hko) <;> (try simp only [AH.put_none] at hko)) | ((with_reducible (first | refine vapp_accL (by assumption) ?_ (fun v2 H2 hacc hlec => ?_) | refine vapp_accL (AccP.mono (by assumption) (AccP.le (by assumption))) ?_ (fun v2 H2 hacc hlec => ?_) | refine vapp_accL (AccP.new (by assumption) (by assumption) _) ?_ (fun v2 H2 hacc hlec => ?_))); · simp only [byteCells_length, List.length_cons, List.length_nil, List.length_map, List.length_append, vE_length, mE_length, strE_len, List.length_take]; omega)) <;> (try simp -implicitDefEqProofs (disch := omega) only [go_sem, eq_self, decide_true, decide_false, Nat.reduceBEq, Nat.reduceAdd, Nat.reduceSub, Nat.reduceMul, Nat.reduceEqDiff, Nat.reduceLeDiff, Nat.reduceLT, Int.reduceLE, Int.reduceLT, Int.reduceToNat, Int.reduceAdd, Int.reduceEq, Int.reduceNeg, AH.put_ne, wrap_id, strE_len, strE_get hlt, mE_find, mres_look])))
      all_goals exact ⟨n - 1, by omega, i + 1, _, by omega, rfl, by rw [← e]; exact hacc⟩
    · have e : ((kys es).take i).map (look es) = (Vl.map es).items := by rw [List.take_of_length_le (by omega)]; rfl
      rw [e] at hacc
      repeat' (first | with_reducible (first | refine am_seq ?_ | refine am_block ?_) | ((with_reducible apply am_cond); (case hb => rfl); all_goals (intro hc; (try simp only [reduceCtorEq, decide_eq_true_eq, decide_eq_false_iff_not, Bool.or_eq_true, Bool.and_eq_true, Bool.or_eq_false_iff, Bool.not_eq_true', Bool.not_eq_false', beq_iff_eq] at hc); (try (exfalso; omega)))) | ((first | with_reducible (first | refine am_reg ?_ | refine am_drw ?_ | refine am_drx ?_ | refine am_skip ?_ | refine am_exit ?_ | refine am_ret ?_ | refine And.intro (by first | exact AH.lec_refl _ | assumption | exact AccP.lec (by assumption) | omega) ?_ | refine isnE_of (fun hc => ?_) (fun hc => ?_) (fun hc => ?_) | refine need_elems (by assumption) ?_ | refine vlen_acc (by assumption) ?_ | refine need_bytes (by assumption) ?_ | refine need_look (by repeat (first | assumption | exact AH.put_same _ _ _ | refine look_put ?_ (by assumption) | refine look_lec ?_ (by assumption))) ?_) | ((with_reducible (first | refine gd_not (fun hc => ?_) (fun hc => ?_) | refine gd_of (fun hc => ?_) (fun hc => ?_) | refine gq_not (fun hc => ?_) (fun hc => ?_) | refine gq_of (fun hc => ?_) (fun hc => ?_) | refine pickB_of (fun hc => ?_) (fun hc => ?_))) <;> (try simp -implicitDefEqProofs (disch := omega) only [go_sem, eq_self, decide_true, decide_false, Nat.reduceBEq, Nat.reduceAdd, Nat.reduceSub, Nat.reduceMul, Nat.reduceEqDiff, Nat.reduceLeDiff, Nat.reduceLT, Int.reduceLE, Int.reduceLT, Int.reduceToNat, Int.reduceAdd, Int.reduceEq, Int.reduceNeg, AH.put_ne, hc, wrap_id, strE_len]) <;> (try simp only [reduceCtorEq, decide_eq_true_eq, decide_eq_false_iff_not, Bool.or_eq_true, Bool.and_eq_true, Bool.or_eq_false_iff, Bool.not_eq_true', Bool.not_eq_false', beq_iff_eq] at hc) <;> (try (exfalso; omega))) | ((with_reducible refine alloc_intro (fun ko hko => ?_)) <;> (try have hne := fresh_ne (by assumption) hko) <;> (try have hnk := fresh_ne hk hko) <;> (try have hnk2 := fresh_ne hk2 hko) <;> (try simp only [AH.put_none] at hko)) | ((with_reducible (first | refine vapp_accL (by assumption) ?_ (fun v2 H2 hacc hlec => ?_) | refine vapp_accL (AccP.mono (by assumption) (AccP.le (by assumption))) ?_ (fun v2 H2 hacc hlec => ?_) | refine vapp_accL (AccP.new (by assumption) (by assumption) _) ?_ (fun v2 H2 hacc hlec => ?_))); · simp only [byteCells_length, List.length_cons, List.length_nil, List.length_map, List.length_append, vE_length, mE_length, strE_len, List.length_take]; omega)) <;> (try simp -implicitDefEqProofs (disch := omega) only [go_sem, eq_self, decide_true, decide_false, Nat.reduceBEq, Nat.reduceAdd, Nat.reduceSub, Nat.reduceMul, Nat.reduceEqDiff, Nat.reduceLeDiff, Nat.reduceLT, Int.reduceLE, Int.reduceLT, Int.reduceToNat, Int.reduceAdd, Int.reduceEq, Int.reduceNeg, AH.put_ne, wrap_id, strE_len])))
      all_goals (refine drop_end (by (first | exact fun _ _ h => h | (intro s x h; first | exact no_sub _ h | exact nil_no _ h | exact AccP.sub (by assumption) _ _ h | (refine agg_sub rfl ?_ x h; repeat (first | exact .nil | refine .cons (fun _ h => h) ?_ | refine .cons (fun _ h => nil_no _ h) ?_ | refine .cons (fun _ h => no_sub _ h) ?_ | refine .cons (fun _ h => AccP.sub (by assumption) _ _ h) ?_)) | (refine tuple_sub ?_ x h; repeat (first | exact .nil | refine .cons (fun _ h => h) ?_ | refine .cons (fun _ h => nil_no _ h) ?_ | refine .cons (fun _ h => no_sub _ h) ?_ | refine .cons (fun _ h => AccP.sub (by assumption) _ _ h) ?_ | refine .cons (fun _ h => agg_sub rfl (by repeat (first | exact .nil | refine .cons (fun _ h => h) ?_ | refine .cons (fun _ h => nil_no _ h) ?_ | refine .cons (fun _ h => no_sub _ h) ?_ | refine .cons (fun _ h => AccP.sub (by assumption) _ _ h) ?_)) _ h) ?_))))) (by (repeat (first | exact AH.le_refl _ | assumption | exact AccP.le (by assumption) | refine AH.le_put ?_ (by first | assumption | exact none_of_le (by assumption) (by assumption) | exact And.right (by assumption) | exact And.right (And.right (by assumption))) _ | refine AH.le_trans ?_ (AccP.le (by assumption))))))
  · by_cases hm2 : ∃ l, v = .list l
    · obtain ⟨l, rfl⟩ := hm2
      have hl : l.length * 16 ≤ 140000000000000 := by cases ho; omega
      rw [vV_list]
      repeat' (first | with_reducible (first | refine am_seq ?_ | refine am_block ?_) | ((with_reducible apply am_cond); (case hb => rfl); all_goals (intro hc; (try simp only [reduceCtorEq, decide_eq_true_eq, decide_eq_false_iff_not, Bool.or_eq_true, Bool.and_eq_true, Bool.or_eq_false_iff, Bool.not_eq_true', Bool.not_eq_false', beq_iff_eq] at hc); (try (exfalso; omega)))) | ((first | with_reducible (first | refine am_reg ?_ | refine am_drw ?_ | refine am_drx ?_ | refine am_skip ?_ | refine am_exit ?_ | refine am_ret ?_ | refine And.intro (by first | exact AH.lec_refl _ | assumption | exact AccP.lec (by assumption) | omega) ?_ | refine isnE_of (fun hc => ?_) (fun hc => ?_) (fun hc => ?_) | refine need_elems (by assumption) ?_ | refine vlen_acc (by assumption) ?_ | refine need_bytes (by assumption) ?_ | refine call_of (clonel_calls hl) ?_ | refine qcall_of (clonel_calls hl) ?_ | refine need_look (by repeat (first | assumption | exact AH.put_same _ _ _ | refine look_put ?_ (by assumption) | refine look_lec ?_ (by assumption))) ?_) | ((with_reducible (first | refine gd_not (fun hc => ?_) (fun hc => ?_) | refine gd_of (fun hc => ?_) (fun hc => ?_) | refine gq_not (fun hc => ?_) (fun hc => ?_) | refine gq_of (fun hc => ?_) (fun hc => ?_) | refine pickB_of (fun hc => ?_) (fun hc => ?_))) <;> (try simp -implicitDefEqProofs (disch := omega) only [go_sem, eq_self, decide_true, decide_false, Nat.reduceBEq, Nat.reduceAdd, Nat.reduceSub, Nat.reduceMul, Nat.reduceEqDiff, Nat.reduceLeDiff, Nat.reduceLT, Int.reduceLE, Int.reduceLT, Int.reduceToNat, Int.reduceAdd, Int.reduceEq, Int.reduceNeg, AH.put_ne, hc, true_or, or_true, true_and]) <;> (try simp only [reduceCtorEq, decide_eq_true_eq, decide_eq_false_iff_not, Bool.or_eq_true, Bool.and_eq_true, Bool.or_eq_false_iff, Bool.not_eq_true', Bool.not_eq_false', beq_iff_eq] at hc) <;> (try (exfalso; omega))) | ((with_reducible refine alloc_intro (fun ko hko => ?_)) <;> (try have hne := fresh_ne (by assumption) hko) <;> (try have hnk := fresh_ne hk hko) <;> (try have hnk2 := fresh_ne hk2 hko) <;> (try simp only [AH.put_none] at hko)) | ((with_reducible (first | refine vapp_accL (by assumption) ?_ (fun v2 H2 hacc hlec => ?_) | refine vapp_accL (AccP.mono (by assumption) (AccP.le (by assumption))) ?_ (fun v2 H2 hacc hlec => ?_) | refine vapp_accL (AccP.new (by assumption) (by assumption) _) ?_ (fun v2 H2 hacc hlec => ?_))); · simp only [byteCells_length, List.length_cons, List.length_nil, List.length_map, List.length_append, vE_length, mE_length, strE_len, List.length_take]; omega)) <;> (try simp -implicitDefEqProofs (disch := omega) only [go_sem, eq_self, decide_true, decide_false, Nat.reduceBEq, Nat.reduceAdd, Nat.reduceSub, Nat.reduceMul, Nat.reduceEqDiff, Nat.reduceLeDiff, Nat.reduceLT, Int.reduceLE, Int.reduceLT, Int.reduceToNat, Int.reduceAdd, Int.reduceEq, Int.reduceNeg, AH.put_ne, true_or, or_true, true_and])))
      all_goals (refine drop_end (by (first | exact fun _ _ h => h | (intro s x h; first | exact no_sub _ h | exact nil_no _ h | exact AccP.sub (by assumption) _ _ h | (refine agg_sub rfl ?_ x h; repeat (first | exact .nil | refine .cons (fun _ h => h) ?_ | refine .cons (fun _ h => nil_no _ h) ?_ | refine .cons (fun _ h => no_sub _ h) ?_ | refine .cons (fun _ h => AccP.sub (by assumption) _ _ h) ?_)) | (refine tuple_sub ?_ x h; repeat (first | exact .nil | refine .cons (fun _ h => h) ?_ | refine .cons (fun _ h => nil_no _ h) ?_ | refine .cons (fun _ h => no_sub _ h) ?_ | refine .cons (fun _ h => AccP.sub (by assumption) _ _ h) ?_ | refine .cons (fun _ h => agg_sub rfl (by repeat (first | exact .nil | refine .cons (fun _ h => h) ?_ | refine .cons (fun _ h => nil_no _ h) ?_ | refine .cons (fun _ h => no_sub _ h) ?_ | refine .cons (fun _ h => AccP.sub (by assumption) _ _ h) ?_)) _ h) ?_))))) (by (repeat (first | exact AH.le_refl _ | assumption | exact AccP.le (by assumption) | refine AH.le_put ?_ (by first | assumption | exact none_of_le (by assumption) (by assumption) | exact And.right (by assumption) | exact And.right (And.right (by assumption))) _ | refine AH.le_trans ?_ (AccP.le (by assumption))))))
    · have hk := fun H hg => keys_calls (g := g) ho (H := H) hg
      have hi : v.items = [] := by cases v <;> first | rfl | exact absurd ⟨_, rfl⟩ hm | exact absurd ⟨_, rfl⟩ hm2
      rw [hi, nil_vE]
      cases v
      case map es => exact absurd ⟨_, rfl⟩ hm
      case list es => exact absurd ⟨_, rfl⟩ hm2
      all_goals simp only [vV_nul, vV_unk, vV_bool, vV_int, vV_pt, vV_text, vV_list, vV_map] at hk ⊢
      repeat' (first | with_reducible (first | refine am_seq ?_ | refine am_block ?_) | ((with_reducible apply am_cond); (case hb => rfl); all_goals (intro hc; (try simp only [reduceCtorEq, decide_eq_true_eq, decide_eq_false_iff_not, Bool.or_eq_true, Bool.and_eq_true, Bool.or_eq_false_iff, Bool.not_eq_true', Bool.not_eq_false', beq_iff_eq] at hc); (try (exfalso; omega)))) | ((first | with_reducible (first | refine am_reg ?_ | refine am_drw ?_ | refine am_drx ?_ | refine am_skip ?_ | refine am_exit ?_ | refine am_ret ?_ | refine And.intro (by first | exact AH.lec_refl _ | assumption | exact AccP.lec (by assumption) | omega) ?_ | refine isnE_of (fun hc => ?_) (fun hc => ?_) (fun hc => ?_) | refine need_elems (by assumption) ?_ | refine vlen_acc (by assumption) ?_ | refine need_bytes (by assumption) ?_ | refine call_turn (hk _ hg) ?_ | refine need_look (by repeat (first | assumption | exact AH.put_same _ _ _ | refine look_put ?_ (by assumption) | refine look_lec ?_ (by assumption))) ?_) | ((with_reducible (first | refine gd_not (fun hc => ?_) (fun hc => ?_) | refine gd_of (fun hc => ?_) (fun hc => ?_) | refine gq_not (fun hc => ?_) (fun hc => ?_) | refine gq_of (fun hc => ?_) (fun hc => ?_) | refine pickB_of (fun hc => ?_) (fun hc => ?_))) <;> (try simp -implicitDefEqProofs (disch := omega) only [go_sem, eq_self, decide_true, decide_false, Nat.reduceBEq, Nat.reduceAdd, Nat.reduceSub, Nat.reduceMul, Nat.reduceEqDiff, Nat.reduceLeDiff, Nat.reduceLT, Int.reduceLE, Int.reduceLT, Int.reduceToNat, Int.reduceAdd, Int.reduceEq, Int.reduceNeg, AH.put_ne, hc, true_or, or_true, true_and, strE_len, Vl.keys, List.length_nil]) <;> (try simp only [reduceCtorEq, decide_eq_true_eq, decide_eq_false_iff_not, Bool.or_eq_true, Bool.and_eq_true, Bool.or_eq_false_iff, Bool.not_eq_true', Bool.not_eq_false', beq_iff_eq] at hc) <;> (try (exfalso; omega))) | ((with_reducible refine alloc_intro (fun ko hko => ?_)) <;> (try have hne := fresh_ne (by assumption) hko) <;> (try have hnk := fresh_ne hk hko) <;> (try have hnk2 := fresh_ne hk2 hko) <;> (try simp only [AH.put_none] at hko)) | ((with_reducible (first | refine vapp_accL (by assumption) ?_ (fun v2 H2 hacc hlec => ?_) | refine vapp_accL (AccP.mono (by assumption) (AccP.le (by assumption))) ?_ (fun v2 H2 hacc hlec => ?_) | refine vapp_accL (AccP.new (by assumption) (by assumption) _) ?_ (fun v2 H2 hacc hlec => ?_))); · simp only [byteCells_length, List.length_cons, List.length_nil, List.length_map, List.length_append, vE_length, mE_length, strE_len, List.length_take]; omega)) <;> (try simp -implicitDefEqProofs (disch := omega) only [go_sem, eq_self, decide_true, decide_false, Nat.reduceBEq, Nat.reduceAdd, Nat.reduceSub, Nat.reduceMul, Nat.reduceEqDiff, Nat.reduceLeDiff, Nat.reduceLT, Int.reduceLE, Int.reduceLT, Int.reduceToNat, Int.reduceAdd, Int.reduceEq, Int.reduceNeg, AH.put_ne, true_or, or_true, true_and, strE_len, Vl.keys, List.length_nil])))
      all_goals
        refine am_loop (fun n a H' => a = [(5, .nilSl), (6, .nilMap), (26, .sl 1 (strE []) .no), (27, .int .i64 (0 : Nat)), (28, .int .i64 (0 : Nat))] ∧ H' = H) ?_ 0 ⟨rfl, rfl⟩
        rintro n a H' ⟨rfl, rfl⟩
        repeat' (first | with_reducible (first | refine am_seq ?_ | refine am_block ?_) | ((with_reducible apply am_cond); (case hb => rfl); all_goals (intro hc; (try simp only [reduceCtorEq, decide_eq_true_eq, decide_eq_false_iff_not, Bool.or_eq_true, Bool.and_eq_true, Bool.or_eq_false_iff, Bool.not_eq_true', Bool.not_eq_false', beq_iff_eq] at hc); (try (exfalso; omega)))) | ((first | with_reducible (first | refine am_reg ?_ | refine am_drw ?_ | refine am_drx ?_ | refine am_skip ?_ | refine am_exit ?_ | refine am_ret ?_ | refine And.intro (by first | exact AH.lec_refl _ | assumption | exact AccP.lec (by assumption) | omega) ?_ | refine isnE_of (fun hc => ?_) (fun hc => ?_) (fun hc => ?_) | refine need_elems (by assumption) ?_ | refine vlen_acc (by assumption) ?_ | refine need_bytes (by assumption) ?_ | refine need_look (by repeat (first | assumption | exact AH.put_same _ _ _ | refine look_put ?_ (by assumption) | refine look_lec ?_ (by assumption))) ?_) | ((with_reducible (first | refine gd_not (fun hc => ?_) (fun hc => ?_) | refine gd_of (fun hc => ?_) (fun hc => ?_) | refine gq_not (fun hc => ?_) (fun hc => ?_) | refine gq_of (fun hc => ?_) (fun hc => ?_) | refine pickB_of (fun hc => ?_) (fun hc => ?_))) <;> (try simp -implicitDefEqProofs (disch := omega) only [go_sem, eq_self, decide_true, decide_false, Nat.reduceBEq, Nat.reduceAdd, Nat.reduceSub, Nat.reduceMul, Nat.reduceEqDiff, Nat.reduceLeDiff, Nat.reduceLT, Int.reduceLE, Int.reduceLT, Int.reduceToNat, Int.reduceAdd, Int.reduceEq, Int.reduceNeg, AH.put_ne, hc, wrap_id]) <;> (try simp only [reduceCtorEq, decide_eq_true_eq, decide_eq_false_iff_not, Bool.or_eq_true, Bool.and_eq_true, Bool.or_eq_false_iff, Bool.not_eq_true', Bool.not_eq_false', beq_iff_eq] at hc) <;> (try (exfalso; omega))) | ((with_reducible refine alloc_intro (fun ko hko => ?_)) <;> (try have hne := fresh_ne (by assumption) hko) <;> (try have hnk := fresh_ne hk hko) <;> (try have hnk2 := fresh_ne hk2 hko) <;> (try simp only [AH.put_none] at hko)) | ((with_reducible (first | refine vapp_accL (by assumption) ?_ (fun v2 H2 hacc hlec => ?_) | refine vapp_accL (AccP.mono (by assumption) (AccP.le (by assumption))) ?_ (fun v2 H2 hacc hlec => ?_) | refine vapp_accL (AccP.new (by assumption) (by assumption) _) ?_ (fun v2 H2 hacc hlec => ?_))); · simp only [byteCells_length, List.length_cons, List.length_nil, List.length_map, List.length_append, vE_length, mE_length, strE_len, List.length_take]; omega)) <;> (try simp -implicitDefEqProofs (disch := omega) only [go_sem, eq_self, decide_true, decide_false, Nat.reduceBEq, Nat.reduceAdd, Nat.reduceSub, Nat.reduceMul, Nat.reduceEqDiff, Nat.reduceLeDiff, Nat.reduceLT, Int.reduceLE, Int.reduceLT, Int.reduceToNat, Int.reduceAdd, Int.reduceEq, Int.reduceNeg, AH.put_ne, wrap_id])))
        all_goals (refine drop_end (by (first | exact fun _ _ h => h | (intro s x h; first | exact no_sub _ h | exact nil_no _ h | exact AccP.sub (by assumption) _ _ h | (refine agg_sub rfl ?_ x h; repeat (first | exact .nil | refine .cons (fun _ h => h) ?_ | refine .cons (fun _ h => nil_no _ h) ?_ | refine .cons (fun _ h => no_sub _ h) ?_ | refine .cons (fun _ h => AccP.sub (by assumption) _ _ h) ?_)) | (refine tuple_sub ?_ x h; repeat (first | exact .nil | refine .cons (fun _ h => h) ?_ | refine .cons (fun _ h => nil_no _ h) ?_ | refine .cons (fun _ h => no_sub _ h) ?_ | refine .cons (fun _ h => AccP.sub (by assumption) _ _ h) ?_ | refine .cons (fun _ h => agg_sub rfl (by repeat (first | exact .nil | refine .cons (fun _ h => h) ?_ | refine .cons (fun _ h => nil_no _ h) ?_ | refine .cons (fun _ h => no_sub _ h) ?_ | refine .cons (fun _ h => AccP.sub (by assumption) _ _ h) ?_)) _ h) ?_))))) (by (repeat (first | exact AH.le_refl _ | assumption | exact AccP.le (by assumption) | refine AH.le_put ?_ (by first | assumption | exact none_of_le (by assumption) (by assumption) | exact And.right (by assumption) | exact And.right (And.right (by assumption))) _ | refine AH.le_trans ?_ (AccP.le (by assumption))))))
end Go.Proofs.Ytjlphncecdlmcaa
