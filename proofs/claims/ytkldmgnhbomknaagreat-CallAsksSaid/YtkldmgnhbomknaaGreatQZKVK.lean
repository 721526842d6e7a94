/- slices.Sorted over the keys of a map that is not written any more: the shelf's contract, over the abstract heap. -/
import Derived.Test.YtkldmgnhbomknaaGreatVmR
import Derived.Test.YtkldmgnhbomknaaGreatQZKShk
set_option linter.unusedVariables false
set_option linter.unusedSimpArgs false
namespace Go.Proofs.YtkldmgnhbomknaaGreat
open Go.Vm Go.Proofs Go.Maps Go.Sort Go.Shelf Go.RowKit Go.MapKept
theorem sorts127 (m : Nat) : AnyZ.SortsIn Tryz.prog Tryz.sorted127_ren Fence.wide m :=
  ⟨fun blk off cap ss W hH hblk hsz => callsIn_wide.2 (AnyM.slices_Sort_string Tryz.sort148 blk off cap ss W hH hblk hsz),
   fun p cap W => callsIn_wide.2 (AnyM.slices_Sort_string_none Tryz.sort148 p cap W)⟩
abbrev anyR : Value → Option (DataW Unit × List MemPlace) := fun _ => some (.lit (.bool true),[])
def strE (l : List (List UInt8)) : List (List V) := l.map fun x => [.str x]
theorem strE_len (l : List (List UInt8)) : (strE l).length = l.length := by simp [strE]
theorem ents_keys {s : St} : ∀ (ks : List (List UInt8)) (es : List (V × V)) (ms : List MapEntry),Holds s (.ents es ms) → es.map Prod.fst = ks.map V.str → ms.map (·.key) = ks.map fun k => Value.string ⟨k.toArray⟩
  | [],es,ms,h,e => by
    cases es with
    | nil => cases h; rfl
    | cons => cases e
  | k :: ks,es,ms,h,e => by
    cases es with
    | nil => cases e
    | cons p es =>
      obtain ⟨p1,p2⟩ := p
      simp only [List.map_cons,List.cons.injEq] at e
      obtain ⟨rfl,e⟩ := e
      cases h with
      | entsCons _ _ m _ ms h1 h2 h3 =>
        rw [List.map_cons,List.map_cons,ents_keys ks es ms h3 e,inv_str h1]
theorem key_str {k : List UInt8} (h : k.length ≤ maxLen) : keyOf Tryz.prog 9 (.string ⟨k.toArray⟩) = some (.string k) := by
  simpa using Go.WideMaps.keyOf_string_mk (P := Tryz.prog) Tryz.underlying9 (s := ⟨k.toArray⟩) (by simpa [ByteArray.size] using h)
theorem rg_keys : ∀ (ms : List MapEntry) (ks : List (List UInt8)),(∀ k ∈ ks,k.length ≤ maxLen) → ms.map (·.key) = (ks.map fun k => Value.string ⟨k.toArray⟩) → (ms.map (Go.WideElems.rg Tryz.prog 9 anyR)).map (fun p => strOf p.1) = ks
  | [],ks,_,e => by
    cases ks with
    | nil => rfl
    | cons => cases e
  | m :: ms,ks,hl,e => by
    cases ks with
    | nil => cases e
    | cons k ks =>
      simp only [List.map_cons,List.cons.injEq] at e
      have hm : Go.WideElems.rg Tryz.prog 9 anyR m = (.string k,.lit (.bool true)) := by
        simp [Go.WideElems.rg,Go.WideElems.rd,e.1,key_str (hl k List.mem_cons_self),anyR]
      rw [List.map_cons,List.map_cons,hm,rg_keys ms ks (fun x hx => hl x (List.mem_cons_of_mem _ hx)) e.2]
      rfl
theorem els_sorted {s : St} {b : Nat} {T : TypeId} {fr : Nat × Nat} {cur : Array Value} (hb : s.w.heap[b]? = some (.cells cur T fr)) (hn : s.role b = none) : ∀ (ss : List (List UInt8)) (o : Nat),(∀ i (h : i < ss.length),cur[o + i]? = some (encStr ss[i])) → Holds s (.els b o 1 (strE ss))
  | [],o,_ => .elsNil b o 1
  | x :: ss,o,h => by
    refine .elsCons b o 1 [.str x] (strE ss) rfl (.rowCons b o (.str x) _ [] rfl ⟨?_,fun k e he => by rw [hn] at he; cases he⟩ (Holds.str x) (.rowNil _ _)) ?_
    · rw [obj_cell hb]
      have := h 0 (by simp)
      simpa [encStr] using this
    · refine els_sorted hb hn ss (o + 1) (fun i hi => ?_)
      have := h (i + 1) (by simpa using hi)
      rw [show o + 1 + i = o + (i + 1) by omega]
      simpa using this
theorem below_ext {s : St} {w' : World} (hd : s.dr = false) (hb : Below s.w.heap.size s.w w') : Ext s { s with w := w' } := by
  refine ⟨hb.os,hb.tape,hb.output,⟨rfl,fun h => by rw [hd] at h; cases h⟩,hb.size,fun c hc h => ⟨h,hb.block c hc⟩,fun c i e hc h => ⟨.inr ⟨e,Nat.le_refl _,h⟩,fun o ho => cell_of_block (hb.block c hc) o⟩,fun _ _ h => h,fun _ st h => ⟨st,h,.inl rfl⟩,Nat.le_refl _⟩
theorem below_rel {s : St} {H : AH} {w' : World} (hr : HRel s H) (hd : s.dr = false) (hb : Below s.w.heap.size s.w w') : HRel { s with w := w' } H := by
  refine ⟨fun k o hk => ORel.keep (below_ext hd hb) (fun c e he => ⟨rfl,hb.block c (hr.role c k e he).2⟩) rfl (hr.obj k o hk),hr.lt,hr.blk,hr.tok,fun c i e he => ⟨(hr.role c i e he).1,Nat.lt_of_lt_of_le (hr.role c i e he).2 hb.size⟩⟩
theorem fresh_role {s : St} {H : AH} (hr : HRel s H) {b : Nat} (h : s.w.heap.size ≤ b) : s.role b = none := by
  cases e : s.role b with
  | none => rfl
  | some p => exact absurd (hr.role b p.1 p.2 e).2 (by omega)
theorem sorted_calls {g ko : Nat} {es : List (V × V)} {ks : List (List UInt8)} {H : AH} (hg : H g = some .nodr) (hko : H ko = some (.cells [.mapv es])) (hk : es.map Prod.fst = ks.map V.str) (hn : ks.Nodup) (hl : ∀ k ∈ ks,k.length ≤ maxLen) (hb : ks.length * 16 ≤ 140737488355328) :
    ACalls Tryz.prog 64 [.func (.func 84) [] [.ptr ko 0]] H (fun o H' => o = .ret (.sl 1 (strE (ks.mergeSort leB)) .no) ∧ H' = H) := by
  intro s xs hr hv
  have hd : s.dr = false := hr.obj g _ hg
  obtain ⟨B,ys,zs,T,fr,t1,t2,t3,t4,t5,t6⟩ := hr.obj ko _ hko
  cases hv with
  | cons _ x _ xs h1 h2 =>
    cases h2
    obtain ⟨us,vs,u1,u2,rfl⟩ := inv_func h1
    cases u1
    cases u2 with
    | cons _ y _ vs v1 v2 =>
      cases v2
      obtain ⟨B',e1,rfl⟩ := inv_ptr v1
      rw [t1] at e1; cases e1
      generalize hys : ys.toList = yl at *
      cases t5 with
      | cons _ y _ yl p1 p2 =>
        cases p2
        cases p1 with
        | mapv _ b ms clock q1 q2 q3 q4 q5 q6 =>
          have hkey := ents_keys ks es ms.toList q4 hk
          have hml : ms.toList.length = ks.length := by
            have := congrArg List.length hkey
            simpa using this
          have hmc : s.w.cell? ⟨B,0,none⟩ = some (.map (some b)) := by
            rw [obj_cell t3]
            rw [← Array.getElem?_toList,Array.toList_append,hys]
            rfl
          have hmax : (9223372036854775807 : Nat) = maxLen := rfl
          have hkN : (ms.toList.map (·.key)).Nodup := by
            rw [hkey]
            refine List.pairwise_map.2 (hn.imp fun hne e => hne ?_)
            simpa using e
          have hfit : Go.WideElems.Fit Tryz.prog 9 anyR ms clock := by
            refine ⟨by rw [← Array.length_toList]; omega,⟨q5,q6,hkN⟩,fun m hm => ?_⟩
            have : m.key ∈ ms.toList.map (·.key) := List.mem_map_of_mem hm
            rw [hkey,List.mem_map] at this
            obtain ⟨k,hk1,hk2⟩ := this
            exact ⟨(.string k,.lit (.bool true)),by simp [Go.WideElems.rd,← hk2,key_str (hl k hk1),anyR]⟩
          have hown : s.w.ownsMap Tryz.prog 9 anyR b ms.size (.map ((ms.toList.map (Go.WideElems.rg Tryz.prog 9 anyR)).foldr DataW.insert [])) := ⟨ms,clock,q3,hfit,Nat.le_refl _,rfl⟩
          have hperm : (strKeys (H := Unit) (.map ((ms.toList.map (Go.WideElems.rg Tryz.prog 9 anyR)).foldr DataW.insert []))).Perm ks := by
            have := ((Go.WideShapes.sorted_perm (ms.toList.map (Go.WideElems.rg Tryz.prog 9 anyR))).map fun p => strOf p.1)
            rwa [rg_keys ms.toList ks hl hkey] at this
          have hsz : Maps.size (H := Unit) (.map ((ms.toList.map (Go.WideElems.rg Tryz.prog 9 anyR)).foldr DataW.insert [])) = ks.length := by
            have := (Go.WideShapes.sorted_perm (ms.toList.map (Go.WideElems.rg Tryz.prog 9 anyR))).length_eq
            simpa [Maps.size_eq,hml] using this
          generalize (DataW.map ((ms.toList.map (Go.WideElems.rg Tryz.prog 9 anyR)).foldr DataW.insert []) : DataW Unit) = D0 at *
          have hseq : SeqGives Fence.wide 2 Tryz.prog 84 #[.pointer (some ⟨B,0,none⟩)] encStr (fun ss => ss.Perm (strKeys D0)) (Maps.size D0) s.w :=
            AnyZ.keys_gives (ρ := Tryz.keys128_ren) { Tryz.keys128 with } Fence.wide 2 trivial rfl (by omega) B b ms.size D0 s.w (hr.role B ko 0 t2).2 hmc hown
          have hS := AnyZ.sorted_in Tryz.sorted127 Fence.wide 5 trivial trivial trivial trivial rfl (by omega) (sorts127 _) (enters_of Tryz.func83 (by kernel_rfl) rfl) 84 #[.pointer (some ⟨B,0,none⟩)] trivial (enters_of Tryz.func84 (by kernel_rfl) rfl) _ _ (by rw [hsz]; omega) (by rw [hsz]; exact hb) _ hseq
          refine Calls.mono (callsIn_wide.1 hS) ?_
          rintro e w' ⟨v,ss,rfl,hss,hrow,hnil,hbel⟩
          have hss2 : ss.mergeSort leB = ks.mergeSort leB := mergeSort_of_perm (hss.trans hperm)
          have hx := below_ext hd hbel
          have hr' := below_rel hr hd hbel
          have hle : ss.length = ks.length := (hss.trans hperm).length_eq
          refine ⟨{ s with w := w' },H,.ret _,rfl,hx,hr',?_,rfl,rfl⟩
          rcases hrow.2 with ⟨rfl,hz⟩ | ⟨gb,cap,cur,rfl,hbase,hgb,r1,r2,r3,r4⟩
          · have : ks = [] := List.eq_nil_of_length_eq_zero (by omega)
            subst this
            show Holds _ _
            simpa [strE] using Holds.slNil (s := { s with w := w' }) 1 .no trivial
          · have hgl := fresh_role hr hbase
            have e3 : (strE (ks.mergeSort leB)).length = ss.length := by rw [strE_len,List.length_mergeSort,hle]
            rw [← e3]
            refine Holds.sl 1 _ .no gb 0 cap (els_sorted (s := { s with w := w' }) hgb hgl _ 0 fun i hi => ?_) (by rw [e3]; exact r1) trivial
            have r5 : cur.toList.take (ss.length * 1) = (ks.mergeSort leB).map encStr := by rw [r4,← hss2]
            have hi2 : i < ss.length := by rw [List.length_mergeSort] at hi; omega
            have := congrArg (fun l => l[i]?) r5
            simp only [List.getElem?_take,List.getElem?_map] at this
            rw [if_pos (by omega),List.getElem?_eq_getElem hi] at this
            simpa using this
theorem sorted_nil_calls {g ko : Nat} {H : AH} (hg : H g = some .nodr) (hko : H ko = some (.cells [.nilMap])) :
    ACalls Tryz.prog 64 [.func (.func 84) [] [.ptr ko 0]] H (fun o H' => o = .ret (.sl 1 (strE []) .no) ∧ H' = H) := by
  intro s xs hr hv
  have hd : s.dr = false := hr.obj g _ hg
  obtain ⟨B,ys,zs,T,fr,t1,t2,t3,t4,t5,t6⟩ := hr.obj ko _ hko
  cases hv with
  | cons _ x _ xs h1 h2 =>
    cases h2
    obtain ⟨us,vs,u1,u2,rfl⟩ := inv_func h1
    cases u1
    cases u2 with
    | cons _ y _ vs v1 v2 =>
      cases v2
      obtain ⟨B',e1,rfl⟩ := inv_ptr v1
      rw [t1] at e1; cases e1
      generalize hys : ys.toList = yl at *
      cases t5 with
      | cons _ y _ yl p1 p2 =>
        cases p2
        cases p1
        have hmc : s.w.cell? ⟨B,0,none⟩ = some (.map none) := by
          rw [obj_cell t3]
          rw [← Array.getElem?_toList,Array.toList_append,hys]
          rfl
        have hseq : SeqGives Fence.wide 2 Tryz.prog 84 #[.pointer (some ⟨B,0,none⟩)] encStr (fun ss : List (List UInt8) => ss = []) 0 s.w :=
          AnyZ.keys_gives_nil (ρ := Tryz.keys128_ren) { Tryz.keys128 with } Fence.wide 2 trivial rfl B s.w (hr.role B ko 0 t2).2 hmc
        have hS := AnyZ.sorted_in Tryz.sorted127 Fence.wide 5 trivial trivial trivial trivial rfl (by omega) (sorts127 _) (enters_of Tryz.func83 (by kernel_rfl) rfl) 84 #[.pointer (some ⟨B,0,none⟩)] trivial (enters_of Tryz.func84 (by kernel_rfl) rfl) _ 0 (Nat.zero_le _) (by omega) _ hseq
        refine Calls.mono (callsIn_wide.1 hS) ?_
        rintro e w' ⟨v,ss,rfl,rfl,hrow,hnil,hbel⟩
        have hx := below_ext hd hbel
        have hr' := below_rel hr hd hbel
        refine ⟨{ s with w := w' },H,.ret _,rfl,hx,hr',?_,rfl,rfl⟩
        rw [hnil.2 rfl]
        exact Holds.slNil (s := { s with w := w' }) 1 .no trivial
end Go.Proofs.YtkldmgnhbomknaaGreat
