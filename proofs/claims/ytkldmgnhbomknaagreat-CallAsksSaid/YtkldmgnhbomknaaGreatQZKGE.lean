/- Contracts of functions of the given program. Conditions: as each theorem says. -/
import Derived.Test.YtkldmgnhbomknaaGreatQZKGD
set_option linter.unusedVariables false
set_option linter.unusedSimpArgs false
namespace Go.Proofs.YtkldmgnhbomknaaGreat
open Go.Vm Go.Sort
/-! The order of keys. -/
theorem lt_irr (a : List UInt8) : ¬ a < a := List.lt_irrefl a
theorem lt_tr {a b c : List UInt8} (h : a < b) (k : b < c) : a < c := List.lt_trans h k
theorem lt_of {a b : List UInt8} (h : ¬ a < b) (hne : a ≠ b) : b < a := by
  rcases List.le_total a b with h1 | h1
  · exact Classical.byContradiction fun h2 => hne (List.le_antisymm h1 h)
  · exact Classical.byContradiction fun h2 => hne (List.le_antisymm h2 h)
def Srt (l : Re) : Prop := l.Pairwise fun p q => p.1 < q.1
theorem posK_take (k : List UInt8) : ∀ (l : Re),∀ p ∈ l.take (posK k l),p.1 < k
  | [],p,hp => by simp at hp
  | q :: l,p,hp => by
    rw [posK] at hp
    split at hp
    · rename_i h
      rw [List.take_succ_cons] at hp
      rcases List.mem_cons.1 hp with rfl | hp
      · exact h
      · exact posK_take k l p hp
    · simp at hp
theorem posK_at (k : List UInt8) : ∀ (l : Re) (p : List UInt8 × Rv),l[posK k l]? = some p → ¬ p.1 < k
  | [],p,hp => by simp at hp
  | q :: l,p,hp => by
    rw [posK] at hp
    split at hp
    · exact posK_at k l p (by simpa using hp)
    · rename_i h
      simp at hp; subst hp; exact h
theorem insR_srt {l : Re} (h : Srt l) (k : List UInt8) (x : Rv) : Srt (insR l k x) := by
  unfold insR
  split
  · exact h
  · rename_i hne
    have hd : ∀ p ∈ l.drop (posK k l),k < p.1 := by
      intro p hp
      obtain ⟨j,hj,rfl⟩ := List.mem_iff_getElem.1 hp
      rw [List.length_drop] at hj
      have hlt : posK k l < l.length := by omega
      have h0 := posK_at k l _ (List.getElem?_eq_getElem hlt)
      have hk0 : k < l[posK k l].1 := lt_of h0 (fun e => hne (by rw [List.getElem?_eq_getElem hlt,Option.map_some,e]))
      rw [List.getElem_drop]
      by_cases hj0 : j = 0
      · subst hj0; simpa using hk0
      · exact lt_tr hk0 (List.pairwise_iff_getElem.1 h _ _ _ _ (by omega))
    refine List.pairwise_append.2 ⟨h.sublist (List.take_sublist _ _),List.pairwise_cons.2 ⟨hd,h.sublist (List.drop_sublist _ _)⟩,fun p hp q hq => ?_⟩
    have h1 := posK_take k l p hp
    rcases List.mem_cons.1 hq with rfl | hq
    · exact h1
    · exact lt_tr h1 (hd q hq)
theorem insR_mem {l : Re} {k : List UInt8} {x : Rv} {p : List UInt8 × Rv} (hp : p ∈ insR l k x) : p ∈ l ∨ p = (k,x) := by
  unfold insR at hp
  split at hp
  · exact .inl hp
  · rcases List.mem_append.1 hp with h | h
    · exact .inl (List.mem_of_mem_take h)
    · rcases List.mem_cons.1 h with h | h
      · exact .inr h
      · exact .inl (List.mem_of_mem_drop h)
theorem fold_srt (l : List (List UInt8 × Rv)) : ∀ acc : Re,Srt acc → Srt (l.foldl (fun acc p => insR acc p.1 p.2) acc) := by
  induction l with
  | nil => intro acc h; exact h
  | cons p l ih => intro acc h; exact ih _ (insR_srt h _ _)
theorem entR_srt (l : List (List UInt8 × Rv)) : Srt (entR l) := fold_srt l [] List.Pairwise.nil
theorem fold_mem (l : List (List UInt8 × Rv)) : ∀ (acc : Re) p,p ∈ l.foldl (fun acc p => insR acc p.1 p.2) acc → p ∈ acc ∨ p ∈ l := by
  induction l with
  | nil => intro acc p h; exact .inl h
  | cons q l ih =>
    intro acc p h
    rcases ih _ p h with h | h
    · rcases insR_mem h with h | h
      · exact .inl h
      · exact .inr (by rw [h]; exact List.mem_cons_self)
    · exact .inr (List.mem_cons_of_mem _ h)
theorem entR_mem {l : List (List UInt8 × Rv)} {p : List UInt8 × Rv} (h : p ∈ entR l) : p ∈ l := (fold_mem l [] p h).resolve_left (by simp)
theorem insR_length (l : Re) (k : List UInt8) (x : Rv) : (insR l k x).length ≤ l.length + 1 := by
  unfold insR
  split
  · omega
  · simp; omega
theorem fold_length (l : List (List UInt8 × Rv)) : ∀ acc : Re,(l.foldl (fun acc p => insR acc p.1 p.2) acc).length ≤ acc.length + l.length := by
  induction l with
  | nil => intro acc; simp
  | cons q l ih => intro acc; have := ih (insR acc q.1 q.2); have := insR_length acc q.1 q.2; simp only [List.foldl_cons,List.length_cons]; omega
theorem entR_length (l : List (List UInt8 × Rv)) : (entR l).length ≤ l.length := by
  have := fold_length l []
  simpa [entR] using this
theorem srt_nodup {l : Re} (h : Srt l) : (l.map Prod.fst).Nodup := by
  refine List.pairwise_map.2 (List.Pairwise.imp ?_ h)
  intro a b hlt e
  rw [e] at hlt
  exact lt_irr _ hlt
theorem kys_of {es : List (List UInt8 × Vl)} {ks : List (List UInt8)} (hp : (es.map Prod.fst).Perm ks) (hs : ks.Pairwise (· < ·)) : kys es = ks := by
  rw [kys,mergeSort_of_perm hp]
  refine List.mergeSort_of_pairwise (hs.imp fun {a b} h => ?_)
  simp only [leB,decide_eq_true_eq]
  exact fun h2 => lt_irr _ (lt_tr h h2)
end Go.Proofs.YtkldmgnhbomknaaGreat
namespace Go.Proofs.YtkldmgnhbomknaaGreat
open Go.Vm Go.Sort
theorem fnd_isSome (k : List UInt8) : ∀ es : List (List UInt8 × Vl),(fnd k es).isSome = true ↔ k ∈ es.map Prod.fst
  | [] => by simp [fnd]
  | p :: es => by
    rw [fnd,List.map_cons,List.mem_cons]
    split
    · rename_i h; simp [h]
    · rename_i h
      rw [fnd_isSome k es]
      constructor
      · exact .inr
      · rintro (h2 | h2)
        · exact absurd h2.symm h
        · exact h2
theorem fnd_of_mem {k : List UInt8} {x : Vl} : ∀ {es : List (List UInt8 × Vl)},(es.map Prod.fst).Nodup → (k,x) ∈ es → fnd k es = some x
  | [],_,h => by simp at h
  | p :: es,hn,h => by
    rw [List.map_cons,List.nodup_cons] at hn
    rw [fnd]
    rcases List.mem_cons.1 h with h | h
    · subst h; simp
    · rw [if_neg]
      · exact fnd_of_mem hn.2 h
      · intro e; exact hn.1 (by rw [e]; exact List.mem_map_of_mem (f := Prod.fst) h)
theorem mkR_spec : ∀ (l acc : List (List UInt8 × Vl)),(acc.map Prod.fst).Nodup → mkR acc l = if ((acc ++ l).map Prod.fst).Nodup then some (acc ++ l) else none
  | [],acc,h => by rw [mkR,List.append_nil,if_pos h]
  | p :: l,acc,h => by
    rw [mkR]
    by_cases hp : (fnd p.1 acc).isSome = true
    · rw [if_pos hp,if_neg]
      intro hn
      rw [List.map_append,List.nodup_append] at hn
      exact hn.2.2 p.1 ((fnd_isSome _ _).1 hp) p.1 (by simp) rfl
    · have hn : ((acc ++ [p]).map Prod.fst).Nodup := by
        rw [List.map_append,List.nodup_append]
        refine ⟨h,by simp,fun a ha b hb e => ?_⟩
        simp at hb; subst hb; subst e
        exact hp ((fnd_isSome _ _).2 ha)
      have := mkR_spec l (acc ++ [p]) hn
      rw [if_neg hp,this,List.append_assoc]; rfl
theorem mapR_ok {ks : List (List UInt8)} {l : List Vl} (hl : ks.length = l.length) (hn : ks.Nodup) : mapR ks l = (.map (ks.zip l),0) := by
  have := mkR_spec (ks.zip l) [] List.nodup_nil
  rw [List.nil_append,List.map_fst_zip (by omega),if_pos hn] at this
  unfold mapR
  rw [if_neg (by simpa using hl),this]
theorem mapR_twice {ks : List (List UInt8)} {l : List Vl} (hl : ks.length = l.length) (hn : ¬ ks.Nodup) : mapR ks l = (.nul,9) := by
  have := mkR_spec (ks.zip l) [] List.nodup_nil
  rw [List.nil_append,List.map_fst_zip (by omega),if_neg hn] at this
  unfold mapR
  rw [if_neg (by simpa using hl),this]
theorem smMap {z ent : Re} (hz : (z.map Prod.fst).Nodup) (hp : ent.Perm z) (hs : Srt ent) (hc : ∀ p ∈ ent,Sm (toV p.2) p.2) (B : Bool) (N M : Int) :
    Sm (.map (z.map fun p => (p.1,toV p.2))) (.mk 7 B N M [] (ent.map Prod.snd) (ent.map Prod.fst)) := by
  have hk : kys (z.map fun p => (p.1,toV p.2)) = ent.map Prod.fst := by
    refine kys_of ?_ (List.pairwise_map.2 hs)
    rw [List.map_map]
    exact (hp.map Prod.fst).symm
  have hi : (Vl.map (z.map fun p => (p.1,toV p.2))).items = ent.map fun p => toV p.2 := by
    rw [Vl.items,hk,List.map_map]
    apply List.map_congr_left
    intro p hp2
    have hm : (p.1,toV p.2) ∈ z.map fun p => (p.1,toV p.2) := List.mem_map_of_mem (f := fun p : List UInt8 × Rv => (p.1,toV p.2)) (hp.mem_iff.1 hp2)
    show look _ p.1 = _
    rw [look,fnd_of_mem (by rw [List.map_map]; exact hz) hm]; rfl
  refine .mk _ _ rfl rfl rfl (by rw [hi]; simp [Rv.L]) hk (fun h => by simp [Rv.K] at h) (fun h => by simp [Rv.K] at h) (fun i h h2 => ?_)
  have h3 : i < ent.length := by simpa [Rv.L] using h2
  have e1 : (Vl.map (z.map fun p => (p.1,toV p.2))).items[i] = toV ent[i].2 := by simp [hi]
  have e2 : (Rv.mk 7 B N M [] (ent.map Prod.snd) (ent.map Prod.fst)).L[i] = ent[i].2 := by simp [Rv.L]
  rw [e1,e2]
  exact hc _ (List.getElem_mem h3)
theorem cut_near (n : Int) : -9007199254740992 ≤ cutI n ∧ cutI n ≤ 9007199254740992 := by unfold cutI; omega
theorem near_cut {n : Int} : nearB (cutI n) = true := by have := cut_near n; simp [nearB,this.1,this.2]
theorem toV_mk (K : Int) (B : Bool) (N M : Int) (S : List UInt8) (L : List Rv) (Ks : List (List UInt8)) : toV (.mk K B N M S L Ks) = if K = 1 then .unk else if K = 2 then .bool B else if K = 3 then .int N else if K = 4 then ptV N M else if K = 5 then .text S else if K = 6 then .list (L.map toV) else if K = 7 then (mapR Ks (L.map toV)).1 else .nul := by
  rw [toV_eq]; rfl
theorem sm_leaf {v : Vl} {K N M : Int} {B : Bool} {S : List UInt8} (hK : v.kind = K) (hB : v.isB.1 = (decide (K = 2) && B)) (hS : v.isT.1 = S) (hi : v.items = []) (hk : v.keys = []) (hN : K = 3 → v.isI.1 = N) (hP : K = 4 → v.isP.1 = N ∧ v.isP.2.1 = M) : Sm v (.mk K B N M S [] []) := by
  refine .mk _ _ hK hB hS (by rw [hi]; rfl) hk hN hP (fun i h h2 => ?_)
  rw [hi] at h; simp at h
def entOf (r : Rv) : Re := entR (r.Keys.zip (r.L.map cleanR))
theorem entOf_mem {r : Rv} {p : List UInt8 × Rv} (h : p ∈ entOf r) : p.1 ∈ r.Keys ∧ ∃ x ∈ r.L,p.2 = cleanR x := by
  have := entR_mem h
  obtain ⟨h1,h2⟩ := List.of_mem_zip (show (p.1,p.2) ∈ _ from this)
  obtain ⟨x,hx,e⟩ := List.mem_map.1 h2
  exact ⟨h1,x,hx,e.symm⟩
theorem cleanR_7 {r : Rv} (h : r.K = 7) : cleanR r = .mk 7 false 0 0 [] ((entOf r).map Prod.snd) ((entOf r).map Prod.fst) := by rw [cleanR_eq]; simp [h,entOf]
theorem toV_clean7 {r : Rv} (h : r.K = 7) : toV (cleanR r) = .map ((entOf r).map fun p => (p.1,toV p.2)) := by
  rw [cleanR_7 h,toV_mk]
  simp only [Int.reduceEq,if_false,if_true]
  rw [mapR_ok (by simp) (srt_nodup (show Srt (entOf r) from entR_srt _))]
  rw [List.map_map,List.zip_map']
  rfl
theorem sm_clean : ∀ r : Rv,Sm (toV (cleanR r)) (cleanR r) := by
  refine Rv.ind fun r ih => ?_
  by_cases h7 : r.K = 7
  · rw [toV_clean7 h7,cleanR_7 h7]
    refine smMap (srt_nodup (entR_srt _)) (List.Perm.refl _) (entR_srt _) (fun p hp => ?_) _ _ _
    obtain ⟨_,x,hx,e⟩ := entOf_mem hp
    rw [e]; exact ih x hx
  by_cases h6 : r.K = 6
  · have e : cleanR r = .mk 6 false 0 0 [] (r.L.map cleanR) [] := by rw [cleanR_eq]; simp [h6]
    rw [e,toV_mk]
    simp only [Int.reduceEq,if_false,if_true]
    refine .mk _ _ rfl (by simp [Vl.isB,Rv.K]) rfl (by simp [Vl.items,Rv.L]) rfl (fun h => by simp [Rv.K] at h) (fun h => by simp [Rv.K] at h) (fun i h h2 => ?_)
    have h3 : i < r.L.length := by simpa [Rv.L] using h2
    have e1 : (Vl.list ((r.L.map cleanR).map toV)).items[i] = toV (cleanR r.L[i]) := by simp [Vl.items]
    have e2 : (Rv.mk 6 false 0 0 [] (r.L.map cleanR) []).L[i] = cleanR r.L[i] := by simp [Rv.L]
    rw [e1,e2]; exact ih _ (List.getElem_mem h3)
  by_cases h1 : r.K = 1
  · have e : cleanR r = .mk 1 false 0 0 [] [] [] := by rw [cleanR_eq]; simp [h1]
    rw [e,toV_mk]; exact sm_leaf rfl rfl rfl rfl rfl (fun h => by simp at h) (fun h => by simp at h)
  by_cases h2 : r.K = 2
  · have e : cleanR r = .mk 2 r.B 0 0 [] [] [] := by rw [cleanR_eq]; simp [h2]
    rw [e,toV_mk]; exact sm_leaf rfl (by simp [Vl.isB]) rfl rfl rfl (fun h => by simp at h) (fun h => by simp at h)
  by_cases h3 : r.K = 3
  · have e : cleanR r = .mk 3 false r.N 0 [] [] [] := by rw [cleanR_eq]; simp [h3]
    rw [e,toV_mk]; exact sm_leaf rfl rfl rfl rfl rfl (fun h => rfl) (fun h => by simp at h)
  by_cases h4 : r.K = 4
  · have e : cleanR r = .mk 4 false (cutI r.N) (cutI r.M) [] [] [] := by rw [cleanR_eq]; simp [h4]
    rw [e,toV_mk]
    simp only [Int.reduceEq,if_false,if_true,ptV,near_cut,Bool.and_self]
    exact sm_leaf rfl rfl rfl rfl rfl (fun h => by simp at h) (fun h => ⟨rfl,rfl⟩)
  by_cases h5 : r.K = 5
  · have e : cleanR r = .mk 5 false 0 0 r.S [] [] := by rw [cleanR_eq]; simp [h5]
    rw [e,toV_mk]; exact sm_leaf rfl rfl rfl rfl rfl (fun h => by simp at h) (fun h => by simp at h)
  · have e : cleanR r = .mk 0 false 0 0 [] [] [] := by rw [cleanR_eq]; simp [*]
    rw [e,toV_mk]; exact sm_leaf rfl rfl rfl rfl rfl (fun h => by simp at h) (fun h => by simp at h)
theorem ok_clean : ∀ r : Rv,r.Fit → (toV (cleanR r)).Ok := by
  refine Rv.ind fun r ih hf => ?_
  have hl := hf.l
  by_cases h7 : r.K = 7
  · rw [toV_clean7 h7]
    have hlen : (entOf r).length ≤ r.L.length := by
      have := entR_length (r.Keys.zip (r.L.map cleanR))
      rw [List.length_zip,List.length_map] at this
      unfold entOf; omega
    refine .map _ (by rw [List.length_map]; omega) (by rw [List.map_map]; exact srt_nodup (entR_srt _)) (fun p hp => ?_) (fun p hp => ?_)
    · obtain ⟨q,hq,rfl⟩ := List.mem_map.1 hp
      have := hf.kl q.1 (entOf_mem hq).1
      show q.1.length ≤ _
      omega
    · obtain ⟨q,hq,rfl⟩ := List.mem_map.1 hp
      obtain ⟨_,x,hx,e⟩ := entOf_mem hq
      show (toV q.2).Ok
      rw [e]; exact ih x hx (hf.m x hx)
  rw [cleanR_eq]
  by_cases h1 : r.K = 1
  · rw [if_pos h1,toV_mk]; exact .unk
  rw [if_neg h1]
  by_cases h2 : r.K = 2
  · rw [if_pos h2,toV_mk]; exact .bool _
  rw [if_neg h2]
  by_cases h3 : r.K = 3
  · rw [if_pos h3,toV_mk]; exact .int _
  rw [if_neg h3]
  by_cases h4 : r.K = 4
  · rw [if_pos h4,toV_mk]
    simp only [Int.reduceEq,if_false,if_true,ptV,near_cut,Bool.and_self]
    exact .pt _ _ (cut_near _).1 (cut_near _).2 (cut_near _).1 (cut_near _).2
  rw [if_neg h4]
  by_cases h5 : r.K = 5
  · rw [if_pos h5,toV_mk]; exact .text _
  rw [if_neg h5]
  by_cases h6 : r.K = 6
  · rw [if_pos h6,toV_mk]
    simp only [Int.reduceEq,if_false,if_true]
    refine .list _ (by rw [List.length_map,List.length_map]; omega) (fun x hx => ?_)
    rw [List.map_map] at hx
    obtain ⟨y,hy,rfl⟩ := List.mem_map.1 hx
    exact ih y hy (hf.m y hy)
  rw [if_neg h6,if_neg h7,toV_mk]; exact .nul
theorem fit_cleanB {B' : Nat} : ∀ r : Rv,r.FitB B' → (cleanR r).FitB B' := by
  refine Rv.ind fun r ih hf => ?_
  have hl := hf.l
  have leaf : ∀ (K : Int) (B : Bool) (N M : Int) (S : List UInt8),S.length ≤ 140737488355328 → (Rv.mk K B N M S [] []).FitB B' := fun K B N M S hS => .mk _ (by simp [Rv.L]) (by simp [Rv.Keys]) (by simp [Rv.Keys]) hS (by simp [Rv.L])
  by_cases h7 : r.K = 7
  · rw [cleanR_7 h7]
    have hlen : (entOf r).length ≤ r.L.length := by
      have := entR_length (r.Keys.zip (r.L.map cleanR))
      rw [List.length_zip,List.length_map] at this
      unfold entOf; omega
    refine .mk _ ?_ ?_ ?_ (by simp [Rv.S]) ?_
    · show ((entOf r).map Prod.snd).length * 96 ≤ _
      rw [List.length_map]; omega
    · show ((entOf r).map Prod.fst).length * 16 ≤ _
      rw [List.length_map]; omega
    · intro k hk
      obtain ⟨q,hq,rfl⟩ := List.mem_map.1 (show k ∈ (entOf r).map Prod.fst from hk)
      exact hf.kl q.1 (entOf_mem hq).1
    · intro x hx
      obtain ⟨q,hq,rfl⟩ := List.mem_map.1 (show x ∈ (entOf r).map Prod.snd from hx)
      obtain ⟨_,x,hx,e⟩ := entOf_mem hq
      rw [e]; exact ih x hx (hf.m x hx)
  rw [cleanR_eq]
  by_cases h6 : r.K = 6
  · rw [if_neg (by omega),if_neg (by omega),if_neg (by omega),if_neg (by omega),if_neg (by omega),if_pos h6]
    refine .mk _ (by show (r.L.map cleanR).length * 96 ≤ _; rw [List.length_map]; exact hl) (by simp [Rv.Keys]) (by simp [Rv.Keys]) (by simp [Rv.S]) ?_
    intro x hx
    obtain ⟨y,hy,rfl⟩ := List.mem_map.1 (show x ∈ r.L.map cleanR from hx)
    exact ih y hy (hf.m y hy)
  · repeat (first | exact leaf _ _ _ _ _ (by simp) | exact leaf _ _ _ _ _ hf.s | split | (exfalso; omega))
theorem fit_clean (r : Rv) (h : r.Fit) : (cleanR r).Fit := fit_cleanB r h
end Go.Proofs.YtkldmgnhbomknaaGreat
