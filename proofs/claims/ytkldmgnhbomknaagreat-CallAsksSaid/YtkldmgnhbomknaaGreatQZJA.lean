/- Contracts of functions of the given program. Conditions: as each theorem says. -/
import Derived.Test.YtkldmgnhbomknaaGreatQZKGD
import Derived.Test.YtkldmgnhbomknaaGreatMMB
import Derived.Test.YtkldmgnhbomknaaGreatN1
import Derived.Test.YtkldmgnhbomknaaGreatQZKMC
set_option linter.unusedVariables false
set_option linter.unusedSimpArgs false
/- Plain: each value's model. -/
namespace Go.Proofs.YtkldmgnhbomknaaGreat
open Go.Vm
def fndR (k : List UInt8) : List (List UInt8 × Rv) → Option Rv
  | [] => none
  | p :: es => if p.1 = k then some p.2 else fndR k es
def rv0 : Rv := .mk 0 false 0 0 [] [] []
def mOf : Vl → Rv
  | .nul => rv0
  | .unk => .mk 1 false 0 0 [] [] []
  | .bool b => .mk 2 b 0 0 [] [] []
  | .int n => .mk 3 false n 0 [] [] []
  | .pt n m => .mk 4 false n m [] [] []
  | .text s => .mk 5 false 0 0 s [] []
  | .list l => .mk 6 false 0 0 [] (l.map fun x => mOf x) []
  | .map es => .mk 7 false 0 0 [] ((kys es).map fun k => (fndR k (es.map fun p => (p.1,mOf p.2))).getD rv0) (kys es)
termination_by v => SizeOf.sizeOf v
decreasing_by
  all_goals first
    | (have := List.sizeOf_lt_of_mem ‹_ ∈ l›; simp only [Vl.list.sizeOf_spec]; omega)
    | (rename_i hm; obtain ⟨a,b⟩ := p; have := List.sizeOf_lt_of_mem (by assumption); simp only [Prod.mk.sizeOf_spec,Vl.map.sizeOf_spec] at this ⊢; omega)
theorem fndR_map (k : List UInt8) : ∀ es : List (List UInt8 × Vl),fndR k (es.map fun p => (p.1,mOf p.2)) = (fnd k es).map mOf
  | [] => rfl
  | p :: es => by
    rw [List.map_cons,fndR,fnd]
    split
    · rfl
    · exact fndR_map k es
theorem mOf_nul : mOf .nul = rv0 := by rw [mOf]
theorem mOf_list (l : List Vl) : mOf (.list l) = .mk 6 false 0 0 [] (l.map mOf) [] := by rw [mOf]
theorem mOf_map (es : List (List UInt8 × Vl)) : mOf (.map es) = .mk 7 false 0 0 [] ((kys es).map fun k => mOf (look es k)) (kys es) := by
  rw [mOf]
  congr 1
  refine List.map_congr_left fun k _ => ?_
  rw [fndR_map,look]
  cases fnd k es with
  | none => rw [Option.map_none,Option.getD_none,Option.getD_none,mOf_nul]
  | some x => rfl
theorem sm_nul0 : Sm .nul rv0 := .mk _ _ rfl rfl rfl rfl rfl (by intro h; cases h) (by intro h; cases h) (by intro i h; simp [Vl.items] at h)
theorem fnd_in {k : List UInt8} {x : Vl} : ∀ {es : List (List UInt8 × Vl)},fnd k es = some x → ∃ p ∈ es,p.2 = x
  | [],h => by cases h
  | p :: es,h => by
    rw [fnd] at h
    split at h
    · cases h; exact ⟨p,List.mem_cons_self,rfl⟩
    · obtain ⟨q,hq,e⟩ := fnd_in h
      exact ⟨q,List.mem_cons_of_mem _ hq,e⟩
theorem sm_mOf : ∀ v : Vl,v.Ok → Sm v (mOf v) := by
  refine Vl.ind ?_ ?_ ?_ ?_ ?_ ?_ ?_ ?_
  · intro _; rw [mOf_nul]; exact sm_nul0
  · intro _; rw [mOf]; exact .mk _ _ rfl rfl rfl rfl rfl (by intro h; cases h) (by intro h; cases h) (by intro i h; simp [Vl.items] at h)
  · intro b _; rw [mOf]; exact .mk _ _ rfl (by simp [Vl.isB,Rv.K,Rv.B]) rfl rfl rfl (by intro h; cases h) (by intro h; cases h) (by intro i h; simp [Vl.items] at h)
  · intro n _; rw [mOf]; exact .mk _ _ rfl rfl rfl rfl rfl (by intro h; rfl) (by intro h; cases h) (by intro i h; simp [Vl.items] at h)
  · intro n m _; rw [mOf]; exact .mk _ _ rfl rfl rfl rfl rfl (by intro h; cases h) (by intro h; exact ⟨rfl,rfl⟩) (by intro i h; simp [Vl.items] at h)
  · intro s _; rw [mOf]; exact .mk _ _ rfl rfl rfl rfl rfl (by intro h; cases h) (by intro h; cases h) (by intro i h; simp [Vl.items] at h)
  · intro l ih ho
    have hx : ∀ x ∈ l,x.Ok := by cases ho; assumption
    rw [mOf_list]
    refine .mk _ _ rfl rfl rfl (by simp [Vl.items,Rv.L]) rfl (by intro h; cases h) (by intro h; cases h) (fun i h h2 => ?_)
    simp only [Vl.items,Rv.L] at h h2 ⊢
    rw [List.getElem_map]
    exact ih _ (List.getElem_mem h) (hx _ (List.getElem_mem h))
  · intro es ih ho
    have hx : ∀ p ∈ es,p.2.Ok := by cases ho; assumption
    rw [mOf_map]
    refine .mk _ _ rfl rfl rfl (by simp [Vl.items,Rv.L]) rfl (by intro h; cases h) (by intro h; cases h) (fun i h h2 => ?_)
    simp only [Vl.items,Rv.L] at h h2 ⊢
    have h9 : i < (kys es).length := by simpa using h
    rw [List.getElem_map,List.getElem_map,look]
    cases hf : fnd ((kys es)[i]'h9) es with
    | none => rw [Option.getD_none,mOf_nul]; exact sm_nul0
    | some x =>
      obtain ⟨p,hp,rfl⟩ := fnd_in hf
      exact ih p hp (hx p hp)
end Go.Proofs.YtkldmgnhbomknaaGreat
/- Plain: a value's bytes. -/
namespace Go.Proofs.YtkldmgnhbomknaaGreat
open Go.Vm
def zigN (n : Int) : Nat := if 0 ≤ n then 2 * n.toNat else 2 * (-n).toNat - 1
def zagN (u : Nat) : Int := if u % 2 = 0 then ((u / 2 : Nat) : Int) else -((u / 2 : Nat) : Int) - 1
theorem zag_zig (n : Int) : zagN (zigN n) = n := by unfold zagN zigN; split <;> split <;> omega
theorem zig_lt {n : Int} (h : -9223372036854775808 ≤ n ∧ n < 9223372036854775808) : zigN n < 18446744073709551616 := by unfold zigN; split <;> omega
theorem zag_in {u : Nat} (h : u < 18446744073709551616) : -9223372036854775808 ≤ zagN u ∧ zagN u < 9223372036854775808 := by unfold zagN; split <;> omega
theorem vb_pos (n : Nat) : 0 < (vb n).length := by rw [vb]; split <;> simp
def kF (m : Rv) : Fld := ⟨1,false,m.K.toNat,[]⟩
def restF (K : Int) (B : Bool) (N M : Int) (S : List UInt8) (Ks bs : List (List UInt8)) : List Fld :=
  if K = 2 then [⟨2,false,B.toNat,[]⟩] else if K = 3 then [⟨2,false,zigN N,[]⟩] else if K = 4 then [⟨2,false,zigN N,[]⟩,⟨3,false,zigN M,[]⟩] else if K = 5 then [⟨4,true,0,S⟩]
  else if K = 6 then bs.map (fun b => ⟨5,true,0,b⟩) else if K = 7 then Ks.map (fun b => ⟨6,true,0,b⟩) ++ bs.map (fun b => ⟨7,true,0,b⟩) else []
def fldM (m : Rv) (bs : List (List UInt8)) : List Fld := kF m :: restF m.K m.B m.N m.M m.S m.Keys bs
def badL (l : List (List UInt8 × Int)) : Bool := l.any fun p => decide (p.2 ≠ 0)
def encM : Rv → List UInt8 × Int
  | .mk K B N M S L Ks => if rightM (.mk K B N M S L Ks) = false ∨ badL (L.map fun x => encM x) = true ∨ (Vm.encS (fldM (.mk K B N M S L Ks) ((L.map fun x => encM x).map Prod.fst))).2 ≠ 0 then ([],3)
    else ((Vm.encS (fldM (.mk K B N M S L Ks) ((L.map fun x => encM x).map Prod.fst))).1,0)
termination_by r => SizeOf.sizeOf r
decreasing_by
  all_goals (have := List.sizeOf_lt_of_mem ‹_ ∈ L›; simp only [Rv.mk.sizeOf_spec]; omega)
theorem encM_eq (m : Rv) : encM m = if rightM m = false ∨ badL (m.L.map encM) = true ∨ (Vm.encS (fldM m ((m.L.map encM).map Prod.fst))).2 ≠ 0 then ([],3) else ((Vm.encS (fldM m ((m.L.map encM).map Prod.fst))).1,0) := by
  cases m; rw [encM]; rfl
theorem encM_code (m : Rv) : (encM m).2 = 0 ∨ encM m = ([],3) := by
  rw [encM_eq]; split
  · exact .inr rfl
  · exact .inl rfl
theorem encM_len (m : Rv) : (encM m).1.length ≤ 4096 := by
  rw [encM_eq]; split
  · simp
  · exact enc_len _
theorem lay_lt {f : Fld} {l : List Fld} (hf : f ∈ l) (hr : ∀ f ∈ l,rightF f = true) : f.b.length < (layL l).length := by
  have h1 : f.b.length < (layF f).length := by
    have hrf := hr f hf
    have hk := vb_pos (keyN f)
    unfold layF
    rw [List.length_append]
    cases hb : f.by_
    · simp only [rightF,hb,Bool.and_eq_true,decide_eq_true_eq,if_false,Bool.false_eq_true] at hrf
      rw [hrf.2.2]; simp; omega
    · simp; omega
  have h2 : (layF f).length ≤ (layL l).length := by
    unfold layL
    induction l with
    | nil => cases hf
    | cons g l ih =>
      rw [List.flatMap_cons,List.length_append]
      rcases List.mem_cons.1 hf with rfl | hf
      · omega
      · have := ih hf (fun f h => hr f (List.mem_cons_of_mem _ h)); omega
  omega
theorem fits_right {last : Fld} : ∀ {l : List Fld},fitsL last l = true → ∀ f ∈ l,rightF f = true := by
  intro l
  induction l generalizing last with
  | nil => intro _ f hf; cases hf
  | cons g l ih =>
    intro h f hf
    simp only [fitsL,Bool.and_eq_true] at h
    rcases List.mem_cons.1 hf with rfl | hf
    · exact (fits_split h.1).1
    · exact ih h.2 f hf
theorem dec_lt {b : List UInt8} (h : (decS b).2.2 = 0) : ∀ f ∈ (decS b).1,f.b.length < b.length := by
  obtain ⟨h1,_,_,_⟩ := enc_dec h
  intro f hf
  unfold Vm.encS at h1
  split at h1
  · simp at h1
  · split at h1
    · simp at h1
    · split at h1
      · simp at h1
      · rename_i h2 h3 h4
        have e : layL (decS b).1 = b := congrArg Prod.fst h1
        have := lay_lt hf (fits_right (by simpa using h3))
        rw [e] at this; exact this
end Go.Proofs.YtkldmgnhbomknaaGreat
/- Plain: bytes' value. -/
namespace Go.Proofs.YtkldmgnhbomknaaGreat
open Go.Vm
abbrev numT := Msg.numT
abbrev numS := Msg.numS
def allO (D : List UInt8 → Option Vl) : List (List UInt8) → Option (List Vl)
  | [] => some []
  | b :: l => match D b with
    | none => none
    | some v => (allO D l).map fun r => v :: r
theorem allO_congr {D D' : List UInt8 → Option Vl} : ∀ {l : List (List UInt8)},(∀ b ∈ l,D b = D' b) → allO D l = allO D' l
  | [],_ => rfl
  | b :: l,h => by
    rw [allO,allO,h b List.mem_cons_self,allO_congr (fun x hx => h x (List.mem_cons_of_mem _ hx))]
def openD (D : List UInt8 → Option Vl) (L : List Fld) : Vl × Bool :=
  match (numS L 1).1 with
  | 1 => (.unk,!(numS L 1).2)
  | 2 => (.bool (decide ((numS L 2).1 = 1)),!(numS L 1).2 || !(numS L 2).2)
  | 3 => (.int (zagN (numS L 2).1),!(numS L 1).2 || !(numS L 2).2)
  | 4 => (ptV (zagN (numS L 2).1) (zagN (numS L 3).1),!(numS L 1).2 || !(numS L 2).2 || !(numS L 3).2 || decide (ptE (zagN (numS L 2).1) (zagN (numS L 3).1) ≠ 0))
  | 5 => (.text (blobT L 4),!(numS L 1).2 || (manyT L 4).isEmpty)
  | 6 => (.list ((allO D (manyT L 5)).getD []),!(numS L 1).2 || (allO D (manyT L 5)).isNone)
  | 7 => ((mapR (manyT L 6) ((allO D (manyT L 7)).getD [])).1,!(numS L 1).2 || (allO D (manyT L 7)).isNone || decide ((mapR (manyT L 6) ((allO D (manyT L 7)).getD [])).2 ≠ 0))
  | _ => (.nul,!(numS L 1).2)
theorem openD_congr {D D' : List UInt8 → Option Vl} {L : List Fld} (h : ∀ f ∈ L,D f.b = D' f.b) : openD D L = openD D' L := by
  have hm : ∀ t,∀ b ∈ manyT L t,D b = D' b := fun t b hb => by
    obtain ⟨f,hf,rfl⟩ := List.mem_map.1 hb
    exact h f (List.mem_filter.1 hf).1
  unfold openD
  rw [allO_congr (hm 5),allO_congr (hm 7)]
def decV (b : List UInt8) : Option Vl :=
  if (decS b).2.2 ≠ 0 then none
  else if (openD (fun x => if _h : x.length < b.length then decV x else none) (decS b).1).2 = true ∨ encM (mOf (openD (fun x => if _h : x.length < b.length then decV x else none) (decS b).1).1) ≠ (b,0) then none
  else some (openD (fun x => if _h : x.length < b.length then decV x else none) (decS b).1).1
termination_by b.length
theorem decV_eq (b : List UInt8) : decV b = if (decS b).2.2 ≠ 0 then none else if (openD decV (decS b).1).2 = true ∨ encM (mOf (openD decV (decS b).1).1) ≠ (b,0) then none else some (openD decV (decS b).1).1 := by
  rw [decV]
  by_cases hz : (decS b).2.2 = 0
  · have h := openD_congr (D := fun x => if _h : x.length < b.length then decV x else none) (D' := decV) (L := (decS b).1) (fun f hf => by
      show (if _h : f.b.length < b.length then decV f.b else none) = _
      rw [dif_pos (dec_lt hz f hf)])
    rw [h]
  · rw [if_pos hz,if_pos hz]
end Go.Proofs.YtkldmgnhbomknaaGreat
