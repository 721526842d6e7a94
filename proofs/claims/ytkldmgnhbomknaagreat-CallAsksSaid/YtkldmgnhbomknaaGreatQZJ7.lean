/- Plain: a value's bytes' value is the value. -/
import Derived.Test.YtkldmgnhbomknaaGreatQZWB
set_option linter.unusedVariables false
set_option linter.unusedSimpArgs false
namespace Go.Proofs.YtkldmgnhbomknaaGreat
open Go.Vm Go.Sort
theorem ptE_near {n m : Int} (h : nearB n = true) (k : nearB m = true) : ptE n m = 0 ∧ ptV n m = .pt n m := by
  unfold ptE ptV; simp [h,k]
theorem sm_of_kind {v : Vl} {m : Rv} (hs : Sm v m) : v.kind = m.K := by cases hs; assumption
theorem open_enc {m : Rv} {v : Vl} (hs : Sm v m) (ho : v.Ok) (ih : ∀ x ∈ m.L,∃ v',decV (encM x).1 = some v' ∧ Sm v' x) : ∃ v',openD decV (fldM m ((m.L.map encM).map Prod.fst)) = (v',false) ∧ Sm v' m := by
  obtain ⟨l',hl1,hl2,hl3⟩ := allO_of m.L ih
  generalize (m.L.map encM).map Prod.fst = bs at *
  have hsm := hs
  cases hs with
  | mk _ _ hK hB hS hl hk hN hP hi =>
  have h1 := fun r => numS_kF m r
  have hmn := fun r t => many_kF m r t
  cases v with
  | nul =>
    have hmK : m.K = 0 := hK.symm
    refine ⟨.nul,?_,hsm⟩
    rw [openD,fldM,h1,hmK]; rfl
  | unk =>
    have hmK : m.K = 1 := hK.symm
    refine ⟨.unk,?_,hsm⟩
    rw [openD,fldM,h1,hmK]; rfl
  | bool b =>
    have hmK : m.K = 2 := hK.symm
    have hB2 : b = m.B := by rw [hmK] at hB; simpa [Vl.isB] using hB
    refine ⟨.bool b,?_,hsm⟩
    have e : fldM m bs = [kF m,⟨2,false,m.B.toNat,[]⟩] := by rw [fldM,restF,if_pos hmK]
    rw [openD,e,h1,hmK,numS_k2,← hB2]
    cases b <;> rfl
  | int n =>
    have hmK : m.K = 3 := hK.symm
    have hn : n = m.N := hN hmK
    refine ⟨.int n,?_,hsm⟩
    have e : fldM m bs = [kF m,⟨2,false,zigN m.N,[]⟩] := by rw [fldM,restF,if_neg (by omega),if_pos hmK]
    rw [openD,e,h1,hmK,numS_k2]
    simp only [zag_zig,← hn]
    rfl
  | pt a b =>
    have hmK : m.K = 4 := hK.symm
    obtain ⟨ha,hb⟩ := hP hmK
    have ha : a = m.N := ha
    have hb : b = m.M := hb
    have hnear : nearB a = true ∧ nearB b = true := by
      cases ho with
      | pt _ _ x y z u => simp [nearB,x,y,z,u]
    obtain ⟨p1,p2⟩ := ptE_near hnear.1 hnear.2
    refine ⟨.pt a b,?_,hsm⟩
    have e : fldM m bs = [kF m,⟨2,false,zigN m.N,[]⟩,⟨3,false,zigN m.M,[]⟩] := by rw [fldM,restF,if_neg (by omega),if_neg (by omega),if_pos hmK]
    rw [openD,e,h1,hmK,numS_k2,numS_k3]
    simp only [zag_zig,← ha,← hb,p1,p2]
    rfl
  | text s =>
    have hmK : m.K = 5 := hK.symm
    have hs2 : s = m.S := hS
    refine ⟨.text s,?_,hsm⟩
    have e : fldM m bs = kF m :: [m.S].map (fun b => ⟨4,true,0,b⟩) := by rw [fldM,restF,if_neg (by omega),if_neg (by omega),if_neg (by omega),if_pos hmK]; rfl
    have e2 : manyT (fldM m bs) 4 = [m.S] := by rw [e,hmn,many_same]
    have e3 : blobT (fldM m bs) 4 = m.S := by rw [blobT,e2]
    rw [openD,e3,e2,e,h1,hmK,hs2]; rfl
  | list l =>
    have hmK : m.K = 6 := hK.symm
    have e : fldM m bs = kF m :: bs.map (fun b => ⟨5,true,0,b⟩) := by rw [fldM,restF,if_neg (by omega),if_neg (by omega),if_neg (by omega),if_neg (by omega),if_pos hmK]
    have e2 : manyT (fldM m bs) 5 = bs := by rw [e,hmn,many_same]
    refine ⟨.list l',?_,sm_list hmK hS.symm hk.symm hl2 hl3⟩
    have e4 : openD decV (fldM m bs) = (.list ((allO decV (manyT (fldM m bs) 5)).getD []),!(numS (fldM m bs) 1).2 || (allO decV (manyT (fldM m bs) 5)).isNone) := by
      rw [openD]; rw [e,h1,hmK]; rfl
    rw [e4,e2,hl1,e,h1]; rfl
  | map es =>
    have hmK : m.K = 7 := hK.symm
    have e : fldM m bs = kF m :: (m.Keys.map (fun b => ⟨6,true,0,b⟩) ++ bs.map (fun b => ⟨7,true,0,b⟩)) := by rw [fldM,restF,if_neg (by omega),if_neg (by omega),if_neg (by omega),if_neg (by omega),if_neg (by omega),if_pos hmK]
    have e2 : manyT (fldM m bs) 7 = bs := by rw [e,hmn,many_app,many_other (by decide),many_same,List.nil_append]
    have e3 : manyT (fldM m bs) 6 = m.Keys := by rw [e,hmn,many_app,many_other (t := 7) (u := 6) (by decide),many_same,List.append_nil]
    have hsrt : m.Keys.Pairwise (· < ·) := by
      rw [← hk]
      cases ho with
      | map _ _ hn _ _ => exact kys_srt hn
    have hkl : m.Keys.length = l'.length := by
      rw [hl2,← hl,← hk]; exact (items_keys rfl).symm
    have hnd : m.Keys.Nodup := hsrt.imp fun {a b} h e => by subst e; exact lt_irr _ h
    have hmr := mapR_ok hkl hnd
    refine ⟨.map (m.Keys.zip l'),?_,sm_map hmK hS.symm rfl hsrt hkl hl2 hl3⟩
    have e4 : openD decV (fldM m bs) = ((mapR (manyT (fldM m bs) 6) ((allO decV (manyT (fldM m bs) 7)).getD [])).1,!(numS (fldM m bs) 1).2 || (allO decV (manyT (fldM m bs) 7)).isNone || decide ((mapR (manyT (fldM m bs) 6) ((allO decV (manyT (fldM m bs) 7)).getD [])).2 ≠ 0)) := by
      rw [openD]; rw [e,h1,hmK]; rfl
    rw [e4,e2,e3,hl1,Option.getD_some,hmr,e,h1]; rfl
theorem dec_encM : ∀ (m : Rv) (v : Vl),Sm v m → v.Ok → Rg m → ∀ c,encM m = (c,0) → ∃ v',decV c = some v' ∧ Sm v' m := by
  refine Rv.ind fun m ih v hs ho hrg c hc => ?_
  rw [encM_eq] at hc
  split at hc
  · cases hc
  · rename_i hn
    have hr : rightM m = true := by cases h : rightM m with
      | true => rfl
      | false => exact absurd (.inl h) hn
    have hb : badL (m.L.map encM) = false := by cases h : badL (m.L.map encM) with
      | false => rfl
      | true => exact absurd (.inr (.inl h)) hn
    have hz : (Vm.encS (fldM m ((m.L.map encM).map Prod.fst))).2 = 0 := Decidable.byContradiction fun h => hn (.inr (.inr h))
    have hf : fitsQ m = true := by
      simp only [rightM,Bool.and_eq_true] at hr
      have := hr.2
      rw [allM_eq,Bool.and_eq_true] at this; exact this.1
    obtain ⟨hfo,hfl⟩ := fldM_ok hs ho hrg hf
    cases hc
    have hds := dec_enc (l := fldM m ((m.L.map encM).map Prod.fst)) (fun f hf => ⟨(hfo f hf).1,by have := (hfo f hf).2; omega⟩) hz
    have hih : ∀ x ∈ m.L,∃ v',decV (encM x).1 = some v' ∧ Sm v' x := fun x hx => by
      obtain ⟨i,h2,rfl⟩ := List.getElem_of_mem hx
      have hsi : ∃ y : Vl,Sm y m.L[i] ∧ y.Ok := by
        cases hs with
        | mk _ _ hK hB hS hl hk hN hP hi => exact ⟨v.items[i]'(by omega),hi i (by omega) h2,Ok.items ho _ (List.getElem_mem _)⟩
      obtain ⟨y,hy,hyo⟩ := hsi
      refine ih _ hx y hy hyo (hrg.l _ hx) _ ?_
      have h0 : (encM m.L[i]).2 = 0 := by
        have := List.any_eq_false.1 hb (encM m.L[i]) (List.mem_map.2 ⟨_,hx,rfl⟩)
        simpa using this
      exact Prod.ext rfl h0
    obtain ⟨v',ho1,hs1⟩ := open_enc hs ho hih
    have hfit : Fine v' := by
      have hL : (fldM m ((m.L.map encM).map Prod.fst)).length ≤ 64 := by
        have := dec_le (Vm.encS (fldM m ((m.L.map encM).map Prod.fst))).1
        rw [hds] at this; exact this
      have := fine_open (D := decV) (fun x v h => decV_fine _ x (Nat.le_refl _) v h) hL hfo
      rw [ho1] at this; exact this
    have hsame := (sm_same (mOf v') v' m (sm_mOf v' hfit.1) hs1).2.2
    refine ⟨v',?_,hs1⟩
    rw [decV_eq,hds]
    simp only [ho1]
    rw [if_neg (by simp),if_neg]
    rw [hsame,encM_eq,if_neg hn]
    simp
end Go.Proofs.YtkldmgnhbomknaaGreat
