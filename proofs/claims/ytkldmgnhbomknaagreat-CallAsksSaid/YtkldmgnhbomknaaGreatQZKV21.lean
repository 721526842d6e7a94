/- Contracts of functions of the given program. Conditions: as each theorem says. -/
import Derived.Test.YtkldmgnhbomknaaGreatQZJB
import Derived.Test.YtkldmgnhbomknaaGreatVmT
import Derived.Test.YtkldmgnhbomknaaGreatVm32
import Derived.KernelRfl
set_option linter.unusedVariables false
set_option linter.unusedSimpArgs false
namespace Go.Proofs.YtkldmgnhbomknaaGreat
open Go.Vm
theorem cells_V : Tryz.prog.cellsOf 25 = 7 := by kernel_rfl
theorem cells_sV : Tryz.prog.cellsOf 22 = 1 := by kernel_rfl
theorem cells_sS : Tryz.prog.cellsOf 23 = 1 := by kernel_rfl
theorem cellsB_str : Tryz.prog.cellsOf 9 = 1 := by kernel_rfl
theorem cellsB_bool : Tryz.prog.cellsOf 4 = 1 := by kernel_rfl
theorem cellsB_int : Tryz.prog.cellsOf 3 = 1 := by kernel_rfl
theorem bytes_V : Tryz.prog.bytesOf 25 = 96 := by kernel_rfl
theorem bytes_str : Tryz.prog.bytesOf 9 = 16 := by kernel_rfl
theorem reach_le : reachBytes ≤ 140737488355328 := by decide
theorem strs_of {es : List (List V)} (h : ∀ c ∈ es,∃ m,rdB Tryz.prog m 9 c) : ∃ ks : List (List UInt8),es = strE ks ∧ ∀ k ∈ ks,k.length ≤ 140737488355328 := by
  induction es with
  | nil => exact ⟨[],rfl,by simp⟩
  | cons c es ih =>
    obtain ⟨ks,rfl,h1⟩ := ih fun c hc => h c (List.mem_cons_of_mem _ hc)
    obtain ⟨m,hm⟩ := h c List.mem_cons_self
    obtain ⟨s,rfl,hs⟩ := rdB_str Tryz.underlying9 hm
    refine ⟨s :: ks,rfl,fun k hk => ?_⟩
    rcases List.mem_cons.1 hk with rfl | hk
    · exact Nat.le_trans hs reach_le
    · exact h1 k hk
theorem rvs_of {B : Nat} {es : List (List V)} (h : ∀ c ∈ es,∃ r : Rv,c = rvC r ∧ r.FitB B ∧ Rg r) : ∃ l : List Rv,es = rvE l ∧ ∀ r ∈ l,r.FitB B ∧ Rg r := by
  induction es with
  | nil => exact ⟨[],rfl,by simp⟩
  | cons c es ih =>
    obtain ⟨l,rfl,h1⟩ := ih fun c hc => h c (List.mem_cons_of_mem _ hc)
    obtain ⟨r,rfl,hr⟩ := h c List.mem_cons_self
    refine ⟨r :: l,rfl,fun x hx => ?_⟩
    rcases List.mem_cons.1 hx with rfl | hx
    · exact hr
    · exact h1 x hx
set_option maxRecDepth 100000 in
theorem rv_ofB : ∀ (n : Nat) {vs : List V},rdB Tryz.prog n 25 vs → ∃ r : Rv,vs = rvC r ∧ r.FitB reachBytes ∧ Rg r := by
  intro n
  induction n using Nat.strongRecOn with
  | _ n ih =>
  intro vs h
  obtain ⟨m,hm,hl,hf⟩ := rdB_struct Tryz.underlying25 h
  rw [cells_V] at hl
  match vs,hl with
  | [a,b,c,d,e,f,k],_ =>
    have h0 := hf _ (List.mem_cons_self ..)
    have h1 := hf _ (List.mem_cons_of_mem _ (List.mem_cons_self ..))
    have h2 := hf _ (List.mem_cons_of_mem _ (List.mem_cons_of_mem _ (List.mem_cons_self ..)))
    have h3 := hf _ (List.mem_cons_of_mem _ (List.mem_cons_of_mem _ (List.mem_cons_of_mem _ (List.mem_cons_self ..))))
    have h4 := hf _ (List.mem_cons_of_mem _ (List.mem_cons_of_mem _ (List.mem_cons_of_mem _ (List.mem_cons_of_mem _ (List.mem_cons_self ..)))))
    have h5 := hf _ (List.mem_cons_of_mem _ (List.mem_cons_of_mem _ (List.mem_cons_of_mem _ (List.mem_cons_of_mem _ (List.mem_cons_of_mem _ (List.mem_cons_self ..))))))
    have h6 := hf _ (List.mem_cons_of_mem _ (List.mem_cons_of_mem _ (List.mem_cons_of_mem _ (List.mem_cons_of_mem _ (List.mem_cons_of_mem _ (List.mem_cons_of_mem _ (List.mem_cons_self ..)))))))
    simp only [cellsB_str,cellsB_bool,cellsB_int,cells_sV,cells_sS] at h0 h1 h2 h3 h4 h5 h6
    obtain ⟨x0,e0,_⟩ := rdB_int Tryz.underlying3 h0
    obtain ⟨x1,e1⟩ := rdB_bool Tryz.underlying4 h1
    obtain ⟨x2,e2,w2⟩ := rdB_int Tryz.underlying3 h2
    obtain ⟨x3,e3,_⟩ := rdB_int Tryz.underlying3 h3
    obtain ⟨x4,e4,b4⟩ := rdB_str Tryz.underlying9 h4
    obtain ⟨es,e5,b5,g5⟩ := rdB_slice Tryz.underlying22 h5
    obtain ⟨fs,e6,b6,g6⟩ := rdB_slice Tryz.underlying23 h6
    simp only [List.drop,List.take] at e0 e1 e2 e3 e4 e5 e6
    cases e0; cases e1; cases e2; cases e3; cases e4; cases e5; cases e6
    obtain ⟨l,rfl,hl⟩ := rvs_of fun c hc => by
      obtain ⟨q,hq,h⟩ := g5 c hc
      exact ih q (by omega) h
    obtain ⟨ks,rfl,hk⟩ := strs_of fun c hc => by
      obtain ⟨q,hq,h⟩ := g6 c hc
      exact ⟨q,h⟩
    rw [bytes_V,rvE_length] at b5
    rw [bytes_str,strE_len] at b6
    refine ⟨.mk x0 x1 x2 x3 x4 l ks,?_,.mk _ b5 b6 hk (Nat.le_trans b4 reach_le) (fun x hx => (hl x hx).1),.mk _ (fun _ => wf_i64 w2) (fun x hx => (hl x hx).2)⟩
    rw [rvC_eq,cells_V,cellsB_str]; rfl
theorem Rv.FitB.mono {B B' : Nat} (hB : B ≤ B') : ∀ r : Rv,r.FitB B → r.FitB B' :=
  Rv.ind fun r ih hf => .mk r (Nat.le_trans hf.l hB) (Nat.le_trans hf.k hB) hf.kl hf.s fun x hx => ih x hx (hf.m x hx)
theorem rg_clean : ∀ r : Rv,Rg r → Rg (cleanR r) := by
  refine Rv.ind fun r ih hr => ?_
  by_cases h7 : r.K = 7
  · rw [cleanR_7 h7]
    refine .mk _ (fun h => by cases h) (fun x hx => ?_)
    obtain ⟨q,hq,rfl⟩ := List.mem_map.1 (show x ∈ (entOf r).map Prod.snd from hx)
    obtain ⟨_,x,hx,e⟩ := entOf_mem hq
    rw [e]; exact ih x hx (hr.l x hx)
  rw [cleanR_eq]
  by_cases h6 : r.K = 6
  · rw [if_neg (by omega),if_neg (by omega),if_neg (by omega),if_neg (by omega),if_neg (by omega),if_pos h6]
    refine .mk _ (fun h => by cases h) (fun x hx => ?_)
    obtain ⟨y,hy,rfl⟩ := List.mem_map.1 (show x ∈ r.L.map cleanR from hx)
    exact ih y hy (hr.l y hy)
  by_cases h3 : r.K = 3
  · rw [if_neg (by omega),if_neg (by omega),if_pos h3]
    exact rg_leaf (fun _ => hr.n h3) rfl
  · repeat (first | exact rg_leaf (fun h => by cases h) rfl | split | (exfalso; omega))
end Go.Proofs.YtkldmgnhbomknaaGreat
