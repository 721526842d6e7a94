/- PROVED: whatever the input, flangelaw06.PackMany returns true, and its arguments read behind the call as they read before. Conditions: those of the given statement alone. Any values' bytes, and back; or the first one's error; of one that is none the error. -/
import Derived.Test.YtoicninkfmfnbaaGreatZYB
import Derived.Test.YtoicninkfmfnbaaGreatZW10
import Derived.Test.YtoicninkfmfnbaaGreatVmT
import Derived.Test.YtoicninkfmfnbaaGreatRows
import Derived.WalkKit
import Derived.ProofKit
import Derived.OpenShut
import Derived.ShutString
import Derived.ChangeOld
import Derived.Below
import Derived.SizedLaws
import Derived.Carry
set_option linter.unusedVariables false
set_option linter.unusedSimpArgs false
namespace Go.Proofs.YtoicninkfmfnbaaGreat.packMany
open Go.ChangeShapes Go.WideShapes Go.ChangeAt Go.RowKit
theorem own : ownKnob Tryz.prog.godebug = none := by kernel_rfl
theorem laidOut : laidOutB Tryz.prog = true := by kernel_rfl
theorem plain : Go.Vm.plainT Tryz.prog [25, 22, 23, 9, 3, 4, 29, 5] = true := by kernel_rfl
set_option maxRecDepth 100000 in
theorem lifted (os : Os) (started : os.Started) (H : Type) (enc : TypeId × Value → H) :
    ReturnsInHanded {} Tryz.checked os 4 .any (Rows.packManySpec.pre6 enc Tryz.prog Tryz.f4 Rows.packManyRow.domain false) (Rows.packManySpec.post enc Tryz.prog Tryz.f4 false true false false) := by
  refine returnsInHanded_of_change_sized (C := Tryz.checked) own started (by kernel_rfl) Tryz.func4
    (ChangeSpec.witness6 (enc := enc) (C := Tryz.checked) false ⟨#[], #[.slice none 0 0, .slice none 0 0], []⟩ 8 (by kernel_rfl) (by kernel_rfl) (by kernel_rfl) (by kernel_rfl)) ?_
  intro W base args ds gs before hval0 hW hcnd hsz0 _
  have hval : ∀ (j : Nat) t v, Tryz.f4.params[j]? = some t → args[j]? = some v → Value.okWide Tryz.prog W .any base t v := hval0
  have hW' := hW
  obtain ⟨p, q, hA0, hV, rfl, hfz, hnd⟩ := hW
  have hA : DataW.TrodAll enc Tryz.prog W 0 (fun _ => true) true Tryz.f4.params.toList args.toList ds p := hA0
  rw [Tryz.params4] at hA hval
  obtain ⟨v0, vs0, d0, ds0, p0, q0, hargs, rfl, rfl, h0, r0⟩ := trodAll_cons hA
  obtain ⟨v1, vs1, d1, ds1, p1, q1, rfl, rfl, rfl, h1, r1⟩ := trodAll_cons r0
  obtain ⟨rfl, rfl, rfl⟩ := trodAll_nil r1
  obtain rfl : args = #[v0, v1] := by cases args; simp_all
  obtain ⟨rfl, rfl⟩ := trodVars_none hV
  have k0 := h0
  have lt0 : ∀ x ∈ p0, x.block < W.heap.size := by obtain ⟨m, hm⟩ := k0; exact DataW.trod_lt m _ _ _ hm
  obtain ⟨es0, l0, rd0, g0⟩ := Go.Vm.argB_slice plain (by decide) Tryz.underlying22 (hval 0 22 v0 rfl rfl) h0 (fun n hn => of_decide_eq_true (List.all_eq_true.1 hsz0 n (Go.Vm.wEach_mem (j := 0) (t := 22) (d := d0) rfl rfl n hn)))
  have k1 := h1
  have lt1 : ∀ x ∈ p1, x.block < W.heap.size := by obtain ⟨m, hm⟩ := k1; exact DataW.trod_lt m _ _ _ hm
  obtain ⟨es1, l1, rd1, g1⟩ := Go.Vm.arg_slice plain (by decide) Tryz.underlying29 (hval 1 29 v1 rfl rfl) h1
  obtain ⟨l, rfl, hfit⟩ := rvs_of (fun c hc => by obtain ⟨m, h⟩ := rd0 c hc; exact rv_ofB m h)
  obtain ⟨junk, rfl⟩ := bytes_of rd1
  rw [cells_V] at g0
  rw [cells_u8] at g1
  refine (Go.Vm.row_ofG (xs := [v0, v1]) (plmany_calls hfit (Go.Vm.AH.put_same _ _ _)) (.cons _ _ _ _ g0 (.cons _ _ _ _ g1 .nil))).mono fun e W' ⟨he, bel⟩ => ?_
  subst he
  exact ⟨_, rfl, _, _, _, [], _, [], hW', trodAll_mk1 (shut_bool Tryz.underlying4 _), (trodAll_cons_mk (Below.trod laidOut (by kernel_rfl) (of_decide_eq_true (by kernel_rfl)) k0 bel lt0) (trodAll_cons_mk (Below.trod laidOut (by kernel_rfl) (of_decide_eq_true (by kernel_rfl)) k1 bel lt1) trodAll_mk0)), rfl, bel.frame _, fun h => by cases h⟩
theorem over : Rows.packManyRow.holds Tryz.pinned (OpenSpec.ofChange Rows.packManySpec) :=
  OpenClaim.holds_of_wide 4 Tryz.f4 rfl rfl rfl rfl rfl rfl rfl ⟨rfl, rfl, rfl, rfl, rfl⟩ rfl rfl rfl rfl rfl (by kernel_rfl) Tryz.func4 (by kernel_rfl)
    (of_decide_eq_true (by kernel_rfl)) (by unfold Func.isWrapper; first | (rw [if_pos (by decide +kernel)]; kernel_rfl) | (rw [if_neg (by decide +kernel)]; exact ⟨rfl, rfl⟩))
    (fun os started H enc _ => lifted os started H enc)
theorem proved : Rows.PackManySaid := over
end Go.Proofs.YtoicninkfmfnbaaGreat.packMany
namespace Go.Proofs.YtoicninkfmfnbaaGreat
/-- The row, under a short name, for the claim. -/
theorem packMany_holds : Rows.PackManySaid := packMany.proved
end Go.Proofs.YtoicninkfmfnbaaGreat
