/- PROVED: whatever the input, flangelaw02.MessageFinds returns true, and its arguments read behind the call as they read before. Conditions: those of the given statement alone.  -/
import Derived.Test.YtmomncmddejcoaaF2
import Derived.Test.YtmomncmddejcoaaB11
import Derived.Test.YtmomncmddejcoaaVm21
import Derived.Test.YtmomncmddejcoaaRows
import Derived.WalkKit
import Derived.ProofKit
import Derived.OpenShut
import Derived.ShutString
import Derived.ChangeOld
import Derived.Below
import Derived.SizedLaws
import Derived.Carry
set_option linter.unusedVariables false
set_option linter.unusedSimpArgs false
namespace Go.Proofs.Ytmomncmddejcoaa.messageFinds
open Go.ChangeShapes Go.WideShapes Go.ChangeAt Go.RowKit
theorem own : ownKnob Try.prog.godebug = none := by kernel_rfl
theorem laidOut : laidOutB Try.prog = true := by kernel_rfl
theorem plain : Go.Vm.plainT Try.prog [38, 55, 3, 4, 53, 40, 5, 22] = true := by kernel_rfl
set_option maxRecDepth 100000 in
theorem lifted (os : Os) (started : os.Started) (H : Type) (enc : TypeId × Value → H) :
    ReturnsInHanded {} Try.checked os 9 .any (Rows.messageFindsSpec.pre6 enc Try.prog Try.f9 Rows.messageFindsRow.domain false) (Rows.messageFindsSpec.post enc Try.prog Try.f9 false true false false) := by
  refine returnsInHanded_of_change_sized (C := Try.checked) own started (by kernel_rfl) Try.func9
    (ChangeSpec.witness6 (enc := enc) (C := Try.checked) false ⟨#[], #[.slice none 0 0, .int .i64 0, .slice none 0 0], []⟩ 8 (by kernel_rfl) (by kernel_rfl) (by kernel_rfl) (by kernel_rfl)) ?_
  intro W base args ds gs before hval0 hW hcnd hsz0 _
  have hval : ∀ (j : Nat) t v, Try.f9.params[j]? = some t → args[j]? = some v → Value.okWide Try.prog W .any base t v := hval0
  have hW' := hW
  obtain ⟨p, q, hA0, hV, rfl, hfz, hnd⟩ := hW
  have hA : DataW.TrodAll enc Try.prog W 0 (fun _ => true) true Try.f9.params.toList args.toList ds p := hA0
  rw [Try.params9] at hA hval
  obtain ⟨v0, vs0, d0, ds0, p0, q0, hargs, rfl, rfl, h0, r0⟩ := trodAll_cons hA
  obtain ⟨v1, vs1, d1, ds1, p1, q1, rfl, rfl, rfl, h1, r1⟩ := trodAll_cons r0
  obtain ⟨v2, vs2, d2, ds2, p2, q2, rfl, rfl, rfl, h2, r2⟩ := trodAll_cons r1
  obtain ⟨rfl, rfl, rfl⟩ := trodAll_nil r2
  obtain rfl : args = #[v0, v1, v2] := by cases args; simp_all
  obtain ⟨rfl, rfl⟩ := trodVars_none hV
  have k0 := h0
  have lt0 : ∀ x ∈ p0, x.block < W.heap.size := by obtain ⟨m, hm⟩ := k0; exact DataW.trod_lt m _ _ _ hm
  obtain ⟨es0, l0, rd0, g0⟩ := Go.Vm.arg_slice plain (by decide) Try.underlying38 (hval 0 38 v0 rfl rfl) h0
  have k1 := h1
  have lt1 : ∀ x ∈ p1, x.block < W.heap.size := by obtain ⟨m, hm⟩ := k1; exact DataW.trod_lt m _ _ _ hm
  obtain ⟨m1, w1, g1⟩ := Go.Vm.arg_int Try.underlying3 (hval 1 3 v1 rfl rfl) h1
  have k2 := h2
  have lt2 : ∀ x ∈ p2, x.block < W.heap.size := by obtain ⟨m, hm⟩ := k2; exact DataW.trod_lt m _ _ _ hm
  obtain ⟨es2, l2, rd2, g2⟩ := Go.Vm.arg_slice plain (by decide) Try.underlying22 (hval 2 22 v2 rfl rfl) h2
  obtain ⟨l, rfl, ho⟩ := flds_of rd0
  obtain ⟨tags, rfl⟩ := Go.Vm.ints_of es2 (fun c hc => by obtain ⟨m, h⟩ := rd2 c hc; obtain ⟨q, rfl, _⟩ := Go.Vm.rd_int Try.underlying3 h; exact ⟨q, rfl⟩)
  rw [cells_fld] at g0
  rw [cells_i64] at g2
  have hl : l.length < 9223372036854775808 := by simp only [Go.Vm.fldsE_length, maxLen] at l0; omega
  have hl2 : tags.length < 9223372036854775808 := by simp only [Go.Vm.intsE_length, maxLen] at l2; omega
  refine (Go.Vm.row_of (xs := [v0, v1, v2]) (finds_calls hl hl2 _) (.cons _ _ _ _ g0 (.cons _ _ _ _ g1 (.cons _ _ _ _ g2 .nil)))).mono fun e W' ⟨he, bel⟩ => ?_
  subst he
  exact ⟨_, rfl, _, _, _, [], _, [], hW', trodAll_mk1 (shut_bool Try.underlying4 _), (trodAll_cons_mk (Below.trod laidOut (by kernel_rfl) (of_decide_eq_true (by kernel_rfl)) k0 bel lt0) (trodAll_cons_mk (Below.trod laidOut (by kernel_rfl) (of_decide_eq_true (by kernel_rfl)) k1 bel lt1) (trodAll_cons_mk (Below.trod laidOut (by kernel_rfl) (of_decide_eq_true (by kernel_rfl)) k2 bel lt2) trodAll_mk0))), rfl, bel.frame _, fun h => by cases h⟩
theorem over : Rows.messageFindsRow.holds Try.pinned (OpenSpec.ofChange Rows.messageFindsSpec) :=
  OpenClaim.holds_of_wide 9 Try.f9 rfl rfl rfl rfl rfl rfl rfl ⟨rfl, rfl, rfl, rfl, rfl⟩ rfl rfl rfl rfl rfl (by kernel_rfl) Try.func9 (by kernel_rfl)
    (of_decide_eq_true (by kernel_rfl)) (by unfold Func.isWrapper; first | (rw [if_pos (by decide +kernel)]; kernel_rfl) | (rw [if_neg (by decide +kernel)]; exact ⟨rfl, rfl⟩))
    (fun os started H enc _ => lifted os started H enc)
theorem proved : Rows.MessageFindsSaid := over
end Go.Proofs.Ytmomncmddejcoaa.messageFinds
namespace Go.Proofs.Ytmomncmddejcoaa
/-- The row, under a short name, for the claim. -/
theorem messageFinds_holds : Rows.MessageFindsSaid := messageFinds.proved
end Go.Proofs.Ytmomncmddejcoaa
