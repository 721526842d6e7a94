/-
  NARROWER THAN 'FOR EVERY INPUT', by the rows' own cells (each row's printed sentence says how): ValuePuts: loops · ValueMaps: loops · ValueMakes: loops · ValueGoes: loops.
  DERIVED. THE GIVEN ROWS OF THIS SEAT. 12 by the template 'for every input the law returns true; each argument reads behind the call as it read before'; 0 by the template 'total and deterministic' (their statements: YtjlphncecdlmcaaTotals.lean).
  GIVEN WITH THE SEED: the statements are not yours to turn. If you find one false, say at which input.
  Laid BY PROGRAM, IN A SANDBOX (cutbox-rows.mjs): the forced cells as the released guide's own fill.sh prints them over the translation f775a2da9510949a… (all of the seat's roots in one cut). By AI agents, Wed Nov 11 2026. No macro, syntax, notation, axiom, sorry.
-/
import Derived.Test.YtjlphncecdlmcaaChecked
import GoSem.Claim
import GoSem.ClaimJoined
import GoSem.ClaimMapViews
import Derived.JoinedTies
import Derived.KernelRfl
namespace Go.Proofs.Ytjlphncecdlmcaa
/- THE CELL 'sum', in the pinned program and in every row, IS THE sha256 OF THE DUMP (.gsa) THAT YtjlphncecdlmcaaProg.lean LOADS. Nothing in Lean hashes anything: it is a label: what it is worth is what the hold of that sum in a sandbox is worth. -/
noncomputable def Try.pinned : Pinned := { name := "ytjlphncecdlmcaa", sum := "f775a2da9510949aeaee45e32a0f7df8caed59dc562016d862fe32137b937e4b", checked := Try.checked }
namespace Rows
def none {H : Type} : Left H := { results := [], args := [] }

/-- 'flangelaw13.DiagLines': WHATEVER THE INPUT: true; the input reads as it did. -/
def diagLinesSpec : ChangeSpec := { name := "diagLines", fn := fun _ => fun
  | [d] => { results := [.lit (.bool true)], args := [d] }
  | _ => none }
def diagLinesRow : OpenClaim := { program := "ytjlphncecdlmcaa", sum := "f775a2da9510949aeaee45e32a0f7df8caed59dc562016d862fe32137b937e4b", func := "flange/flangelaw13.DiagLines", spec := "diagLines", inPlace := ["internal/abi.NoEscape"], unfollowed := true, recurses := true, apart := false }
def DiagLinesSaid : Prop := diagLinesRow.holds Try.pinned (OpenSpec.ofChange diagLinesSpec)

/-- ITS FALSE NEIGHBOUR: 'it returns false'. Refute it at one input. -/
def diagLinesWrong : ChangeSpec := { name := "diagLines", fn := fun _ => fun
  | [d] => { results := [.lit (.bool false)], args := [d] }
  | _ => none }
def DiagLinesWrongFalsely : Prop := diagLinesRow.holds Try.pinned (OpenSpec.ofChange diagLinesWrong)

/-- 'flangelaw13.DiagCleans': WHATEVER THE INPUT: true; the input reads as it did. -/
def diagCleansSpec : ChangeSpec := { name := "diagCleans", fn := fun _ => fun
  | [d1, d2] => { results := [.lit (.bool true)], args := [d1, d2] }
  | _ => none }
def diagCleansRow : OpenClaim := { program := "ytjlphncecdlmcaa", sum := "f775a2da9510949aeaee45e32a0f7df8caed59dc562016d862fe32137b937e4b", func := "flange/flangelaw13.DiagCleans", spec := "diagCleans", inPlace := ["internal/abi.NoEscape"], unfollowed := true, recurses := true, apart := false }
def DiagCleansSaid : Prop := diagCleansRow.holds Try.pinned (OpenSpec.ofChange diagCleansSpec)

/-- ITS FALSE NEIGHBOUR: 'it returns false'. Refute it at one input. -/
def diagCleansWrong : ChangeSpec := { name := "diagCleans", fn := fun _ => fun
  | [d1, d2] => { results := [.lit (.bool false)], args := [d1, d2] }
  | _ => none }
def DiagCleansWrongFalsely : Prop := diagCleansRow.holds Try.pinned (OpenSpec.ofChange diagCleansWrong)

/-- 'flangelaw13.DiagPlain': WHATEVER THE INPUT: true; the input reads as it did. -/
def diagPlainSpec : ChangeSpec := { name := "diagPlain", fn := fun _ => fun
  | [d1, d2] => { results := [.lit (.bool true)], args := [d1, d2] }
  | _ => none }
def diagPlainRow : OpenClaim := { program := "ytjlphncecdlmcaa", sum := "f775a2da9510949aeaee45e32a0f7df8caed59dc562016d862fe32137b937e4b", func := "flange/flangelaw13.DiagPlain", spec := "diagPlain", inPlace := ["internal/abi.NoEscape"], unfollowed := true, recurses := true, apart := false }
def DiagPlainSaid : Prop := diagPlainRow.holds Try.pinned (OpenSpec.ofChange diagPlainSpec)

/-- ITS FALSE NEIGHBOUR: 'it returns false'. Refute it at one input. -/
def diagPlainWrong : ChangeSpec := { name := "diagPlain", fn := fun _ => fun
  | [d1, d2] => { results := [.lit (.bool false)], args := [d1, d2] }
  | _ => none }
def DiagPlainWrongFalsely : Prop := diagPlainRow.holds Try.pinned (OpenSpec.ofChange diagPlainWrong)

/-- 'flangelaw04.ValuePuts': WHATEVER THE INPUT: true; the input reads as it did. -/
def valuePutsSpec : ChangeSpec := { name := "valuePuts", fn := fun _ => fun
  | [d1, d2, d3, d4] => { results := [.lit (.bool true)], args := [d1, d2, d3, d4] }
  | _ => none }
def valuePutsRow : OpenClaim := { program := "ytjlphncecdlmcaa", sum := "f775a2da9510949aeaee45e32a0f7df8caed59dc562016d862fe32137b937e4b", func := "flange/flangelaw04.ValuePuts", spec := "valuePuts", inPlace := ["maps.clone"], unfollowed := true, recurses := true, loops := true, apart := false }
def ValuePutsSaid : Prop := valuePutsRow.holds Try.pinned (OpenSpec.ofChange valuePutsSpec)

/-- ITS FALSE NEIGHBOUR: 'it returns false'. Refute it at one input. -/
def valuePutsWrong : ChangeSpec := { name := "valuePuts", fn := fun _ => fun
  | [d1, d2, d3, d4] => { results := [.lit (.bool false)], args := [d1, d2, d3, d4] }
  | _ => none }
def ValuePutsWrongFalsely : Prop := valuePutsRow.holds Try.pinned (OpenSpec.ofChange valuePutsWrong)

/-- 'flangelaw13.DiagCodes': WHATEVER THE INPUT: true; the input reads as it did. -/
def diagCodesSpec : ChangeSpec := { name := "diagCodes", fn := fun _ => fun
  | [d1, d2] => { results := [.lit (.bool true)], args := [d1, d2] }
  | _ => none }
def diagCodesRow : OpenClaim := { program := "ytjlphncecdlmcaa", sum := "f775a2da9510949aeaee45e32a0f7df8caed59dc562016d862fe32137b937e4b", func := "flange/flangelaw13.DiagCodes", spec := "diagCodes", inPlace := ["internal/abi.NoEscape"], unfollowed := true, recurses := true, apart := false }
def DiagCodesSaid : Prop := diagCodesRow.holds Try.pinned (OpenSpec.ofChange diagCodesSpec)

/-- ITS FALSE NEIGHBOUR: 'it returns false'. Refute it at one input. -/
def diagCodesWrong : ChangeSpec := { name := "diagCodes", fn := fun _ => fun
  | [d1, d2] => { results := [.lit (.bool false)], args := [d1, d2] }
  | _ => none }
def DiagCodesWrongFalsely : Prop := diagCodesRow.holds Try.pinned (OpenSpec.ofChange diagCodesWrong)

/-- 'flangelaw14.ClockSteps': WHATEVER THE INPUT: true; the input reads as it did. -/
def clockStepsSpec : ChangeSpec := { name := "clockSteps", fn := fun _ => fun
  | [d1, d2] => { results := [.lit (.bool true)], args := [d1, d2] }
  | _ => none }
def clockStepsRow : OpenClaim := { program := "ytjlphncecdlmcaa", sum := "f775a2da9510949aeaee45e32a0f7df8caed59dc562016d862fe32137b937e4b", func := "flange/flangelaw14.ClockSteps", spec := "clockSteps", unfollowed := true, recurses := true, apart := false }
def ClockStepsSaid : Prop := clockStepsRow.holds Try.pinned (OpenSpec.ofChange clockStepsSpec)

/-- ITS FALSE NEIGHBOUR: 'it returns false'. Refute it at one input. -/
def clockStepsWrong : ChangeSpec := { name := "clockSteps", fn := fun _ => fun
  | [d1, d2] => { results := [.lit (.bool false)], args := [d1, d2] }
  | _ => none }
def ClockStepsWrongFalsely : Prop := clockStepsRow.holds Try.pinned (OpenSpec.ofChange clockStepsWrong)

/-- 'flangelaw14.ClockNext': WHATEVER THE INPUT: true; the input reads as it did. -/
def clockNextSpec : ChangeSpec := { name := "clockNext", fn := fun _ => fun
  | [d] => { results := [.lit (.bool true)], args := [d] }
  | _ => none }
def clockNextRow : OpenClaim := { program := "ytjlphncecdlmcaa", sum := "f775a2da9510949aeaee45e32a0f7df8caed59dc562016d862fe32137b937e4b", func := "flange/flangelaw14.ClockNext", spec := "clockNext", unfollowed := true, recurses := true, apart := false }
def ClockNextSaid : Prop := clockNextRow.holds Try.pinned (OpenSpec.ofChange clockNextSpec)

/-- ITS FALSE NEIGHBOUR: 'it returns false'. Refute it at one input. -/
def clockNextWrong : ChangeSpec := { name := "clockNext", fn := fun _ => fun
  | [d] => { results := [.lit (.bool false)], args := [d] }
  | _ => none }
def ClockNextWrongFalsely : Prop := clockNextRow.holds Try.pinned (OpenSpec.ofChange clockNextWrong)

/-- 'flangelaw14.ClockRings': WHATEVER THE INPUT: true; the input reads as it did. -/
def clockRingsSpec : ChangeSpec := { name := "clockRings", fn := fun _ => fun
  | [d] => { results := [.lit (.bool true)], args := [d] }
  | _ => none }
def clockRingsRow : OpenClaim := { program := "ytjlphncecdlmcaa", sum := "f775a2da9510949aeaee45e32a0f7df8caed59dc562016d862fe32137b937e4b", func := "flange/flangelaw14.ClockRings", spec := "clockRings", unfollowed := true, recurses := true, apart := false }
def ClockRingsSaid : Prop := clockRingsRow.holds Try.pinned (OpenSpec.ofChange clockRingsSpec)

/-- ITS FALSE NEIGHBOUR: 'it returns false'. Refute it at one input. -/
def clockRingsWrong : ChangeSpec := { name := "clockRings", fn := fun _ => fun
  | [d] => { results := [.lit (.bool false)], args := [d] }
  | _ => none }
def ClockRingsWrongFalsely : Prop := clockRingsRow.holds Try.pinned (OpenSpec.ofChange clockRingsWrong)

/-- 'flangelaw14.ClockAdds': WHATEVER THE INPUT: true; the input reads as it did. -/
def clockAddsSpec : ChangeSpec := { name := "clockAdds", fn := fun _ => fun
  | [d1, d2, d3] => { results := [.lit (.bool true)], args := [d1, d2, d3] }
  | _ => none }
def clockAddsRow : OpenClaim := { program := "ytjlphncecdlmcaa", sum := "f775a2da9510949aeaee45e32a0f7df8caed59dc562016d862fe32137b937e4b", func := "flange/flangelaw14.ClockAdds", spec := "clockAdds", unfollowed := true, recurses := true, apart := false }
def ClockAddsSaid : Prop := clockAddsRow.holds Try.pinned (OpenSpec.ofChange clockAddsSpec)

/-- ITS FALSE NEIGHBOUR: 'it returns false'. Refute it at one input. -/
def clockAddsWrong : ChangeSpec := { name := "clockAdds", fn := fun _ => fun
  | [d1, d2, d3] => { results := [.lit (.bool false)], args := [d1, d2, d3] }
  | _ => none }
def ClockAddsWrongFalsely : Prop := clockAddsRow.holds Try.pinned (OpenSpec.ofChange clockAddsWrong)

/-- 'flangelaw04.ValueMaps': WHATEVER THE INPUT: true; the input reads as it did. -/
def valueMapsSpec : ChangeSpec := { name := "valueMaps", fn := fun _ => fun
  | [d1, d2, d3, d4] => { results := [.lit (.bool true)], args := [d1, d2, d3, d4] }
  | _ => none }
def valueMapsRow : OpenClaim := { program := "ytjlphncecdlmcaa", sum := "f775a2da9510949aeaee45e32a0f7df8caed59dc562016d862fe32137b937e4b", func := "flange/flangelaw04.ValueMaps", spec := "valueMaps", unfollowed := true, recurses := true, loops := true, apart := false }
def ValueMapsSaid : Prop := valueMapsRow.holds Try.pinned (OpenSpec.ofChange valueMapsSpec)

/-- ITS FALSE NEIGHBOUR: 'it returns false'. Refute it at one input. -/
def valueMapsWrong : ChangeSpec := { name := "valueMaps", fn := fun _ => fun
  | [d1, d2, d3, d4] => { results := [.lit (.bool false)], args := [d1, d2, d3, d4] }
  | _ => none }
def ValueMapsWrongFalsely : Prop := valueMapsRow.holds Try.pinned (OpenSpec.ofChange valueMapsWrong)

/-- 'flangelaw04.ValueMakes': WHATEVER THE INPUT: true; the input reads as it did. -/
def valueMakesSpec : ChangeSpec := { name := "valueMakes", fn := fun _ => fun
  | [d1, d2] => { results := [.lit (.bool true)], args := [d1, d2] }
  | _ => none }
def valueMakesRow : OpenClaim := { program := "ytjlphncecdlmcaa", sum := "f775a2da9510949aeaee45e32a0f7df8caed59dc562016d862fe32137b937e4b", func := "flange/flangelaw04.ValueMakes", spec := "valueMakes", unfollowed := true, recurses := true, loops := true, apart := false }
def ValueMakesSaid : Prop := valueMakesRow.holds Try.pinned (OpenSpec.ofChange valueMakesSpec)

/-- ITS FALSE NEIGHBOUR: 'it returns false'. Refute it at one input. -/
def valueMakesWrong : ChangeSpec := { name := "valueMakes", fn := fun _ => fun
  | [d1, d2] => { results := [.lit (.bool false)], args := [d1, d2] }
  | _ => none }
def ValueMakesWrongFalsely : Prop := valueMakesRow.holds Try.pinned (OpenSpec.ofChange valueMakesWrong)

/-- 'flangelaw04.ValueGoes': WHATEVER THE INPUT: true; the input reads as it did. -/
def valueGoesSpec : ChangeSpec := { name := "valueGoes", fn := fun _ => fun
  | [d1, d2, d3] => { results := [.lit (.bool true)], args := [d1, d2, d3] }
  | _ => none }
def valueGoesRow : OpenClaim := { program := "ytjlphncecdlmcaa", sum := "f775a2da9510949aeaee45e32a0f7df8caed59dc562016d862fe32137b937e4b", func := "flange/flangelaw04.ValueGoes", spec := "valueGoes", inPlace := ["maps.clone"], unfollowed := true, recurses := true, loops := true, apart := false }
def ValueGoesSaid : Prop := valueGoesRow.holds Try.pinned (OpenSpec.ofChange valueGoesSpec)

/-- ITS FALSE NEIGHBOUR: 'it returns false'. Refute it at one input. -/
def valueGoesWrong : ChangeSpec := { name := "valueGoes", fn := fun _ => fun
  | [d1, d2, d3] => { results := [.lit (.bool false)], args := [d1, d2, d3] }
  | _ => none }
def ValueGoesWrongFalsely : Prop := valueGoesRow.holds Try.pinned (OpenSpec.ofChange valueGoesWrong)

/- THE SECOND FORM. 'bulk': how many values and letters a reading holds, each counted each time it is reached (what is shared counts as often as it is met; a slice's spare places count too). A statement '..UptoSaid' is the law's where the arguments, and the package variables that the reading takes, are together of bulk at most 1048576: NARROWER than '..Said'. Prove '..Said' where nothing that the law and all that it calls make is longer than what came in: it says more and counts as full. Else prove '..UptoSaid'. A law counts once. -/
mutual
def uptoBulk {H : Type} : DataW H → Nat
  | .lit (.string bytes) => bytes.length + 1
  | .lit _ => 1
  | .nil => 1
  | .ptr d => uptoBulk d + 1
  | .slice elems spare => uptoBulkAll elems + uptoBulkAll spare + 1
  | .agg parts => uptoBulkAll parts + 1
  | .iface _ d => uptoBulk d + 1
  | .map entries => uptoBulkEntries entries + 1
  | .held _ => 1
def uptoBulkAll {H : Type} : List (DataW H) → Nat
  | [] => 0
  | d :: r => uptoBulk d + uptoBulkAll r
def uptoBulkEntries {H : Type} : List (Lit × DataW H) → Nat
  | [] => 0
  | x :: r => uptoBulkEntry x + uptoBulkEntries r
def uptoBulkEntry {H : Type} : Lit × DataW H → Nat
  | (.string bytes, d) => bytes.length + uptoBulk d + 1
  | (_, d) => uptoBulk d + 1
 end
def uptoSmall : (H : Type) → List (DataW H) → Bool := fun _ ds => decide (uptoBulkAll ds ≤ 1048576)
def OpenSpec.upto (s : _root_.Go.ChangeSpec) : _root_.Go.OpenSpec := { _root_.Go.OpenSpec.ofChange s with cond := some uptoSmall }

/-- 'flangelaw13.DiagLines', WHERE WHAT IT READS IS OF BULK AT MOST 1048576: true; the input reads as it did. -/
def diagLinesUptoRow : OpenClaim := { program := "ytjlphncecdlmcaa", sum := "f775a2da9510949aeaee45e32a0f7df8caed59dc562016d862fe32137b937e4b", func := "flange/flangelaw13.DiagLines", spec := "diagLines", inPlace := ["internal/abi.NoEscape"], unfollowed := true, recurses := true, apart := false, narrowed := true }
def DiagLinesUptoSaid : Prop := diagLinesUptoRow.holds Try.pinned (OpenSpec.upto diagLinesSpec)

/-- 'flangelaw13.DiagCleans', WHERE WHAT IT READS IS OF BULK AT MOST 1048576: true; the input reads as it did. -/
def diagCleansUptoRow : OpenClaim := { program := "ytjlphncecdlmcaa", sum := "f775a2da9510949aeaee45e32a0f7df8caed59dc562016d862fe32137b937e4b", func := "flange/flangelaw13.DiagCleans", spec := "diagCleans", inPlace := ["internal/abi.NoEscape"], unfollowed := true, recurses := true, apart := false, narrowed := true }
def DiagCleansUptoSaid : Prop := diagCleansUptoRow.holds Try.pinned (OpenSpec.upto diagCleansSpec)

/-- 'flangelaw13.DiagPlain', WHERE WHAT IT READS IS OF BULK AT MOST 1048576: true; the input reads as it did. -/
def diagPlainUptoRow : OpenClaim := { program := "ytjlphncecdlmcaa", sum := "f775a2da9510949aeaee45e32a0f7df8caed59dc562016d862fe32137b937e4b", func := "flange/flangelaw13.DiagPlain", spec := "diagPlain", inPlace := ["internal/abi.NoEscape"], unfollowed := true, recurses := true, apart := false, narrowed := true }
def DiagPlainUptoSaid : Prop := diagPlainUptoRow.holds Try.pinned (OpenSpec.upto diagPlainSpec)

/-- 'flangelaw04.ValuePuts', WHERE WHAT IT READS IS OF BULK AT MOST 1048576: true; the input reads as it did. -/
def valuePutsUptoRow : OpenClaim := { program := "ytjlphncecdlmcaa", sum := "f775a2da9510949aeaee45e32a0f7df8caed59dc562016d862fe32137b937e4b", func := "flange/flangelaw04.ValuePuts", spec := "valuePuts", inPlace := ["maps.clone"], unfollowed := true, recurses := true, loops := true, apart := false, narrowed := true }
def ValuePutsUptoSaid : Prop := valuePutsUptoRow.holds Try.pinned (OpenSpec.upto valuePutsSpec)

/-- 'flangelaw13.DiagCodes', WHERE WHAT IT READS IS OF BULK AT MOST 1048576: true; the input reads as it did. -/
def diagCodesUptoRow : OpenClaim := { program := "ytjlphncecdlmcaa", sum := "f775a2da9510949aeaee45e32a0f7df8caed59dc562016d862fe32137b937e4b", func := "flange/flangelaw13.DiagCodes", spec := "diagCodes", inPlace := ["internal/abi.NoEscape"], unfollowed := true, recurses := true, apart := false, narrowed := true }
def DiagCodesUptoSaid : Prop := diagCodesUptoRow.holds Try.pinned (OpenSpec.upto diagCodesSpec)

/-- 'flangelaw14.ClockSteps', WHERE WHAT IT READS IS OF BULK AT MOST 1048576: true; the input reads as it did. -/
def clockStepsUptoRow : OpenClaim := { program := "ytjlphncecdlmcaa", sum := "f775a2da9510949aeaee45e32a0f7df8caed59dc562016d862fe32137b937e4b", func := "flange/flangelaw14.ClockSteps", spec := "clockSteps", unfollowed := true, recurses := true, apart := false, narrowed := true }
def ClockStepsUptoSaid : Prop := clockStepsUptoRow.holds Try.pinned (OpenSpec.upto clockStepsSpec)

/-- 'flangelaw14.ClockNext', WHERE WHAT IT READS IS OF BULK AT MOST 1048576: true; the input reads as it did. -/
def clockNextUptoRow : OpenClaim := { program := "ytjlphncecdlmcaa", sum := "f775a2da9510949aeaee45e32a0f7df8caed59dc562016d862fe32137b937e4b", func := "flange/flangelaw14.ClockNext", spec := "clockNext", unfollowed := true, recurses := true, apart := false, narrowed := true }
def ClockNextUptoSaid : Prop := clockNextUptoRow.holds Try.pinned (OpenSpec.upto clockNextSpec)

/-- 'flangelaw14.ClockRings', WHERE WHAT IT READS IS OF BULK AT MOST 1048576: true; the input reads as it did. -/
def clockRingsUptoRow : OpenClaim := { program := "ytjlphncecdlmcaa", sum := "f775a2da9510949aeaee45e32a0f7df8caed59dc562016d862fe32137b937e4b", func := "flange/flangelaw14.ClockRings", spec := "clockRings", unfollowed := true, recurses := true, apart := false, narrowed := true }
def ClockRingsUptoSaid : Prop := clockRingsUptoRow.holds Try.pinned (OpenSpec.upto clockRingsSpec)

/-- 'flangelaw14.ClockAdds', WHERE WHAT IT READS IS OF BULK AT MOST 1048576: true; the input reads as it did. -/
def clockAddsUptoRow : OpenClaim := { program := "ytjlphncecdlmcaa", sum := "f775a2da9510949aeaee45e32a0f7df8caed59dc562016d862fe32137b937e4b", func := "flange/flangelaw14.ClockAdds", spec := "clockAdds", unfollowed := true, recurses := true, apart := false, narrowed := true }
def ClockAddsUptoSaid : Prop := clockAddsUptoRow.holds Try.pinned (OpenSpec.upto clockAddsSpec)

/-- 'flangelaw04.ValueMaps', WHERE WHAT IT READS IS OF BULK AT MOST 1048576: true; the input reads as it did. -/
def valueMapsUptoRow : OpenClaim := { program := "ytjlphncecdlmcaa", sum := "f775a2da9510949aeaee45e32a0f7df8caed59dc562016d862fe32137b937e4b", func := "flange/flangelaw04.ValueMaps", spec := "valueMaps", unfollowed := true, recurses := true, loops := true, apart := false, narrowed := true }
def ValueMapsUptoSaid : Prop := valueMapsUptoRow.holds Try.pinned (OpenSpec.upto valueMapsSpec)

/-- 'flangelaw04.ValueMakes', WHERE WHAT IT READS IS OF BULK AT MOST 1048576: true; the input reads as it did. -/
def valueMakesUptoRow : OpenClaim := { program := "ytjlphncecdlmcaa", sum := "f775a2da9510949aeaee45e32a0f7df8caed59dc562016d862fe32137b937e4b", func := "flange/flangelaw04.ValueMakes", spec := "valueMakes", unfollowed := true, recurses := true, loops := true, apart := false, narrowed := true }
def ValueMakesUptoSaid : Prop := valueMakesUptoRow.holds Try.pinned (OpenSpec.upto valueMakesSpec)

/-- 'flangelaw04.ValueGoes', WHERE WHAT IT READS IS OF BULK AT MOST 1048576: true; the input reads as it did. -/
def valueGoesUptoRow : OpenClaim := { program := "ytjlphncecdlmcaa", sum := "f775a2da9510949aeaee45e32a0f7df8caed59dc562016d862fe32137b937e4b", func := "flange/flangelaw04.ValueGoes", spec := "valueGoes", inPlace := ["maps.clone"], unfollowed := true, recurses := true, loops := true, apart := false, narrowed := true }
def ValueGoesUptoSaid : Prop := valueGoesUptoRow.holds Try.pinned (OpenSpec.upto valueGoesSpec)

end Rows
end Go.Proofs.Ytjlphncecdlmcaa
