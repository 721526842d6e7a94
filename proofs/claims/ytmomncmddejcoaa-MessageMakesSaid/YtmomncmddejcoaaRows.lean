/-
  No cell of these rows narrows 'for every input' (looked for: loops, veiled, ifaces, maps, wideKeys, modest, calm, conditions, laid).
  DERIVED. THE GIVEN ROWS OF THIS SEAT. 9 by the template 'for every input the law returns true; each argument reads behind the call as it read before'; 0 by the template 'total and deterministic' (their statements: YtmomncmddejcoaaTotals.lean).
  GIVEN WITH THE SEED: the statements are not yours to turn. If you find one false, say at which input.
  Laid BY PROGRAM, IN A SANDBOX (cutbox-rows.mjs): the forced cells as the released guide's own fill.sh prints them over the translation 7c02473870780223… (all of the seat's roots in one cut). By AI agents, Wed Nov 11 2026. No macro, syntax, notation, axiom, sorry.
-/
import Derived.Test.YtmomncmddejcoaaChecked
import GoSem.Claim
import GoSem.ClaimJoined
import GoSem.ClaimMapViews
import Derived.JoinedTies
import Derived.KernelRfl
namespace Go.Proofs.Ytmomncmddejcoaa
/- THE CELL 'sum', in the pinned program and in every row, IS THE sha256 OF THE DUMP (.gsa) THAT YtmomncmddejcoaaProg.lean LOADS. Nothing in Lean hashes anything: it is a label: what it is worth is what the hold of that sum in a sandbox is worth. -/
noncomputable def Try.pinned : Pinned := { name := "ytmomncmddejcoaa", sum := "7c02473870780223a7276bdc77b2368f6d9c35080b2fdf3837b6b40f3d68e791", checked := Try.checked }
namespace Rows
def none {H : Type} : Left H := { results := [], args := [] }

/-- 'flangelaw21.HelloAgrees': WHATEVER THE INPUT: true; the input reads as it did. -/
def helloAgreesSpec : ChangeSpec := { name := "helloAgrees", fn := fun _ => fun
  | [d1, d2, d3] => { results := [.lit (.bool true)], args := [d1, d2, d3] }
  | _ => none }
def helloAgreesRow : OpenClaim := { program := "ytmomncmddejcoaa", sum := "7c02473870780223a7276bdc77b2368f6d9c35080b2fdf3837b6b40f3d68e791", func := "flange/flangelaw21.HelloAgrees", spec := "helloAgrees", unfollowed := true, recurses := true, apart := false }
def HelloAgreesSaid : Prop := helloAgreesRow.holds Try.pinned (OpenSpec.ofChange helloAgreesSpec)

/-- ITS FALSE NEIGHBOUR: 'it returns false'. Refute it at one input. -/
def helloAgreesWrong : ChangeSpec := { name := "helloAgrees", fn := fun _ => fun
  | [d1, d2, d3] => { results := [.lit (.bool false)], args := [d1, d2, d3] }
  | _ => none }
def HelloAgreesWrongFalsely : Prop := helloAgreesRow.holds Try.pinned (OpenSpec.ofChange helloAgreesWrong)

/-- 'flangelaw21.HelloOwn': WHATEVER THE INPUT: true; the input reads as it did. -/
def helloOwnSpec : ChangeSpec := { name := "helloOwn", fn := fun _ => fun
  | [d] => { results := [.lit (.bool true)], args := [d] }
  | _ => none }
def helloOwnRow : OpenClaim := { program := "ytmomncmddejcoaa", sum := "7c02473870780223a7276bdc77b2368f6d9c35080b2fdf3837b6b40f3d68e791", func := "flange/flangelaw21.HelloOwn", spec := "helloOwn", unfollowed := true, recurses := true, apart := false }
def HelloOwnSaid : Prop := helloOwnRow.holds Try.pinned (OpenSpec.ofChange helloOwnSpec)

/-- ITS FALSE NEIGHBOUR: 'it returns false'. Refute it at one input. -/
def helloOwnWrong : ChangeSpec := { name := "helloOwn", fn := fun _ => fun
  | [d] => { results := [.lit (.bool false)], args := [d] }
  | _ => none }
def HelloOwnWrongFalsely : Prop := helloOwnRow.holds Try.pinned (OpenSpec.ofChange helloOwnWrong)

/-- 'flangelaw02.MessageEncodes': WHATEVER THE INPUT: true; the input reads as it did. -/
def messageEncodesSpec : ChangeSpec := { name := "messageEncodes", fn := fun _ => fun
  | [d] => { results := [.lit (.bool true)], args := [d] }
  | _ => none }
def messageEncodesRow : OpenClaim := { program := "ytmomncmddejcoaa", sum := "7c02473870780223a7276bdc77b2368f6d9c35080b2fdf3837b6b40f3d68e791", func := "flange/flangelaw02.MessageEncodes", spec := "messageEncodes", apart := false }
def MessageEncodesSaid : Prop := messageEncodesRow.holds Try.pinned (OpenSpec.ofChange messageEncodesSpec)

/-- ITS FALSE NEIGHBOUR: 'it returns false'. Refute it at one input. -/
def messageEncodesWrong : ChangeSpec := { name := "messageEncodes", fn := fun _ => fun
  | [d] => { results := [.lit (.bool false)], args := [d] }
  | _ => none }
def MessageEncodesWrongFalsely : Prop := messageEncodesRow.holds Try.pinned (OpenSpec.ofChange messageEncodesWrong)

/-- 'flangelaw02.MessageDecodes': WHATEVER THE INPUT: true; the input reads as it did. -/
def messageDecodesSpec : ChangeSpec := { name := "messageDecodes", fn := fun _ => fun
  | [d] => { results := [.lit (.bool true)], args := [d] }
  | _ => none }
def messageDecodesRow : OpenClaim := { program := "ytmomncmddejcoaa", sum := "7c02473870780223a7276bdc77b2368f6d9c35080b2fdf3837b6b40f3d68e791", func := "flange/flangelaw02.MessageDecodes", spec := "messageDecodes", apart := false }
def MessageDecodesSaid : Prop := messageDecodesRow.holds Try.pinned (OpenSpec.ofChange messageDecodesSpec)

/-- ITS FALSE NEIGHBOUR: 'it returns false'. Refute it at one input. -/
def messageDecodesWrong : ChangeSpec := { name := "messageDecodes", fn := fun _ => fun
  | [d] => { results := [.lit (.bool false)], args := [d] }
  | _ => none }
def MessageDecodesWrongFalsely : Prop := messageDecodesRow.holds Try.pinned (OpenSpec.ofChange messageDecodesWrong)

/-- 'flangelaw02.MessageJoins': WHATEVER THE INPUT: true; the input reads as it did. -/
def messageJoinsSpec : ChangeSpec := { name := "messageJoins", fn := fun _ => fun
  | [d1, d2, d3] => { results := [.lit (.bool true)], args := [d1, d2, d3] }
  | _ => none }
def messageJoinsRow : OpenClaim := { program := "ytmomncmddejcoaa", sum := "7c02473870780223a7276bdc77b2368f6d9c35080b2fdf3837b6b40f3d68e791", func := "flange/flangelaw02.MessageJoins", spec := "messageJoins", apart := false }
def MessageJoinsSaid : Prop := messageJoinsRow.holds Try.pinned (OpenSpec.ofChange messageJoinsSpec)

/-- ITS FALSE NEIGHBOUR: 'it returns false'. Refute it at one input. -/
def messageJoinsWrong : ChangeSpec := { name := "messageJoins", fn := fun _ => fun
  | [d1, d2, d3] => { results := [.lit (.bool false)], args := [d1, d2, d3] }
  | _ => none }
def MessageJoinsWrongFalsely : Prop := messageJoinsRow.holds Try.pinned (OpenSpec.ofChange messageJoinsWrong)

/-- 'flangelaw02.MessageMakes': WHATEVER THE INPUT: true; the input reads as it did. -/
def messageMakesSpec : ChangeSpec := { name := "messageMakes", fn := fun _ => fun
  | [d1, d2, d3] => { results := [.lit (.bool true)], args := [d1, d2, d3] }
  | _ => none }
def messageMakesRow : OpenClaim := { program := "ytmomncmddejcoaa", sum := "7c02473870780223a7276bdc77b2368f6d9c35080b2fdf3837b6b40f3d68e791", func := "flange/flangelaw02.MessageMakes", spec := "messageMakes", apart := false }
def MessageMakesSaid : Prop := messageMakesRow.holds Try.pinned (OpenSpec.ofChange messageMakesSpec)

/-- ITS FALSE NEIGHBOUR: 'it returns false'. Refute it at one input. -/
def messageMakesWrong : ChangeSpec := { name := "messageMakes", fn := fun _ => fun
  | [d1, d2, d3] => { results := [.lit (.bool false)], args := [d1, d2, d3] }
  | _ => none }
def MessageMakesWrongFalsely : Prop := messageMakesRow.holds Try.pinned (OpenSpec.ofChange messageMakesWrong)

/-- 'flangelaw02.MessageFinds': WHATEVER THE INPUT: true; the input reads as it did. -/
def messageFindsSpec : ChangeSpec := { name := "messageFinds", fn := fun _ => fun
  | [d1, d2, d3] => { results := [.lit (.bool true)], args := [d1, d2, d3] }
  | _ => none }
def messageFindsRow : OpenClaim := { program := "ytmomncmddejcoaa", sum := "7c02473870780223a7276bdc77b2368f6d9c35080b2fdf3837b6b40f3d68e791", func := "flange/flangelaw02.MessageFinds", spec := "messageFinds", unfollowed := true, recurses := true, apart := false }
def MessageFindsSaid : Prop := messageFindsRow.holds Try.pinned (OpenSpec.ofChange messageFindsSpec)

/-- ITS FALSE NEIGHBOUR: 'it returns false'. Refute it at one input. -/
def messageFindsWrong : ChangeSpec := { name := "messageFinds", fn := fun _ => fun
  | [d1, d2, d3] => { results := [.lit (.bool false)], args := [d1, d2, d3] }
  | _ => none }
def MessageFindsWrongFalsely : Prop := messageFindsRow.holds Try.pinned (OpenSpec.ofChange messageFindsWrong)

/-- 'flangelaw21.HelloCodes': WHATEVER THE INPUT: true; the input reads as it did. -/
def helloCodesSpec : ChangeSpec := { name := "helloCodes", fn := fun _ => fun
  | [d] => { results := [.lit (.bool true)], args := [d] }
  | _ => none }
def helloCodesRow : OpenClaim := { program := "ytmomncmddejcoaa", sum := "7c02473870780223a7276bdc77b2368f6d9c35080b2fdf3837b6b40f3d68e791", func := "flange/flangelaw21.HelloCodes", spec := "helloCodes", unfollowed := true, recurses := true, apart := false }
def HelloCodesSaid : Prop := helloCodesRow.holds Try.pinned (OpenSpec.ofChange helloCodesSpec)

/-- ITS FALSE NEIGHBOUR: 'it returns false'. Refute it at one input. -/
def helloCodesWrong : ChangeSpec := { name := "helloCodes", fn := fun _ => fun
  | [d] => { results := [.lit (.bool false)], args := [d] }
  | _ => none }
def HelloCodesWrongFalsely : Prop := helloCodesRow.holds Try.pinned (OpenSpec.ofChange helloCodesWrong)

/-- 'flangelaw21.HelloDecodes': WHATEVER THE INPUT: true; the input reads as it did. -/
def helloDecodesSpec : ChangeSpec := { name := "helloDecodes", fn := fun _ => fun
  | [d] => { results := [.lit (.bool true)], args := [d] }
  | _ => none }
def helloDecodesRow : OpenClaim := { program := "ytmomncmddejcoaa", sum := "7c02473870780223a7276bdc77b2368f6d9c35080b2fdf3837b6b40f3d68e791", func := "flange/flangelaw21.HelloDecodes", spec := "helloDecodes", unfollowed := true, recurses := true, apart := false }
def HelloDecodesSaid : Prop := helloDecodesRow.holds Try.pinned (OpenSpec.ofChange helloDecodesSpec)

/-- ITS FALSE NEIGHBOUR: 'it returns false'. Refute it at one input. -/
def helloDecodesWrong : ChangeSpec := { name := "helloDecodes", fn := fun _ => fun
  | [d] => { results := [.lit (.bool false)], args := [d] }
  | _ => none }
def HelloDecodesWrongFalsely : Prop := helloDecodesRow.holds Try.pinned (OpenSpec.ofChange helloDecodesWrong)

/- THE SECOND FORM. 'bulk': how many values and letters a reading holds, each counted each time it is reached (what is shared counts as often as it is met; a slice's spare places count too). A statement '..UptoSaid' is the law's where the arguments, and the package variables that the reading takes, are together of bulk at most 1048576: NARROWER than '..Said'. Prove '..Said' where nothing that the law and all that it calls make is longer than what came in: it says more and counts as full. Else prove '..UptoSaid'. A law counts once. -/
mutual
def uptoBulk {H : Type} : DataW H → Nat
  | .lit (.string bytes) => bytes.length + 1
  | .lit _ => 1
  | .nil => 1
  | .ptr d => uptoBulk d + 1
  | .slice elems spare => uptoBulkAll elems + uptoBulkAll spare + 1
  | .agg parts => uptoBulkAll parts + 1
  | .iface _ d => uptoBulk d + 1
  | .map entries => uptoBulkEntries entries + 1
  | .held _ => 1
def uptoBulkAll {H : Type} : List (DataW H) → Nat
  | [] => 0
  | d :: r => uptoBulk d + uptoBulkAll r
def uptoBulkEntries {H : Type} : List (Lit × DataW H) → Nat
  | [] => 0
  | x :: r => uptoBulkEntry x + uptoBulkEntries r
def uptoBulkEntry {H : Type} : Lit × DataW H → Nat
  | (.string bytes, d) => bytes.length + uptoBulk d + 1
  | (_, d) => uptoBulk d + 1
 end
def uptoSmall : (H : Type) → List (DataW H) → Bool := fun _ ds => decide (uptoBulkAll ds ≤ 1048576)
def OpenSpec.upto (s : _root_.Go.ChangeSpec) : _root_.Go.OpenSpec := { _root_.Go.OpenSpec.ofChange s with cond := some uptoSmall }

/-- 'flangelaw21.HelloAgrees', WHERE WHAT IT READS IS OF BULK AT MOST 1048576: true; the input reads as it did. -/
def helloAgreesUptoRow : OpenClaim := { program := "ytmomncmddejcoaa", sum := "7c02473870780223a7276bdc77b2368f6d9c35080b2fdf3837b6b40f3d68e791", func := "flange/flangelaw21.HelloAgrees", spec := "helloAgrees", unfollowed := true, recurses := true, apart := false, narrowed := true }
def HelloAgreesUptoSaid : Prop := helloAgreesUptoRow.holds Try.pinned (OpenSpec.upto helloAgreesSpec)

/-- 'flangelaw21.HelloOwn', WHERE WHAT IT READS IS OF BULK AT MOST 1048576: true; the input reads as it did. -/
def helloOwnUptoRow : OpenClaim := { program := "ytmomncmddejcoaa", sum := "7c02473870780223a7276bdc77b2368f6d9c35080b2fdf3837b6b40f3d68e791", func := "flange/flangelaw21.HelloOwn", spec := "helloOwn", unfollowed := true, recurses := true, apart := false, narrowed := true }
def HelloOwnUptoSaid : Prop := helloOwnUptoRow.holds Try.pinned (OpenSpec.upto helloOwnSpec)

/-- 'flangelaw02.MessageEncodes', WHERE WHAT IT READS IS OF BULK AT MOST 1048576: true; the input reads as it did. -/
def messageEncodesUptoRow : OpenClaim := { program := "ytmomncmddejcoaa", sum := "7c02473870780223a7276bdc77b2368f6d9c35080b2fdf3837b6b40f3d68e791", func := "flange/flangelaw02.MessageEncodes", spec := "messageEncodes", apart := false, narrowed := true }
def MessageEncodesUptoSaid : Prop := messageEncodesUptoRow.holds Try.pinned (OpenSpec.upto messageEncodesSpec)

/-- 'flangelaw02.MessageDecodes', WHERE WHAT IT READS IS OF BULK AT MOST 1048576: true; the input reads as it did. -/
def messageDecodesUptoRow : OpenClaim := { program := "ytmomncmddejcoaa", sum := "7c02473870780223a7276bdc77b2368f6d9c35080b2fdf3837b6b40f3d68e791", func := "flange/flangelaw02.MessageDecodes", spec := "messageDecodes", apart := false, narrowed := true }
def MessageDecodesUptoSaid : Prop := messageDecodesUptoRow.holds Try.pinned (OpenSpec.upto messageDecodesSpec)

/-- 'flangelaw02.MessageJoins', WHERE WHAT IT READS IS OF BULK AT MOST 1048576: true; the input reads as it did. -/
def messageJoinsUptoRow : OpenClaim := { program := "ytmomncmddejcoaa", sum := "7c02473870780223a7276bdc77b2368f6d9c35080b2fdf3837b6b40f3d68e791", func := "flange/flangelaw02.MessageJoins", spec := "messageJoins", apart := false, narrowed := true }
def MessageJoinsUptoSaid : Prop := messageJoinsUptoRow.holds Try.pinned (OpenSpec.upto messageJoinsSpec)

/-- 'flangelaw02.MessageMakes', WHERE WHAT IT READS IS OF BULK AT MOST 1048576: true; the input reads as it did. -/
def messageMakesUptoRow : OpenClaim := { program := "ytmomncmddejcoaa", sum := "7c02473870780223a7276bdc77b2368f6d9c35080b2fdf3837b6b40f3d68e791", func := "flange/flangelaw02.MessageMakes", spec := "messageMakes", apart := false, narrowed := true }
def MessageMakesUptoSaid : Prop := messageMakesUptoRow.holds Try.pinned (OpenSpec.upto messageMakesSpec)

/-- 'flangelaw02.MessageFinds', WHERE WHAT IT READS IS OF BULK AT MOST 1048576: true; the input reads as it did. -/
def messageFindsUptoRow : OpenClaim := { program := "ytmomncmddejcoaa", sum := "7c02473870780223a7276bdc77b2368f6d9c35080b2fdf3837b6b40f3d68e791", func := "flange/flangelaw02.MessageFinds", spec := "messageFinds", unfollowed := true, recurses := true, apart := false, narrowed := true }
def MessageFindsUptoSaid : Prop := messageFindsUptoRow.holds Try.pinned (OpenSpec.upto messageFindsSpec)

/-- 'flangelaw21.HelloCodes', WHERE WHAT IT READS IS OF BULK AT MOST 1048576: true; the input reads as it did. -/
def helloCodesUptoRow : OpenClaim := { program := "ytmomncmddejcoaa", sum := "7c02473870780223a7276bdc77b2368f6d9c35080b2fdf3837b6b40f3d68e791", func := "flange/flangelaw21.HelloCodes", spec := "helloCodes", unfollowed := true, recurses := true, apart := false, narrowed := true }
def HelloCodesUptoSaid : Prop := helloCodesUptoRow.holds Try.pinned (OpenSpec.upto helloCodesSpec)

/-- 'flangelaw21.HelloDecodes', WHERE WHAT IT READS IS OF BULK AT MOST 1048576: true; the input reads as it did. -/
def helloDecodesUptoRow : OpenClaim := { program := "ytmomncmddejcoaa", sum := "7c02473870780223a7276bdc77b2368f6d9c35080b2fdf3837b6b40f3d68e791", func := "flange/flangelaw21.HelloDecodes", spec := "helloDecodes", unfollowed := true, recurses := true, apart := false, narrowed := true }
def HelloDecodesUptoSaid : Prop := helloDecodesUptoRow.holds Try.pinned (OpenSpec.upto helloDecodesSpec)

end Rows
end Go.Proofs.Ytmomncmddejcoaa
