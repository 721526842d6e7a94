/- What a row's arguments stand for, with what the row says of their bytes. -/
import Derived.Test.YtjlphncecdlmcaaVm21
import Derived.SizedLaws
set_option linter.unusedVariables false
set_option linter.unusedSimpArgs false
namespace Go.Vm
open Go.RowKit
section
variable {P : Program} {n : Nat} {T e : TypeId} {vs : List V}
end
end Go.Vm
