import Derived.Test.YtknhhbbgcjidmaaChecked
import Derived.Test.YtknhhbbgcjidmaaAbC
import Derived.Eval
import Derived.KernelRfl
set_option linter.unusedVariables false
set_option maxRecDepth 100000
namespace Go.Proofs.Ytknhhbbgcjidmaa
open Go.Ab
noncomputable def X : Ctx := ⟨Try.prog, fun _ => [], Try.checked.mixed⟩
end Go.Proofs.Ytknhhbbgcjidmaa
