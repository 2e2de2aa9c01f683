import Derived.Test.YtebacdlbhjgmlaaChecked
import Derived.Test.YtebacdlbhjgmlaaAbC
import Derived.Eval
import Derived.KernelRfl
set_option linter.unusedVariables false
set_option maxRecDepth 100000
namespace Go.Proofs.Ytebacdlbhjgmlaa
open Go.Ab
noncomputable def X : Ctx := ⟨Try.prog, fun g => [], Try.checked.mixed⟩
end Go.Proofs.Ytebacdlbhjgmlaa
