import Derived.Test.YtlfplmcidfflfaaChecked
import Derived.Test.YtlfplmcidfflfaaAbC
import Derived.Eval
import Derived.KernelRfl
set_option linter.unusedVariables false
set_option maxRecDepth 100000
namespace Go.Proofs.Ytlfplmcidfflfaa
open Go.Ab
noncomputable def X : Ctx := ⟨Try.prog, fun g => [], Try.checked.mixed⟩
end Go.Proofs.Ytlfplmcidfflfaa
