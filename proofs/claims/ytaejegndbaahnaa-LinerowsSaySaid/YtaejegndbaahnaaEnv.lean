import Derived.Test.YtaejegndbaahnaaChecked
import Derived.Test.YtaejegndbaahnaaAbC
import Derived.Eval
import Derived.KernelRfl
set_option linter.unusedVariables false
set_option maxRecDepth 100000
namespace Go.Proofs.Ytaejegndbaahnaa
open Go.Ab
noncomputable def X : Ctx := ⟨Try.prog, fun g => [], Try.checked.mixed⟩
end Go.Proofs.Ytaejegndbaahnaa
