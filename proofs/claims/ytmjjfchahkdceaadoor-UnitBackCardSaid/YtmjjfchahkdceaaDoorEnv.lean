import Derived.Test.YtmjjfchahkdceaaDoorChecked
import Derived.Test.YtmjjfchahkdceaaDoorAbC
import Derived.Eval
import Derived.KernelRfl
set_option linter.unusedVariables false
set_option maxRecDepth 100000
namespace Go.Proofs.YtmjjfchahkdceaaDoor
open Go.Ab
noncomputable def X : Ctx := ⟨Tryd.prog, fun g => bif Nat.beq g 0 then [.v (.int .i64 4), .v (.int .i64 8)] else [], Tryd.checked.mixed⟩
end Go.Proofs.YtmjjfchahkdceaaDoor
