import Derived.Test.YtgpddpdhkhfdjaaCA
import Derived.Test.YtgpddpdhkhfdjaaGA
set_option linter.unusedVariables false
set_option linter.unusedSimpArgs false
set_option maxRecDepth 100000
namespace Go.Proofs.Ytgpddpdhkhfdjaa
open Go.Ab
variable {c : Cur} {h : Heap} {id : Nat} {K : Kt}

theorem ecase (c : Cur) : (c.e = 0 ∧ (c.e == 0) = true ∧ (c.e != 0) = false) ∨ (c.e ≠ 0 ∧ (c.e == 0) = false ∧ (c.e != 0) = true) := by
  by_cases h : c.e = 0
  · exact .inl ⟨h, by simp [h], by simp [h]⟩
  · exact .inr ⟨h, by simp [h], by simp [h]⟩
end Go.Proofs.Ytgpddpdhkhfdjaa
