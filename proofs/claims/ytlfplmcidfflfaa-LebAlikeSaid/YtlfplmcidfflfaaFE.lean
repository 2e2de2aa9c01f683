/- The law LebAlike returns true for every input, and each of its arguments reads behind the call as it read before. No condition. -/
import Derived.Test.YtlfplmcidfflfaaRows
import Derived.Test.YtlfplmcidfflfaaLC
import Derived.ProofKit
set_option linter.unusedVariables false
set_option maxRecDepth 100000
namespace Go.Proofs.Ytlfplmcidfflfaa
open Go.ChangeShapes Go.WideShapes Go.ChangeAt Go.RowKit Go.Ab

theorem lebAlike_args (av : List AV) (h : ShapeAs X.P Try.f6.params.toList av) : ACall X 6 av [] (.c (fun r _ => r = .v (.bool true)) ()) := by
  obtain ⟨a1, av, rfl, h1, h⟩ := ShapeAs.inv h
  rw [h.inv0]
  obtain ⟨a1, rfl, w1⟩ := arg_u64 (by kernel_rfl) h1
  exact lalike_ok w1
theorem lebAlike_lifted (os : Os) (started : os.Started) (H : Type) (enc : TypeId × Value → H) :
    ReturnsInHanded {} Try.checked os 6 .any (Rows.lebAlikeSpec.pre6 enc Try.prog Try.f6 Rows.lebAlikeRow.domain false) (Rows.lebAlikeSpec.post enc Try.prog Try.f6 false true false false) := by
  refine returnsInHanded_of_change (C := Try.checked) (show ownKnob Try.prog.godebug = none by kernel_rfl) started (by kernel_rfl) Try.func6
    (ChangeSpec.witness6 (enc := enc) (C := Try.checked) false ⟨#[], #[.int .u64 0], []⟩ 8 (by kernel_rfl) (by kernel_rfl) (by kernel_rfl) (by kernel_rfl)) ?_
  intro W base args ds gs before hval hW hcnd _
  exact law_row (X := X) (tb := 4) (show laidOutB Try.prog = true by kernel_rfl) Try.func6 (by kernel_rfl) (by kernel_rfl) (fun _ h => absurd rfl h) (by kernel_rfl) (by kernel_rfl) (by kernel_rfl)
    (fun ds hd => by match ds, hd with | [d1], _ => rfl) rfl lebAlike_args hval hW
theorem lebAlike_holds : Rows.LebAlikeSaid :=
  OpenClaim.holds_of_wide 6 Try.f6 rfl rfl rfl rfl rfl rfl rfl ⟨rfl, rfl, rfl, rfl, rfl⟩ rfl rfl rfl rfl rfl (by kernel_rfl) Try.func6 (by kernel_rfl)
    (of_decide_eq_true (by kernel_rfl)) (by unfold Func.isWrapper; first | (rw [if_pos (by decide +kernel)]; kernel_rfl) | (rw [if_neg (by decide +kernel)]; exact ⟨rfl, rfl⟩))
    (fun os started H enc _ => lebAlike_lifted os started H enc)
end Go.Proofs.Ytlfplmcidfflfaa
