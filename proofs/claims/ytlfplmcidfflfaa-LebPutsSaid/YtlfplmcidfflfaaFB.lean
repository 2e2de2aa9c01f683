/- The law LebPuts returns true for every input, and each of its arguments reads behind the call as it read before. No condition. -/
import Derived.Test.YtlfplmcidfflfaaRows
import Derived.Test.YtlfplmcidfflfaaLB
import Derived.ProofKit
set_option linter.unusedVariables false
set_option maxRecDepth 100000
namespace Go.Proofs.Ytlfplmcidfflfaa
open Go.ChangeShapes Go.WideShapes Go.ChangeAt Go.RowKit Go.Ab

theorem lebPuts_args (av : List AV) (h : ShapeAs X.P Try.f4.params.toList av) : ACall X 4 av [] (.c (fun r _ => r = .v (.bool true)) ()) := by
  obtain ⟨a1, av, rfl, h1, h⟩ := ShapeAs.inv h
  obtain ⟨a2, av, rfl, h2, h⟩ := ShapeAs.inv h
  obtain ⟨a3, av, rfl, h3, h⟩ := ShapeAs.inv h
  obtain ⟨a4, av, rfl, h4, h⟩ := ShapeAs.inv h
  rw [h.inv0]
  obtain ⟨a1, rfl, w1⟩ := arg_bytes (e := 5) (by kernel_rfl) (by kernel_rfl) h1
  obtain ⟨a2, rfl, w2⟩ := arg_u64 (by kernel_rfl) h2
  obtain ⟨a3, rfl, w3, v3⟩ := arg_i64 (by kernel_rfl) h3
  obtain ⟨a4, rfl, w4, v4⟩ := arg_i64 (by kernel_rfl) h4
  exact lputs_ok w2 w3 v3
theorem lebPuts_lifted (os : Os) (started : os.Started) (H : Type) (enc : TypeId × Value → H) :
    ReturnsInHanded {} Try.checked os 4 .any (Rows.lebPutsSpec.pre6 enc Try.prog Try.f4 Rows.lebPutsRow.domain false) (Rows.lebPutsSpec.post enc Try.prog Try.f4 false true false false) := by
  refine returnsInHanded_of_change (C := Try.checked) (show ownKnob Try.prog.godebug = none by kernel_rfl) started (by kernel_rfl) Try.func4
    (ChangeSpec.witness6 (enc := enc) (C := Try.checked) false ⟨#[], #[.slice none 0 0, .int .u64 0, .int .i64 0, .int .i64 0], []⟩ 8 (by kernel_rfl) (by kernel_rfl) (by kernel_rfl) (by kernel_rfl)) ?_
  intro W base args ds gs before hval hW hcnd _
  exact law_row (X := X) (tb := 4) (show laidOutB Try.prog = true by kernel_rfl) Try.func4 (by kernel_rfl) (by kernel_rfl) (fun _ h => absurd rfl h) (by kernel_rfl) (by kernel_rfl) (by kernel_rfl)
    (fun ds hd => by match ds, hd with | [d1, d2, d3, d4], _ => rfl) rfl lebPuts_args hval hW
theorem lebPuts_holds : Rows.LebPutsSaid :=
  OpenClaim.holds_of_wide 4 Try.f4 rfl rfl rfl rfl rfl rfl rfl ⟨rfl, rfl, rfl, rfl, rfl⟩ rfl rfl rfl rfl rfl (by kernel_rfl) Try.func4 (by kernel_rfl)
    (of_decide_eq_true (by kernel_rfl)) (by unfold Func.isWrapper; first | (rw [if_pos (by decide +kernel)]; kernel_rfl) | (rw [if_neg (by decide +kernel)]; exact ⟨rfl, rfl⟩))
    (fun os started H enc _ => lebPuts_lifted os started H enc)
end Go.Proofs.Ytlfplmcidfflfaa
