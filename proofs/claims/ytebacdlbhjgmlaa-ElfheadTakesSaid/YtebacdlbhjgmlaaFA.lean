/- The law ElfheadTakes returns true for every input, and each of its arguments reads behind the call as it read before. No condition. -/
import Derived.Test.YtebacdlbhjgmlaaRows
import Derived.Test.YtebacdlbhjgmlaaLA
import Derived.ProofKit
set_option linter.unusedVariables false
set_option maxRecDepth 100000
namespace Go.Proofs.Ytebacdlbhjgmlaa
open Go.ChangeShapes Go.WideShapes Go.ChangeAt Go.RowKit Go.Ab

theorem elfheadTakes_args (av : List AV) (h : ShapeAs X.P Try.f3.params.toList av) (hz : Lens X.P Try.f3.params.toList av) : ACall X 3 av [] (.c (fun r _ => r = .v (.bool true)) ()) := by
  obtain ⟨a1, av, rfl, h1, h⟩ := ShapeAs.inv h
  rw [h.inv0]
  obtain ⟨a1, rfl, w1⟩ := arg_bytes (e := 5) (by kernel_rfl) (by kernel_rfl) h1
  have z1 := hz 0 22 5 _ _ (by kernel_rfl) (by kernel_rfl) rfl
  rw [show X.P.bytesOf 5 = 1 by kernel_rfl] at z1
  exact etakes_ok (Nat.le_trans (by omega) (show reachBytes ≤ bigRoom by decide))
theorem elfheadTakes_lifted (os : Os) (started : os.Started) (H : Type) (enc : TypeId × Value → H) :
    ReturnsInHanded {} Try.checked os 3 .any (Rows.elfheadTakesSpec.pre6 enc Try.prog Try.f3 Rows.elfheadTakesRow.domain false) (Rows.elfheadTakesSpec.post enc Try.prog Try.f3 false true false false) := by
  refine returnsInHanded_of_change_sized (C := Try.checked) (show ownKnob Try.prog.godebug = none by kernel_rfl) started (by kernel_rfl) Try.func3
    (ChangeSpec.witness6 (enc := enc) (C := Try.checked) false ⟨#[], #[.slice none 0 0], []⟩ 8 (by kernel_rfl) (by kernel_rfl) (by kernel_rfl) (by kernel_rfl)) ?_
  intro W base args ds gs before hval hW hcnd hsz _
  exact law_row_sized (X := X) (tb := 4) (show laidOutB Try.prog = true by kernel_rfl) Try.func3 (by kernel_rfl) (by kernel_rfl) (fun _ h => absurd rfl h) (by kernel_rfl) (by kernel_rfl) (by kernel_rfl)
    (fun ds hd => by match ds, hd with | [d1], _ => rfl) rfl elfheadTakes_args hval hW hsz
theorem elfheadTakes_holds : Rows.ElfheadTakesSaid :=
  OpenClaim.holds_of_wide 3 Try.f3 rfl rfl rfl rfl rfl rfl rfl ⟨rfl, rfl, rfl, rfl, rfl⟩ rfl rfl rfl rfl rfl (by kernel_rfl) Try.func3 (by kernel_rfl)
    (of_decide_eq_true (by kernel_rfl)) (by unfold Func.isWrapper; first | (rw [if_pos (by decide +kernel)]; kernel_rfl) | (rw [if_neg (by decide +kernel)]; exact ⟨rfl, rfl⟩))
    (fun os started H enc _ => elfheadTakes_lifted os started H enc)
end Go.Proofs.Ytebacdlbhjgmlaa
