/- The law UnitBack returns true for every input, and each of its arguments reads behind the call as it read before, where the package-level table that the card lists holds what the program's text lays: the card ties it. No other condition. -/
import Derived.Test.YtmjjfchahkdceaaDoorCards
import Derived.Test.YtmjjfchahkdceaaDoorTie
import Derived.Test.YtmjjfchahkdceaaDoorLC
import Derived.ProofKit
import Derived.LaidMore
import Derived.OpenShut
import Derived.Stop.Joined
import Derived.SevenTiedAt
set_option linter.unusedVariables false
set_option maxRecDepth 100000
namespace Go.Proofs.YtmjjfchahkdceaaDoor
open Go Go.ChangeShapes Go.WideShapes Go.ChangeAt Go.WideMaps Go.WideElems Go.RowKit Go.Ab

theorem unitBack_args (av : List AV) (h : ShapeAs X.P Tryd.f5.params.toList av) : ACall X 5 av [] (.c (fun r _ => r = .v (.bool true)) ()) := by
  obtain ⟨a1, av, rfl, h1, h⟩ := ShapeAs.inv h
  rw [h.inv0]
  obtain ⟨a1, rfl, w1, v1⟩ := arg_bodies (e := 48) (d := 38) (y := 22) (u8 := 5) (i := 3) (b := 4) (u := 23) (by kernel_rfl) (by kernel_rfl) (by kernel_rfl) (by kernel_rfl) (by kernel_rfl) (by kernel_rfl) (by kernel_rfl) (by kernel_rfl) h1
  exact uback_ok w1
theorem unitBack_glob {W : World} (h : laidMetH Tryd.prog Rows.unitBackRow.laid W) : GlobIn X W := by
  have hc := laid_ints (P := Tryd.prog) (W := W) (name := "sindri/length.sizes") (g := 0) (T := 82) (E := 3) (k := .i64) (l := [4, 8]) rfl (by kernel_rfl) (by kernel_rfl) (by kernel_rfl) (by kernel_rfl) (by kernel_rfl) (by kernel_rfl) h (by kernel_rfl)
  intro g hg
  match g, hg with
  | 0, _ =>
    refine ⟨[.int .i64 4, .int .i64 8], .cons (.v _) (.cons (.v _) (.nil)), fun j u hu => ?_⟩
    have hj : W.cell? ⟨0, j, none⟩ = some u ∧ u.oneCell' = true := by
      match j, hu with
      | 0, hu => cases hu; exact ⟨hc 0 _ rfl, rfl⟩
      | 1, hu => cases hu; exact ⟨hc 1 _ rfl, rfl⟩
      | j + 2, hu => cases hu
    exact ⟨cell_lt hj.1, hj⟩
  | g + 1, hg => exact absurd rfl hg
theorem unitBack_met (os : Os) (args : Array Value) : laidMetH Tryd.prog Rows.unitBackRow.laid ((World.doorLaid Tryd.prog 14 os).forCall (fun _ _ => 0) ⟨#[], args, []⟩).memory :=
  laidMetH_of_parts3 (fuel := 8) (laidMet_of_run' 8 (by kernel_rfl) (by kernel_rfl)) (by kernel_rfl) (by kernel_rfl)
theorem unitBack_lifted (os : Os) (started : os.Started) (H : Type) (enc : TypeId × Value → H) :
    ReturnsInHanded {} Tryd.checked os 5 .any (fun w args => (Rows.unitBackSpec.pre enc Tryd.prog Tryd.f5 [] false w args ∧ laidMetH Tryd.prog Rows.unitBackRow.laid w) ∧ sizedMet enc Tryd.prog Tryd.f5 (OpenSpec.ofChange Rows.unitBackSpec) false w args)
      (Rows.unitBackSpec.post enc Tryd.prog Tryd.f5 false true false false) := by
  refine returnsInHanded_of_change_and (C := Tryd.checked) (X := fun w _ => laidMetH Tryd.prog Rows.unitBackRow.laid w) (fun _ _ _ hh h => h.of_heap hh) (show ownKnob Tryd.prog.godebug = none by kernel_rfl) started (by kernel_rfl) Tryd.func5
    (ChangeSpec.witness_shaped (enc := enc) (C := Tryd.checked) (os := os) (X := fun w _ => laidMetH Tryd.prog Rows.unitBackRow.laid w) false (World.doorLaid Tryd.prog 14 os) #[.slice none 0 0] 8 rfl (World.shaped_of_RefB (by kernel_rfl) (by kernel_rfl)) (by kernel_rfl) (by kernel_rfl) (by kernel_rfl) (unitBack_met os _)) ?_
  intro W base args ds gs before hval hW _ _ hL _
  exact law_row (X := X) (tb := 4) (show laidOutB Tryd.prog = true by kernel_rfl) Tryd.func5 (by kernel_rfl) (by kernel_rfl) (unitBack_glob hL) (by kernel_rfl) (by kernel_rfl) (by kernel_rfl)
    (fun ds hd => by match ds, hd with | [d1], _ => rfl) rfl unitBack_args hval hW
theorem unitBack_row : Rows.unitBackRow.holds Tryd.pinned (OpenSpec.ofChange Rows.unitBackSpec) :=
  OpenClaim.holds_of_wide 5 Tryd.f5 rfl rfl rfl rfl rfl rfl rfl ⟨rfl, rfl, rfl, rfl, rfl⟩ rfl rfl rfl rfl rfl (by kernel_rfl) Tryd.func5 (by kernel_rfl)
    (of_decide_eq_true (by kernel_rfl)) (by unfold Func.isWrapper; first | (rw [if_pos (by decide +kernel)]; kernel_rfl) | (rw [if_neg (by decide +kernel)]; exact ⟨rfl, rfl⟩))
    (fun os started H enc _ => unitBack_lifted os started H enc)
theorem unitBack_card : Rows.UnitBackCardSaid :=
  Claim7.holds_tied_plain_at .later [] [.data] true (true, "32e6972b412f0aeceffbf92d9de83e74009943108409ca928626cef12a815b8a") false
    unitBack_row (fun _ h => by cases h) (by kernel_rfl) (fun _ h => by cases h) unitBack_row_tie rfl ⟨rfl, rfl⟩ (by kernel_rfl) rfl
    (fun f fn hf hfn => by
      obtain rfl : f = 5 := Option.some.inj ((show Tryd.prog.funcNamed "sindri/sindrilaw15.UnitBack" = some 5 by kernel_rfl).symm.trans hf) |>.symm
      obtain rfl : fn = Tryd.f5 := (Option.some.inj (Tryd.func5.symm.trans hfn)).symm
      exact ⟨by kernel_rfl, fun j t ht => by
        have hm : t ∈ Tryd.f5.params.toList := by simpa using Array.mem_of_getElem? ht
        have hall : (Tryd.f5.params.toList.all fun u => !Tryd.prog.wantsStandIn u) = true := by kernel_rfl
        exact (show Tryd.prog.wantsStandIn t = false by simpa using List.all_eq_true.1 hall t hm)⟩)
    (by kernel_rfl)
end Go.Proofs.YtmjjfchahkdceaaDoor
