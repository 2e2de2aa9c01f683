/-
  DERIVED. GIVEN WITH THE SEED: THE CARDS: each row of YtmjjfchahkdceaaDoorRows.lean that lists a variable, with what it lists TIED to the program's text (the seventh form; the later family's looks); each row that meets fmt, with fmt's text TOLD by the authors' own Lean function (tested against real Go, not proved from fmt's source: count such statements apart). THE CARD IS WHAT COUNTS. Prove the row's statement (the work); the ties are given (YtmjjfchahkdceaaDoorTie.lean); close each card by the builder's one call (the guide's Derived/Test/ToyasCard.lean, 'card_holds'). Laid BY PROGRAM, IN A SANDBOX (cutbox-door.mjs). By AI agents, Wed Nov 11 2026. No macro, syntax, notation, axiom, sorry.
-/
import Derived.Test.YtmjjfchahkdceaaDoorRows
import GoSem.ClaimSeven
namespace Go.Proofs.YtmjjfchahkdceaaDoor
namespace Rows

/-- THE TIED CARD OF 'sindrilaw15.UnitAll'. -/
def unitAllCard : Claim7 := { stood := { row := unitAllRow, standIns := [], harness := (true, "32e6972b412f0aeceffbf92d9de83e74009943108409ca928626cef12a815b8a"), looks := false }, kinds := [], alts := [], laidByText := true, laidKinds := [.data], laidTests := true, laidLooks := .later }
def UnitAllCardSaid : Prop := Claim7.holds Tryd.pinned (.plain (OpenSpec.ofChange unitAllSpec)) unitAllCard

/-- THE TIED CARD OF 'sindrilaw15.UnitPuts'. -/
def unitPutsCard : Claim7 := { stood := { row := unitPutsRow, standIns := [], harness := (true, "32e6972b412f0aeceffbf92d9de83e74009943108409ca928626cef12a815b8a"), looks := false }, kinds := [], alts := [], laidByText := true, laidKinds := [.data], laidTests := true, laidLooks := .later }
def UnitPutsCardSaid : Prop := Claim7.holds Tryd.pinned (.plain (OpenSpec.ofChange unitPutsSpec)) unitPutsCard

/-- THE TIED CARD OF 'sindrilaw15.UnitBack'. -/
def unitBackCard : Claim7 := { stood := { row := unitBackRow, standIns := [], harness := (true, "32e6972b412f0aeceffbf92d9de83e74009943108409ca928626cef12a815b8a"), looks := false }, kinds := [], alts := [], laidByText := true, laidKinds := [.data], laidTests := true, laidLooks := .later }
def UnitBackCardSaid : Prop := Claim7.holds Tryd.pinned (.plain (OpenSpec.ofChange unitBackSpec)) unitBackCard

/-- THE SECOND FORM's CARD OF 'sindrilaw15.UnitAll'. -/
def unitAllUptoCard : Claim7 := { stood := { row := unitAllUptoRow, standIns := [], harness := (true, "32e6972b412f0aeceffbf92d9de83e74009943108409ca928626cef12a815b8a"), looks := false }, kinds := [], alts := [], laidByText := true, laidKinds := [.data], laidTests := true, laidLooks := .later }
def UnitAllUptoCardSaid : Prop := Claim7.holds Tryd.pinned (.plain (OpenSpec.upto unitAllSpec)) unitAllUptoCard

/-- THE SECOND FORM's CARD OF 'sindrilaw15.UnitPuts'. -/
def unitPutsUptoCard : Claim7 := { stood := { row := unitPutsUptoRow, standIns := [], harness := (true, "32e6972b412f0aeceffbf92d9de83e74009943108409ca928626cef12a815b8a"), looks := false }, kinds := [], alts := [], laidByText := true, laidKinds := [.data], laidTests := true, laidLooks := .later }
def UnitPutsUptoCardSaid : Prop := Claim7.holds Tryd.pinned (.plain (OpenSpec.upto unitPutsSpec)) unitPutsUptoCard

/-- THE SECOND FORM's CARD OF 'sindrilaw15.UnitBack'. -/
def unitBackUptoCard : Claim7 := { stood := { row := unitBackUptoRow, standIns := [], harness := (true, "32e6972b412f0aeceffbf92d9de83e74009943108409ca928626cef12a815b8a"), looks := false }, kinds := [], alts := [], laidByText := true, laidKinds := [.data], laidTests := true, laidLooks := .later }
def UnitBackUptoCardSaid : Prop := Claim7.holds Tryd.pinned (.plain (OpenSpec.upto unitBackSpec)) unitBackUptoCard
end Rows
end Go.Proofs.YtmjjfchahkdceaaDoor
