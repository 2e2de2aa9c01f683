/-
  DERIVED. GIVEN WITH THE SEED: THE CARDS: each row of YtlngajfpplebmaaDoorRows.lean that lists a variable, with what it lists TIED to the program's text (the seventh form; the later family's looks); each row that meets fmt, with fmt's text TOLD by the authors' own Lean function (tested against real Go, not proved from fmt's source: count such statements apart). THE CARD IS WHAT COUNTS. Prove the row's statement (the work); the ties are given (YtlngajfpplebmaaDoorTie.lean); close each card by the builder's one call (the guide's Derived/Test/ToyasCard.lean, 'card_holds'). Laid BY PROGRAM, IN A SANDBOX (cutbox-door.mjs). By AI agents, Wed Nov 11 2026. No macro, syntax, notation, axiom, sorry.
-/
import Derived.Test.YtlngajfpplebmaaDoorRows
import GoSem.ClaimSeven
namespace Go.Proofs.YtlngajfpplebmaaDoor
namespace Rows

/-- THE TIED CARD OF 'sindrilaw16.TablesPuts'. -/
def tablesPutsCard : Claim7 := { stood := { row := tablesPutsRow, standIns := [], harness := (true, "5d540fa8f21e4b73a0a7acd0ac96dc332ab42cd7cda33c8073c54ca0eb02e63c"), looks := false }, kinds := [], alts := [], laidByText := true, laidKinds := [.data], laidTests := true, laidLooks := .later }
def TablesPutsCardSaid : Prop := Claim7.holds Tryd.pinned (.plain (OpenSpec.ofChange tablesPutsSpec)) tablesPutsCard

/-- THE TIED CARD OF 'sindrilaw16.TablesTakes'. -/
def tablesTakesCard : Claim7 := { stood := { row := tablesTakesRow, standIns := [], harness := (true, "5d540fa8f21e4b73a0a7acd0ac96dc332ab42cd7cda33c8073c54ca0eb02e63c"), looks := false }, kinds := [], alts := [], laidByText := true, laidKinds := [.data], laidTests := true, laidLooks := .later }
def TablesTakesCardSaid : Prop := Claim7.holds Tryd.pinned (.plain (OpenSpec.ofChange tablesTakesSpec)) tablesTakesCard

/-- THE TIED CARD OF 'sindrilaw16.TablesBack'. -/
def tablesBackCard : Claim7 := { stood := { row := tablesBackRow, standIns := [], harness := (true, "5d540fa8f21e4b73a0a7acd0ac96dc332ab42cd7cda33c8073c54ca0eb02e63c"), looks := false }, kinds := [], alts := [], laidByText := true, laidKinds := [.data], laidTests := true, laidLooks := .later }
def TablesBackCardSaid : Prop := Claim7.holds Tryd.pinned (.plain (OpenSpec.ofChange tablesBackSpec)) tablesBackCard

/-- THE SECOND FORM's CARD OF 'sindrilaw16.TablesPuts'. -/
def tablesPutsUptoCard : Claim7 := { stood := { row := tablesPutsUptoRow, standIns := [], harness := (true, "5d540fa8f21e4b73a0a7acd0ac96dc332ab42cd7cda33c8073c54ca0eb02e63c"), looks := false }, kinds := [], alts := [], laidByText := true, laidKinds := [.data], laidTests := true, laidLooks := .later }
def TablesPutsUptoCardSaid : Prop := Claim7.holds Tryd.pinned (.plain (OpenSpec.upto tablesPutsSpec)) tablesPutsUptoCard

/-- THE SECOND FORM's CARD OF 'sindrilaw16.TablesTakes'. -/
def tablesTakesUptoCard : Claim7 := { stood := { row := tablesTakesUptoRow, standIns := [], harness := (true, "5d540fa8f21e4b73a0a7acd0ac96dc332ab42cd7cda33c8073c54ca0eb02e63c"), looks := false }, kinds := [], alts := [], laidByText := true, laidKinds := [.data], laidTests := true, laidLooks := .later }
def TablesTakesUptoCardSaid : Prop := Claim7.holds Tryd.pinned (.plain (OpenSpec.upto tablesTakesSpec)) tablesTakesUptoCard

/-- THE SECOND FORM's CARD OF 'sindrilaw16.TablesBack'. -/
def tablesBackUptoCard : Claim7 := { stood := { row := tablesBackUptoRow, standIns := [], harness := (true, "5d540fa8f21e4b73a0a7acd0ac96dc332ab42cd7cda33c8073c54ca0eb02e63c"), looks := false }, kinds := [], alts := [], laidByText := true, laidKinds := [.data], laidTests := true, laidLooks := .later }
def TablesBackUptoCardSaid : Prop := Claim7.holds Tryd.pinned (.plain (OpenSpec.upto tablesBackSpec)) tablesBackUptoCard
end Rows
end Go.Proofs.YtlngajfpplebmaaDoor
