/-
  DERIVED. GIVEN WITH THE SEED: THE CARDS: each row of YtpnlhcoenpnhbaaDoorRows.lean that lists a variable, with what it lists TIED to the program's text (the seventh form; the later family's looks); each row that meets fmt, with fmt's text TOLD by the authors' own Lean function (tested against real Go, not proved from fmt's source: count such statements apart). THE CARD IS WHAT COUNTS. Prove the row's statement (the work); the ties are given (YtpnlhcoenpnhbaaDoorTie.lean); close each card by the builder's one call (the guide's Derived/Test/ToyasCard.lean, 'card_holds'). Laid BY PROGRAM, IN A SANDBOX (cutbox-door.mjs). By AI agents, Wed Nov 11 2026. No macro, syntax, notation, axiom, sorry.
-/
import Derived.Test.YtpnlhcoenpnhbaaDoorRows
import GoSem.ClaimSeven
namespace Go.Proofs.YtpnlhcoenpnhbaaDoor
namespace Rows

/-- THE TIED CARD OF 'sindrilaw05.LengthPuts'. -/
def lengthPutsCard : Claim7 := { stood := { row := lengthPutsRow, standIns := [], harness := (true, "09f3b4270c72f70fb6761fdaf5adca2c382d7f0516328566032c030252b0131a"), looks := false }, kinds := [], alts := [], laidByText := true, laidKinds := [.data], laidTests := true, laidLooks := .later }
def LengthPutsCardSaid : Prop := Claim7.holds Tryd.pinned (.plain (OpenSpec.ofChange lengthPutsSpec)) lengthPutsCard

/-- THE TIED CARD OF 'sindrilaw05.LengthBack'. -/
def lengthBackCard : Claim7 := { stood := { row := lengthBackRow, standIns := [], harness := (true, "09f3b4270c72f70fb6761fdaf5adca2c382d7f0516328566032c030252b0131a"), looks := false }, kinds := [], alts := [], laidByText := true, laidKinds := [.data], laidTests := true, laidLooks := .later }
def LengthBackCardSaid : Prop := Claim7.holds Tryd.pinned (.plain (OpenSpec.ofChange lengthBackSpec)) lengthBackCard

/-- THE TIED CARD OF 'sindrilaw05.LengthTakes'. -/
def lengthTakesCard : Claim7 := { stood := { row := lengthTakesRow, standIns := [], harness := (true, "09f3b4270c72f70fb6761fdaf5adca2c382d7f0516328566032c030252b0131a"), looks := false }, kinds := [], alts := [], laidByText := true, laidKinds := [.data], laidTests := true, laidLooks := .later }
def LengthTakesCardSaid : Prop := Claim7.holds Tryd.pinned (.plain (OpenSpec.ofChange lengthTakesSpec)) lengthTakesCard

/-- THE TIED CARD OF 'sindrilaw05.LengthNests'. -/
def lengthNestsCard : Claim7 := { stood := { row := lengthNestsRow, standIns := [], harness := (true, "09f3b4270c72f70fb6761fdaf5adca2c382d7f0516328566032c030252b0131a"), looks := false }, kinds := [], alts := [], laidByText := true, laidKinds := [.data], laidTests := true, laidLooks := .later }
def LengthNestsCardSaid : Prop := Claim7.holds Tryd.pinned (.plain (OpenSpec.ofChange lengthNestsSpec)) lengthNestsCard

/-- THE SECOND FORM's CARD OF 'sindrilaw05.LengthPuts'. -/
def lengthPutsUptoCard : Claim7 := { stood := { row := lengthPutsUptoRow, standIns := [], harness := (true, "09f3b4270c72f70fb6761fdaf5adca2c382d7f0516328566032c030252b0131a"), looks := false }, kinds := [], alts := [], laidByText := true, laidKinds := [.data], laidTests := true, laidLooks := .later }
def LengthPutsUptoCardSaid : Prop := Claim7.holds Tryd.pinned (.plain (OpenSpec.upto lengthPutsSpec)) lengthPutsUptoCard

/-- THE SECOND FORM's CARD OF 'sindrilaw05.LengthBack'. -/
def lengthBackUptoCard : Claim7 := { stood := { row := lengthBackUptoRow, standIns := [], harness := (true, "09f3b4270c72f70fb6761fdaf5adca2c382d7f0516328566032c030252b0131a"), looks := false }, kinds := [], alts := [], laidByText := true, laidKinds := [.data], laidTests := true, laidLooks := .later }
def LengthBackUptoCardSaid : Prop := Claim7.holds Tryd.pinned (.plain (OpenSpec.upto lengthBackSpec)) lengthBackUptoCard

/-- THE SECOND FORM's CARD OF 'sindrilaw05.LengthTakes'. -/
def lengthTakesUptoCard : Claim7 := { stood := { row := lengthTakesUptoRow, standIns := [], harness := (true, "09f3b4270c72f70fb6761fdaf5adca2c382d7f0516328566032c030252b0131a"), looks := false }, kinds := [], alts := [], laidByText := true, laidKinds := [.data], laidTests := true, laidLooks := .later }
def LengthTakesUptoCardSaid : Prop := Claim7.holds Tryd.pinned (.plain (OpenSpec.upto lengthTakesSpec)) lengthTakesUptoCard

/-- THE SECOND FORM's CARD OF 'sindrilaw05.LengthNests'. -/
def lengthNestsUptoCard : Claim7 := { stood := { row := lengthNestsUptoRow, standIns := [], harness := (true, "09f3b4270c72f70fb6761fdaf5adca2c382d7f0516328566032c030252b0131a"), looks := false }, kinds := [], alts := [], laidByText := true, laidKinds := [.data], laidTests := true, laidLooks := .later }
def LengthNestsUptoCardSaid : Prop := Claim7.holds Tryd.pinned (.plain (OpenSpec.upto lengthNestsSpec)) lengthNestsUptoCard
end Rows
end Go.Proofs.YtpnlhcoenpnhbaaDoor
