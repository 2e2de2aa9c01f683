/-
  No cell of these rows narrows 'for every input' (looked for: loops, veiled, ifaces, maps, wideKeys, modest, calm, conditions, laid).
  DERIVED. THE GIVEN ROWS OF THIS SEAT. 6 by the template 'for every input the law returns true; each argument reads behind the call as it read before'; 0 by the template 'total and deterministic' (their statements: YtknhhbbgcjidmaaTotals.lean).
  GIVEN WITH THE SEED: the statements are not yours to turn. If you find one false, say at which input.
  Laid BY PROGRAM, IN A SANDBOX (cutbox-rows.mjs): the forced cells as the released guide's own fill.sh prints them over the translation cd5cc2075f1dbba0… (all of the seat's roots in one cut). By AI agents, Wed Nov 11 2026. No macro, syntax, notation, axiom, sorry.
-/
import Derived.Test.YtknhhbbgcjidmaaChecked
import GoSem.Claim
import GoSem.ClaimJoined
import GoSem.ClaimMapViews
import Derived.JoinedTies
import Derived.KernelRfl
namespace Go.Proofs.Ytknhhbbgcjidmaa
/- THE CELL 'sum', in the pinned program and in every row, IS THE sha256 OF THE DUMP (.gsa) THAT YtknhhbbgcjidmaaProg.lean LOADS. Nothing in Lean hashes anything: it is a label: what it is worth is what the hold of that sum in a sandbox is worth. -/
noncomputable def Try.pinned : Pinned := { name := "ytknhhbbgcjidmaa", sum := "cd5cc2075f1dbba020d6c2cd71a9d04fa917b83c42be8891076902f6ddbe333b", checked := Try.checked }
namespace Rows
def none {H : Type} : Left H := { results := [], args := [] }

/-- 'sindrilaw01.CursorPuts': WHATEVER THE INPUT: true; the input reads as it did. -/
def cursorPutsSpec : ChangeSpec := { name := "cursorPuts", fn := fun _ => fun
  | [d1, d2, d3] => { results := [.lit (.bool true)], args := [d1, d2, d3] }
  | _ => none }
def cursorPutsRow : OpenClaim := { program := "ytknhhbbgcjidmaa", sum := "cd5cc2075f1dbba020d6c2cd71a9d04fa917b83c42be8891076902f6ddbe333b", func := "sindri/sindrilaw01.CursorPuts", spec := "cursorPuts", apart := false }
def CursorPutsSaid : Prop := cursorPutsRow.holds Try.pinned (OpenSpec.ofChange cursorPutsSpec)

/-- ITS FALSE NEIGHBOUR: 'it returns false'. Refute it at one input. -/
def cursorPutsWrong : ChangeSpec := { name := "cursorPuts", fn := fun _ => fun
  | [d1, d2, d3] => { results := [.lit (.bool false)], args := [d1, d2, d3] }
  | _ => none }
def CursorPutsWrongFalsely : Prop := cursorPutsRow.holds Try.pinned (OpenSpec.ofChange cursorPutsWrong)

/-- 'sindrilaw01.CursorBack': WHATEVER THE INPUT: true; the input reads as it did. -/
def cursorBackSpec : ChangeSpec := { name := "cursorBack", fn := fun _ => fun
  | [d1, d2, d3] => { results := [.lit (.bool true)], args := [d1, d2, d3] }
  | _ => none }
def cursorBackRow : OpenClaim := { program := "ytknhhbbgcjidmaa", sum := "cd5cc2075f1dbba020d6c2cd71a9d04fa917b83c42be8891076902f6ddbe333b", func := "sindri/sindrilaw01.CursorBack", spec := "cursorBack", apart := false }
def CursorBackSaid : Prop := cursorBackRow.holds Try.pinned (OpenSpec.ofChange cursorBackSpec)

/-- ITS FALSE NEIGHBOUR: 'it returns false'. Refute it at one input. -/
def cursorBackWrong : ChangeSpec := { name := "cursorBack", fn := fun _ => fun
  | [d1, d2, d3] => { results := [.lit (.bool false)], args := [d1, d2, d3] }
  | _ => none }
def CursorBackWrongFalsely : Prop := cursorBackRow.holds Try.pinned (OpenSpec.ofChange cursorBackWrong)

/-- 'sindrilaw01.CursorSums': WHATEVER THE INPUT: true; the input reads as it did. -/
def cursorSumsSpec : ChangeSpec := { name := "cursorSums", fn := fun _ => fun
  | [d1, d2, d3] => { results := [.lit (.bool true)], args := [d1, d2, d3] }
  | _ => none }
def cursorSumsRow : OpenClaim := { program := "ytknhhbbgcjidmaa", sum := "cd5cc2075f1dbba020d6c2cd71a9d04fa917b83c42be8891076902f6ddbe333b", func := "sindri/sindrilaw01.CursorSums", spec := "cursorSums", apart := false }
def CursorSumsSaid : Prop := cursorSumsRow.holds Try.pinned (OpenSpec.ofChange cursorSumsSpec)

/-- ITS FALSE NEIGHBOUR: 'it returns false'. Refute it at one input. -/
def cursorSumsWrong : ChangeSpec := { name := "cursorSums", fn := fun _ => fun
  | [d1, d2, d3] => { results := [.lit (.bool false)], args := [d1, d2, d3] }
  | _ => none }
def CursorSumsWrongFalsely : Prop := cursorSumsRow.holds Try.pinned (OpenSpec.ofChange cursorSumsWrong)

/-- 'sindrilaw01.CursorParts': WHATEVER THE INPUT: true; the input reads as it did. -/
def cursorPartsSpec : ChangeSpec := { name := "cursorParts", fn := fun _ => fun
  | [d1, d2, d3] => { results := [.lit (.bool true)], args := [d1, d2, d3] }
  | _ => none }
def cursorPartsRow : OpenClaim := { program := "ytknhhbbgcjidmaa", sum := "cd5cc2075f1dbba020d6c2cd71a9d04fa917b83c42be8891076902f6ddbe333b", func := "sindri/sindrilaw01.CursorParts", spec := "cursorParts", apart := false }
def CursorPartsSaid : Prop := cursorPartsRow.holds Try.pinned (OpenSpec.ofChange cursorPartsSpec)

/-- ITS FALSE NEIGHBOUR: 'it returns false'. Refute it at one input. -/
def cursorPartsWrong : ChangeSpec := { name := "cursorParts", fn := fun _ => fun
  | [d1, d2, d3] => { results := [.lit (.bool false)], args := [d1, d2, d3] }
  | _ => none }
def CursorPartsWrongFalsely : Prop := cursorPartsRow.holds Try.pinned (OpenSpec.ofChange cursorPartsWrong)

/-- 'sindrilaw01.CursorPlays': WHATEVER THE INPUT: true; the input reads as it did. -/
def cursorPlaysSpec : ChangeSpec := { name := "cursorPlays", fn := fun _ => fun
  | [d1, d2] => { results := [.lit (.bool true)], args := [d1, d2] }
  | _ => none }
def cursorPlaysRow : OpenClaim := { program := "ytknhhbbgcjidmaa", sum := "cd5cc2075f1dbba020d6c2cd71a9d04fa917b83c42be8891076902f6ddbe333b", func := "sindri/sindrilaw01.CursorPlays", spec := "cursorPlays", apart := false }
def CursorPlaysSaid : Prop := cursorPlaysRow.holds Try.pinned (OpenSpec.ofChange cursorPlaysSpec)

/-- ITS FALSE NEIGHBOUR: 'it returns false'. Refute it at one input. -/
def cursorPlaysWrong : ChangeSpec := { name := "cursorPlays", fn := fun _ => fun
  | [d1, d2] => { results := [.lit (.bool false)], args := [d1, d2] }
  | _ => none }
def CursorPlaysWrongFalsely : Prop := cursorPlaysRow.holds Try.pinned (OpenSpec.ofChange cursorPlaysWrong)

/-- 'sindrilaw01.CursorNobody': WHATEVER THE INPUT: true; the input reads as it did. -/
def cursorNobodySpec : ChangeSpec := { name := "cursorNobody", fn := fun _ => fun
  | [d1, d2] => { results := [.lit (.bool true)], args := [d1, d2] }
  | _ => none }
def cursorNobodyRow : OpenClaim := { program := "ytknhhbbgcjidmaa", sum := "cd5cc2075f1dbba020d6c2cd71a9d04fa917b83c42be8891076902f6ddbe333b", func := "sindri/sindrilaw01.CursorNobody", spec := "cursorNobody", apart := false }
def CursorNobodySaid : Prop := cursorNobodyRow.holds Try.pinned (OpenSpec.ofChange cursorNobodySpec)

/-- ITS FALSE NEIGHBOUR: 'it returns false'. Refute it at one input. -/
def cursorNobodyWrong : ChangeSpec := { name := "cursorNobody", fn := fun _ => fun
  | [d1, d2] => { results := [.lit (.bool false)], args := [d1, d2] }
  | _ => none }
def CursorNobodyWrongFalsely : Prop := cursorNobodyRow.holds Try.pinned (OpenSpec.ofChange cursorNobodyWrong)

/- THE SECOND FORM. 'bulk': how many values and letters a reading holds, each counted each time it is reached (what is shared counts as often as it is met; a slice's spare places count too). A statement '..UptoSaid' is the law's where the arguments, and the package variables that the reading takes, are together of bulk at most 1048576: NARROWER than '..Said'. Prove '..Said' where nothing that the law and all that it calls make is longer than what came in: it says more and counts as full. Else prove '..UptoSaid'. A law counts once. -/
mutual
def uptoBulk {H : Type} : DataW H → Nat
  | .lit (.string bytes) => bytes.length + 1
  | .lit _ => 1
  | .nil => 1
  | .ptr d => uptoBulk d + 1
  | .slice elems spare => uptoBulkAll elems + uptoBulkAll spare + 1
  | .agg parts => uptoBulkAll parts + 1
  | .iface _ d => uptoBulk d + 1
  | .map entries => uptoBulkEntries entries + 1
  | .held _ => 1
def uptoBulkAll {H : Type} : List (DataW H) → Nat
  | [] => 0
  | d :: r => uptoBulk d + uptoBulkAll r
def uptoBulkEntries {H : Type} : List (Lit × DataW H) → Nat
  | [] => 0
  | x :: r => uptoBulkEntry x + uptoBulkEntries r
def uptoBulkEntry {H : Type} : Lit × DataW H → Nat
  | (.string bytes, d) => bytes.length + uptoBulk d + 1
  | (_, d) => uptoBulk d + 1
 end
def uptoSmall : (H : Type) → List (DataW H) → Bool := fun _ ds => decide (uptoBulkAll ds ≤ 1048576)
def OpenSpec.upto (s : _root_.Go.ChangeSpec) : _root_.Go.OpenSpec := { _root_.Go.OpenSpec.ofChange s with cond := some uptoSmall }

/-- 'sindrilaw01.CursorPuts', WHERE WHAT IT READS IS OF BULK AT MOST 1048576: true; the input reads as it did. -/
def cursorPutsUptoRow : OpenClaim := { program := "ytknhhbbgcjidmaa", sum := "cd5cc2075f1dbba020d6c2cd71a9d04fa917b83c42be8891076902f6ddbe333b", func := "sindri/sindrilaw01.CursorPuts", spec := "cursorPuts", apart := false, narrowed := true }
def CursorPutsUptoSaid : Prop := cursorPutsUptoRow.holds Try.pinned (OpenSpec.upto cursorPutsSpec)

/-- 'sindrilaw01.CursorBack', WHERE WHAT IT READS IS OF BULK AT MOST 1048576: true; the input reads as it did. -/
def cursorBackUptoRow : OpenClaim := { program := "ytknhhbbgcjidmaa", sum := "cd5cc2075f1dbba020d6c2cd71a9d04fa917b83c42be8891076902f6ddbe333b", func := "sindri/sindrilaw01.CursorBack", spec := "cursorBack", apart := false, narrowed := true }
def CursorBackUptoSaid : Prop := cursorBackUptoRow.holds Try.pinned (OpenSpec.upto cursorBackSpec)

/-- 'sindrilaw01.CursorSums', WHERE WHAT IT READS IS OF BULK AT MOST 1048576: true; the input reads as it did. -/
def cursorSumsUptoRow : OpenClaim := { program := "ytknhhbbgcjidmaa", sum := "cd5cc2075f1dbba020d6c2cd71a9d04fa917b83c42be8891076902f6ddbe333b", func := "sindri/sindrilaw01.CursorSums", spec := "cursorSums", apart := false, narrowed := true }
def CursorSumsUptoSaid : Prop := cursorSumsUptoRow.holds Try.pinned (OpenSpec.upto cursorSumsSpec)

/-- 'sindrilaw01.CursorParts', WHERE WHAT IT READS IS OF BULK AT MOST 1048576: true; the input reads as it did. -/
def cursorPartsUptoRow : OpenClaim := { program := "ytknhhbbgcjidmaa", sum := "cd5cc2075f1dbba020d6c2cd71a9d04fa917b83c42be8891076902f6ddbe333b", func := "sindri/sindrilaw01.CursorParts", spec := "cursorParts", apart := false, narrowed := true }
def CursorPartsUptoSaid : Prop := cursorPartsUptoRow.holds Try.pinned (OpenSpec.upto cursorPartsSpec)

/-- 'sindrilaw01.CursorPlays', WHERE WHAT IT READS IS OF BULK AT MOST 1048576: true; the input reads as it did. -/
def cursorPlaysUptoRow : OpenClaim := { program := "ytknhhbbgcjidmaa", sum := "cd5cc2075f1dbba020d6c2cd71a9d04fa917b83c42be8891076902f6ddbe333b", func := "sindri/sindrilaw01.CursorPlays", spec := "cursorPlays", apart := false, narrowed := true }
def CursorPlaysUptoSaid : Prop := cursorPlaysUptoRow.holds Try.pinned (OpenSpec.upto cursorPlaysSpec)

/-- 'sindrilaw01.CursorNobody', WHERE WHAT IT READS IS OF BULK AT MOST 1048576: true; the input reads as it did. -/
def cursorNobodyUptoRow : OpenClaim := { program := "ytknhhbbgcjidmaa", sum := "cd5cc2075f1dbba020d6c2cd71a9d04fa917b83c42be8891076902f6ddbe333b", func := "sindri/sindrilaw01.CursorNobody", spec := "cursorNobody", apart := false, narrowed := true }
def CursorNobodyUptoSaid : Prop := cursorNobodyUptoRow.holds Try.pinned (OpenSpec.upto cursorNobodySpec)

end Rows
end Go.Proofs.Ytknhhbbgcjidmaa
