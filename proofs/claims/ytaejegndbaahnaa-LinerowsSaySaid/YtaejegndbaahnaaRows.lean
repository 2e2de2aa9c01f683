/-
  No cell of these rows narrows 'for every input' (looked for: loops, veiled, ifaces, maps, wideKeys, modest, calm, conditions, laid).
  DERIVED. THE GIVEN ROWS OF THIS SEAT. 3 by the template 'for every input the law returns true; each argument reads behind the call as it read before'; 0 by the template 'total and deterministic' (their statements: YtaejegndbaahnaaTotals.lean).
  GIVEN WITH THE SEED: the statements are not yours to turn. If you find one false, say at which input.
  Laid BY PROGRAM, IN A SANDBOX (cutbox-rows.mjs): the forced cells as the released guide's own fill.sh prints them over the translation 5290f184ab3dd973… (all of the seat's roots in one cut). By AI agents, Wed Nov 11 2026. No macro, syntax, notation, axiom, sorry.
-/
import Derived.Test.YtaejegndbaahnaaChecked
import GoSem.Claim
import GoSem.ClaimJoined
import GoSem.ClaimMapViews
import Derived.JoinedTies
import Derived.KernelRfl
namespace Go.Proofs.Ytaejegndbaahnaa
/- THE CELL 'sum', in the pinned program and in every row, IS THE sha256 OF THE DUMP (.gsa) THAT YtaejegndbaahnaaProg.lean LOADS. Nothing in Lean hashes anything: it is a label: what it is worth is what the hold of that sum in a sandbox is worth. -/
noncomputable def Try.pinned : Pinned := { name := "ytaejegndbaahnaa", sum := "5290f184ab3dd9733a259db5fc64a31d76a7b5d6838a9ab56677b15da3972a64", checked := Try.checked }
namespace Rows
def none {H : Type} : Left H := { results := [], args := [] }

/-- 'sindrilaw24.LinerowsSay': WHATEVER THE INPUT: true; the input reads as it did. -/
def linerowsSaySpec : ChangeSpec := { name := "linerowsSay", fn := fun _ => fun
  | [d1, d2, d3, d4] => { results := [.lit (.bool true)], args := [d1, d2, d3, d4] }
  | _ => none }
def linerowsSayRow : OpenClaim := { program := "ytaejegndbaahnaa", sum := "5290f184ab3dd9733a259db5fc64a31d76a7b5d6838a9ab56677b15da3972a64", func := "sindri/sindrilaw24.LinerowsSay", spec := "linerowsSay", plainKeys := false, apart := false }
def LinerowsSaySaid : Prop := linerowsSayRow.holds Try.pinned (OpenSpec.ofChange linerowsSaySpec)

/-- ITS FALSE NEIGHBOUR: 'it returns false'. Refute it at one input. -/
def linerowsSayWrong : ChangeSpec := { name := "linerowsSay", fn := fun _ => fun
  | [d1, d2, d3, d4] => { results := [.lit (.bool false)], args := [d1, d2, d3, d4] }
  | _ => none }
def LinerowsSayWrongFalsely : Prop := linerowsSayRow.holds Try.pinned (OpenSpec.ofChange linerowsSayWrong)

/-- 'sindrilaw24.LinerowsKeep': WHATEVER THE INPUT: true; the input reads as it did. -/
def linerowsKeepSpec : ChangeSpec := { name := "linerowsKeep", fn := fun _ => fun
  | [d1, d2, d3] => { results := [.lit (.bool true)], args := [d1, d2, d3] }
  | _ => none }
def linerowsKeepRow : OpenClaim := { program := "ytaejegndbaahnaa", sum := "5290f184ab3dd9733a259db5fc64a31d76a7b5d6838a9ab56677b15da3972a64", func := "sindri/sindrilaw24.LinerowsKeep", spec := "linerowsKeep", inPlace := ["internal/bytealg.IndexByteString"], unfollowed := true, recurses := true, plainKeys := false, apart := false }
def LinerowsKeepSaid : Prop := linerowsKeepRow.holds Try.pinned (OpenSpec.ofChange linerowsKeepSpec)

/-- ITS FALSE NEIGHBOUR: 'it returns false'. Refute it at one input. -/
def linerowsKeepWrong : ChangeSpec := { name := "linerowsKeep", fn := fun _ => fun
  | [d1, d2, d3] => { results := [.lit (.bool false)], args := [d1, d2, d3] }
  | _ => none }
def LinerowsKeepWrongFalsely : Prop := linerowsKeepRow.holds Try.pinned (OpenSpec.ofChange linerowsKeepWrong)

/-- 'sindrilaw24.LinerowsKeeps': WHATEVER THE INPUT: true; the input reads as it did. -/
def linerowsKeepsSpec : ChangeSpec := { name := "linerowsKeeps", fn := fun _ => fun
  | [d1, d2, d3, d4] => { results := [.lit (.bool true)], args := [d1, d2, d3, d4] }
  | _ => none }
def linerowsKeepsRow : OpenClaim := { program := "ytaejegndbaahnaa", sum := "5290f184ab3dd9733a259db5fc64a31d76a7b5d6838a9ab56677b15da3972a64", func := "sindri/sindrilaw24.LinerowsKeeps", spec := "linerowsKeeps", inPlace := ["internal/bytealg.IndexByteString"], unfollowed := true, recurses := true, plainKeys := false, apart := false }
def LinerowsKeepsSaid : Prop := linerowsKeepsRow.holds Try.pinned (OpenSpec.ofChange linerowsKeepsSpec)

/-- ITS FALSE NEIGHBOUR: 'it returns false'. Refute it at one input. -/
def linerowsKeepsWrong : ChangeSpec := { name := "linerowsKeeps", fn := fun _ => fun
  | [d1, d2, d3, d4] => { results := [.lit (.bool false)], args := [d1, d2, d3, d4] }
  | _ => none }
def LinerowsKeepsWrongFalsely : Prop := linerowsKeepsRow.holds Try.pinned (OpenSpec.ofChange linerowsKeepsWrong)

/- THE SECOND FORM. 'bulk': how many values and letters a reading holds, each counted each time it is reached (what is shared counts as often as it is met; a slice's spare places count too). A statement '..UptoSaid' is the law's where the arguments, and the package variables that the reading takes, are together of bulk at most 1048576: NARROWER than '..Said'. Prove '..Said' where nothing that the law and all that it calls make is longer than what came in: it says more and counts as full. Else prove '..UptoSaid'. A law counts once. -/
mutual
def uptoBulk {H : Type} : DataW H → Nat
  | .lit (.string bytes) => bytes.length + 1
  | .lit _ => 1
  | .nil => 1
  | .ptr d => uptoBulk d + 1
  | .slice elems spare => uptoBulkAll elems + uptoBulkAll spare + 1
  | .agg parts => uptoBulkAll parts + 1
  | .iface _ d => uptoBulk d + 1
  | .map entries => uptoBulkEntries entries + 1
  | .held _ => 1
def uptoBulkAll {H : Type} : List (DataW H) → Nat
  | [] => 0
  | d :: r => uptoBulk d + uptoBulkAll r
def uptoBulkEntries {H : Type} : List (Lit × DataW H) → Nat
  | [] => 0
  | x :: r => uptoBulkEntry x + uptoBulkEntries r
def uptoBulkEntry {H : Type} : Lit × DataW H → Nat
  | (.string bytes, d) => bytes.length + uptoBulk d + 1
  | (_, d) => uptoBulk d + 1
 end
def uptoSmall : (H : Type) → List (DataW H) → Bool := fun _ ds => decide (uptoBulkAll ds ≤ 1048576)
def OpenSpec.upto (s : _root_.Go.ChangeSpec) : _root_.Go.OpenSpec := { _root_.Go.OpenSpec.ofChange s with cond := some uptoSmall }

/-- 'sindrilaw24.LinerowsSay', WHERE WHAT IT READS IS OF BULK AT MOST 1048576: true; the input reads as it did. -/
def linerowsSayUptoRow : OpenClaim := { program := "ytaejegndbaahnaa", sum := "5290f184ab3dd9733a259db5fc64a31d76a7b5d6838a9ab56677b15da3972a64", func := "sindri/sindrilaw24.LinerowsSay", spec := "linerowsSay", plainKeys := false, apart := false, narrowed := true }
def LinerowsSayUptoSaid : Prop := linerowsSayUptoRow.holds Try.pinned (OpenSpec.upto linerowsSaySpec)

/-- 'sindrilaw24.LinerowsKeep', WHERE WHAT IT READS IS OF BULK AT MOST 1048576: true; the input reads as it did. -/
def linerowsKeepUptoRow : OpenClaim := { program := "ytaejegndbaahnaa", sum := "5290f184ab3dd9733a259db5fc64a31d76a7b5d6838a9ab56677b15da3972a64", func := "sindri/sindrilaw24.LinerowsKeep", spec := "linerowsKeep", inPlace := ["internal/bytealg.IndexByteString"], unfollowed := true, recurses := true, plainKeys := false, apart := false, narrowed := true }
def LinerowsKeepUptoSaid : Prop := linerowsKeepUptoRow.holds Try.pinned (OpenSpec.upto linerowsKeepSpec)

/-- 'sindrilaw24.LinerowsKeeps', WHERE WHAT IT READS IS OF BULK AT MOST 1048576: true; the input reads as it did. -/
def linerowsKeepsUptoRow : OpenClaim := { program := "ytaejegndbaahnaa", sum := "5290f184ab3dd9733a259db5fc64a31d76a7b5d6838a9ab56677b15da3972a64", func := "sindri/sindrilaw24.LinerowsKeeps", spec := "linerowsKeeps", inPlace := ["internal/bytealg.IndexByteString"], unfollowed := true, recurses := true, plainKeys := false, apart := false, narrowed := true }
def LinerowsKeepsUptoSaid : Prop := linerowsKeepsUptoRow.holds Try.pinned (OpenSpec.upto linerowsKeepsSpec)

end Rows
end Go.Proofs.Ytaejegndbaahnaa
