/-
  No cell of these rows narrows 'for every input' (looked for: loops, veiled, ifaces, maps, wideKeys, modest, calm, conditions, laid).
  DERIVED. THE GIVEN ROWS OF THIS SEAT. 3 by the template 'for every input the law returns true; each argument reads behind the call as it read before'; 0 by the template 'total and deterministic' (their statements: YtplnooiimmedfaaTotals.lean).
  GIVEN WITH THE SEED: the statements are not yours to turn. If you find one false, say at which input.
  Laid BY PROGRAM, IN A SANDBOX (cutbox-rows.mjs): the forced cells as the released guide's own fill.sh prints them over the translation 00ee3007b71550d3… (all of the seat's roots in one cut). By AI agents, Wed Nov 11 2026. No macro, syntax, notation, axiom, sorry.
-/
import Derived.Test.YtplnooiimmedfaaChecked
import GoSem.Claim
import GoSem.ClaimJoined
import GoSem.ClaimMapViews
import Derived.JoinedTies
import Derived.KernelRfl
namespace Go.Proofs.Ytplnooiimmedfaa
/- THE CELL 'sum', in the pinned program and in every row, IS THE sha256 OF THE DUMP (.gsa) THAT YtplnooiimmedfaaProg.lean LOADS. Nothing in Lean hashes anything: it is a label: what it is worth is what the hold of that sum in a sandbox is worth. -/
noncomputable def Try.pinned : Pinned := { name := "ytplnooiimmedfaa", sum := "00ee3007b71550d31a06eba8bd3c53f4495bd2f906a0922688bbce596372fde5", checked := Try.checked }
namespace Rows
def none {H : Type} : Left H := { results := [], args := [] }

/-- 'sindrilaw03.CstrTakes': WHATEVER THE INPUT: true; the input reads as it did. -/
def cstrTakesSpec : ChangeSpec := { name := "cstrTakes", fn := fun _ => fun
  | [d1, d2] => { results := [.lit (.bool true)], args := [d1, d2] }
  | _ => none }
def cstrTakesRow : OpenClaim := { program := "ytplnooiimmedfaa", sum := "00ee3007b71550d31a06eba8bd3c53f4495bd2f906a0922688bbce596372fde5", func := "sindri/sindrilaw03.CstrTakes", spec := "cstrTakes", inPlace := ["internal/bytealg.IndexByte", "internal/bytealg.IndexByteString"], apart := false }
def CstrTakesSaid : Prop := cstrTakesRow.holds Try.pinned (OpenSpec.ofChange cstrTakesSpec)

/-- ITS FALSE NEIGHBOUR: 'it returns false'. Refute it at one input. -/
def cstrTakesWrong : ChangeSpec := { name := "cstrTakes", fn := fun _ => fun
  | [d1, d2] => { results := [.lit (.bool false)], args := [d1, d2] }
  | _ => none }
def CstrTakesWrongFalsely : Prop := cstrTakesRow.holds Try.pinned (OpenSpec.ofChange cstrTakesWrong)

/-- 'sindrilaw03.CstrTables': WHATEVER THE INPUT: true; the input reads as it did. -/
def cstrTablesSpec : ChangeSpec := { name := "cstrTables", fn := fun _ => fun
  | [d1, d2, d3] => { results := [.lit (.bool true)], args := [d1, d2, d3] }
  | _ => none }
def cstrTablesRow : OpenClaim := { program := "ytplnooiimmedfaa", sum := "00ee3007b71550d31a06eba8bd3c53f4495bd2f906a0922688bbce596372fde5", func := "sindri/sindrilaw03.CstrTables", spec := "cstrTables", inPlace := ["internal/bytealg.IndexByte", "internal/bytealg.IndexByteString"], apart := false }
def CstrTablesSaid : Prop := cstrTablesRow.holds Try.pinned (OpenSpec.ofChange cstrTablesSpec)

/-- ITS FALSE NEIGHBOUR: 'it returns false'. Refute it at one input. -/
def cstrTablesWrong : ChangeSpec := { name := "cstrTables", fn := fun _ => fun
  | [d1, d2, d3] => { results := [.lit (.bool false)], args := [d1, d2, d3] }
  | _ => none }
def CstrTablesWrongFalsely : Prop := cstrTablesRow.holds Try.pinned (OpenSpec.ofChange cstrTablesWrong)

/-- 'sindrilaw03.CstrBack': WHATEVER THE INPUT: true; the input reads as it did. -/
def cstrBackSpec : ChangeSpec := { name := "cstrBack", fn := fun _ => fun
  | [d] => { results := [.lit (.bool true)], args := [d] }
  | _ => none }
def cstrBackRow : OpenClaim := { program := "ytplnooiimmedfaa", sum := "00ee3007b71550d31a06eba8bd3c53f4495bd2f906a0922688bbce596372fde5", func := "sindri/sindrilaw03.CstrBack", spec := "cstrBack", inPlace := ["internal/bytealg.IndexByte", "internal/bytealg.IndexByteString"], apart := false }
def CstrBackSaid : Prop := cstrBackRow.holds Try.pinned (OpenSpec.ofChange cstrBackSpec)

/-- ITS FALSE NEIGHBOUR: 'it returns false'. Refute it at one input. -/
def cstrBackWrong : ChangeSpec := { name := "cstrBack", fn := fun _ => fun
  | [d] => { results := [.lit (.bool false)], args := [d] }
  | _ => none }
def CstrBackWrongFalsely : Prop := cstrBackRow.holds Try.pinned (OpenSpec.ofChange cstrBackWrong)

/- THE SECOND FORM. 'bulk': how many values and letters a reading holds, each counted each time it is reached (what is shared counts as often as it is met; a slice's spare places count too). A statement '..UptoSaid' is the law's where the arguments, and the package variables that the reading takes, are together of bulk at most 1048576: NARROWER than '..Said'. Prove '..Said' where nothing that the law and all that it calls make is longer than what came in: it says more and counts as full. Else prove '..UptoSaid'. A law counts once. -/
mutual
def uptoBulk {H : Type} : DataW H → Nat
  | .lit (.string bytes) => bytes.length + 1
  | .lit _ => 1
  | .nil => 1
  | .ptr d => uptoBulk d + 1
  | .slice elems spare => uptoBulkAll elems + uptoBulkAll spare + 1
  | .agg parts => uptoBulkAll parts + 1
  | .iface _ d => uptoBulk d + 1
  | .map entries => uptoBulkEntries entries + 1
  | .held _ => 1
def uptoBulkAll {H : Type} : List (DataW H) → Nat
  | [] => 0
  | d :: r => uptoBulk d + uptoBulkAll r
def uptoBulkEntries {H : Type} : List (Lit × DataW H) → Nat
  | [] => 0
  | x :: r => uptoBulkEntry x + uptoBulkEntries r
def uptoBulkEntry {H : Type} : Lit × DataW H → Nat
  | (.string bytes, d) => bytes.length + uptoBulk d + 1
  | (_, d) => uptoBulk d + 1
 end
def uptoSmall : (H : Type) → List (DataW H) → Bool := fun _ ds => decide (uptoBulkAll ds ≤ 1048576)
def OpenSpec.upto (s : _root_.Go.ChangeSpec) : _root_.Go.OpenSpec := { _root_.Go.OpenSpec.ofChange s with cond := some uptoSmall }

/-- 'sindrilaw03.CstrTakes', WHERE WHAT IT READS IS OF BULK AT MOST 1048576: true; the input reads as it did. -/
def cstrTakesUptoRow : OpenClaim := { program := "ytplnooiimmedfaa", sum := "00ee3007b71550d31a06eba8bd3c53f4495bd2f906a0922688bbce596372fde5", func := "sindri/sindrilaw03.CstrTakes", spec := "cstrTakes", inPlace := ["internal/bytealg.IndexByte", "internal/bytealg.IndexByteString"], apart := false, narrowed := true }
def CstrTakesUptoSaid : Prop := cstrTakesUptoRow.holds Try.pinned (OpenSpec.upto cstrTakesSpec)

/-- 'sindrilaw03.CstrTables', WHERE WHAT IT READS IS OF BULK AT MOST 1048576: true; the input reads as it did. -/
def cstrTablesUptoRow : OpenClaim := { program := "ytplnooiimmedfaa", sum := "00ee3007b71550d31a06eba8bd3c53f4495bd2f906a0922688bbce596372fde5", func := "sindri/sindrilaw03.CstrTables", spec := "cstrTables", inPlace := ["internal/bytealg.IndexByte", "internal/bytealg.IndexByteString"], apart := false, narrowed := true }
def CstrTablesUptoSaid : Prop := cstrTablesUptoRow.holds Try.pinned (OpenSpec.upto cstrTablesSpec)

/-- 'sindrilaw03.CstrBack', WHERE WHAT IT READS IS OF BULK AT MOST 1048576: true; the input reads as it did. -/
def cstrBackUptoRow : OpenClaim := { program := "ytplnooiimmedfaa", sum := "00ee3007b71550d31a06eba8bd3c53f4495bd2f906a0922688bbce596372fde5", func := "sindri/sindrilaw03.CstrBack", spec := "cstrBack", inPlace := ["internal/bytealg.IndexByte", "internal/bytealg.IndexByteString"], apart := false, narrowed := true }
def CstrBackUptoSaid : Prop := cstrBackUptoRow.holds Try.pinned (OpenSpec.upto cstrBackSpec)

end Rows
end Go.Proofs.Ytplnooiimmedfaa
