/-
  No cell of these rows narrows 'for every input' (looked for: loops, veiled, ifaces, maps, wideKeys, modest, calm, conditions, laid).
  DERIVED. THE GIVEN ROWS OF THIS SEAT. 3 by the template 'for every input the law returns true; each argument reads behind the call as it read before'; 0 by the template 'total and deterministic' (their statements: YtebacdlbhjgmlaaTotals.lean).
  GIVEN WITH THE SEED: the statements are not yours to turn. If you find one false, say at which input.
  Laid BY PROGRAM, IN A SANDBOX (cutbox-rows.mjs): the forced cells as the released guide's own fill.sh prints them over the translation 61de0d5add75f9c1… (all of the seat's roots in one cut). By AI agents, Wed Nov 11 2026. No macro, syntax, notation, axiom, sorry.
-/
import Derived.Test.YtebacdlbhjgmlaaChecked
import GoSem.Claim
import GoSem.ClaimJoined
import GoSem.ClaimMapViews
import Derived.JoinedTies
import Derived.KernelRfl
namespace Go.Proofs.Ytebacdlbhjgmlaa
/- THE CELL 'sum', in the pinned program and in every row, IS THE sha256 OF THE DUMP (.gsa) THAT YtebacdlbhjgmlaaProg.lean LOADS. Nothing in Lean hashes anything: it is a label: what it is worth is what the hold of that sum in a sandbox is worth. -/
noncomputable def Try.pinned : Pinned := { name := "ytebacdlbhjgmlaa", sum := "61de0d5add75f9c1cdf03fc68df8b54821db8d6b17b986d225630b7d30f294d4", checked := Try.checked }
namespace Rows
def none {H : Type} : Left H := { results := [], args := [] }

/-- 'sindrilaw06.ElfheadTakes': WHATEVER THE INPUT: true; the input reads as it did. -/
def elfheadTakesSpec : ChangeSpec := { name := "elfheadTakes", fn := fun _ => fun
  | [d] => { results := [.lit (.bool true)], args := [d] }
  | _ => none }
def elfheadTakesRow : OpenClaim := { program := "ytebacdlbhjgmlaa", sum := "61de0d5add75f9c1cdf03fc68df8b54821db8d6b17b986d225630b7d30f294d4", func := "sindri/sindrilaw06.ElfheadTakes", spec := "elfheadTakes", unfollowed := true, recurses := true, apart := false }
def ElfheadTakesSaid : Prop := elfheadTakesRow.holds Try.pinned (OpenSpec.ofChange elfheadTakesSpec)

/-- ITS FALSE NEIGHBOUR: 'it returns false'. Refute it at one input. -/
def elfheadTakesWrong : ChangeSpec := { name := "elfheadTakes", fn := fun _ => fun
  | [d] => { results := [.lit (.bool false)], args := [d] }
  | _ => none }
def ElfheadTakesWrongFalsely : Prop := elfheadTakesRow.holds Try.pinned (OpenSpec.ofChange elfheadTakesWrong)

/-- 'sindrilaw06.ElfheadPuts': WHATEVER THE INPUT: true; the input reads as it did. -/
def elfheadPutsSpec : ChangeSpec := { name := "elfheadPuts", fn := fun _ => fun
  | [d1, d2] => { results := [.lit (.bool true)], args := [d1, d2] }
  | _ => none }
def elfheadPutsRow : OpenClaim := { program := "ytebacdlbhjgmlaa", sum := "61de0d5add75f9c1cdf03fc68df8b54821db8d6b17b986d225630b7d30f294d4", func := "sindri/sindrilaw06.ElfheadPuts", spec := "elfheadPuts", unfollowed := true, recurses := true, apart := false }
def ElfheadPutsSaid : Prop := elfheadPutsRow.holds Try.pinned (OpenSpec.ofChange elfheadPutsSpec)

/-- ITS FALSE NEIGHBOUR: 'it returns false'. Refute it at one input. -/
def elfheadPutsWrong : ChangeSpec := { name := "elfheadPuts", fn := fun _ => fun
  | [d1, d2] => { results := [.lit (.bool false)], args := [d1, d2] }
  | _ => none }
def ElfheadPutsWrongFalsely : Prop := elfheadPutsRow.holds Try.pinned (OpenSpec.ofChange elfheadPutsWrong)

/-- 'sindrilaw06.ElfheadBack': WHATEVER THE INPUT: true; the input reads as it did. -/
def elfheadBackSpec : ChangeSpec := { name := "elfheadBack", fn := fun _ => fun
  | [d1, d2, d3] => { results := [.lit (.bool true)], args := [d1, d2, d3] }
  | _ => none }
def elfheadBackRow : OpenClaim := { program := "ytebacdlbhjgmlaa", sum := "61de0d5add75f9c1cdf03fc68df8b54821db8d6b17b986d225630b7d30f294d4", func := "sindri/sindrilaw06.ElfheadBack", spec := "elfheadBack", unfollowed := true, recurses := true, apart := false }
def ElfheadBackSaid : Prop := elfheadBackRow.holds Try.pinned (OpenSpec.ofChange elfheadBackSpec)

/-- ITS FALSE NEIGHBOUR: 'it returns false'. Refute it at one input. -/
def elfheadBackWrong : ChangeSpec := { name := "elfheadBack", fn := fun _ => fun
  | [d1, d2, d3] => { results := [.lit (.bool false)], args := [d1, d2, d3] }
  | _ => none }
def ElfheadBackWrongFalsely : Prop := elfheadBackRow.holds Try.pinned (OpenSpec.ofChange elfheadBackWrong)

/- THE SECOND FORM. 'bulk': how many values and letters a reading holds, each counted each time it is reached (what is shared counts as often as it is met; a slice's spare places count too). A statement '..UptoSaid' is the law's where the arguments, and the package variables that the reading takes, are together of bulk at most 1048576: NARROWER than '..Said'. Prove '..Said' where nothing that the law and all that it calls make is longer than what came in: it says more and counts as full. Else prove '..UptoSaid'. A law counts once. -/
mutual
def uptoBulk {H : Type} : DataW H → Nat
  | .lit (.string bytes) => bytes.length + 1
  | .lit _ => 1
  | .nil => 1
  | .ptr d => uptoBulk d + 1
  | .slice elems spare => uptoBulkAll elems + uptoBulkAll spare + 1
  | .agg parts => uptoBulkAll parts + 1
  | .iface _ d => uptoBulk d + 1
  | .map entries => uptoBulkEntries entries + 1
  | .held _ => 1
def uptoBulkAll {H : Type} : List (DataW H) → Nat
  | [] => 0
  | d :: r => uptoBulk d + uptoBulkAll r
def uptoBulkEntries {H : Type} : List (Lit × DataW H) → Nat
  | [] => 0
  | x :: r => uptoBulkEntry x + uptoBulkEntries r
def uptoBulkEntry {H : Type} : Lit × DataW H → Nat
  | (.string bytes, d) => bytes.length + uptoBulk d + 1
  | (_, d) => uptoBulk d + 1
 end
def uptoSmall : (H : Type) → List (DataW H) → Bool := fun _ ds => decide (uptoBulkAll ds ≤ 1048576)
def OpenSpec.upto (s : _root_.Go.ChangeSpec) : _root_.Go.OpenSpec := { _root_.Go.OpenSpec.ofChange s with cond := some uptoSmall }

/-- 'sindrilaw06.ElfheadTakes', WHERE WHAT IT READS IS OF BULK AT MOST 1048576: true; the input reads as it did. -/
def elfheadTakesUptoRow : OpenClaim := { program := "ytebacdlbhjgmlaa", sum := "61de0d5add75f9c1cdf03fc68df8b54821db8d6b17b986d225630b7d30f294d4", func := "sindri/sindrilaw06.ElfheadTakes", spec := "elfheadTakes", unfollowed := true, recurses := true, apart := false, narrowed := true }
def ElfheadTakesUptoSaid : Prop := elfheadTakesUptoRow.holds Try.pinned (OpenSpec.upto elfheadTakesSpec)

/-- 'sindrilaw06.ElfheadPuts', WHERE WHAT IT READS IS OF BULK AT MOST 1048576: true; the input reads as it did. -/
def elfheadPutsUptoRow : OpenClaim := { program := "ytebacdlbhjgmlaa", sum := "61de0d5add75f9c1cdf03fc68df8b54821db8d6b17b986d225630b7d30f294d4", func := "sindri/sindrilaw06.ElfheadPuts", spec := "elfheadPuts", unfollowed := true, recurses := true, apart := false, narrowed := true }
def ElfheadPutsUptoSaid : Prop := elfheadPutsUptoRow.holds Try.pinned (OpenSpec.upto elfheadPutsSpec)

/-- 'sindrilaw06.ElfheadBack', WHERE WHAT IT READS IS OF BULK AT MOST 1048576: true; the input reads as it did. -/
def elfheadBackUptoRow : OpenClaim := { program := "ytebacdlbhjgmlaa", sum := "61de0d5add75f9c1cdf03fc68df8b54821db8d6b17b986d225630b7d30f294d4", func := "sindri/sindrilaw06.ElfheadBack", spec := "elfheadBack", unfollowed := true, recurses := true, apart := false, narrowed := true }
def ElfheadBackUptoSaid : Prop := elfheadBackUptoRow.holds Try.pinned (OpenSpec.upto elfheadBackSpec)

end Rows
end Go.Proofs.Ytebacdlbhjgmlaa
