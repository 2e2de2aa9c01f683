/-
  NARROWER THAN 'FOR EVERY INPUT', by the rows' own cells (each row's printed sentence says how): TablesPuts: laid · TablesTakes: laid · TablesBack: laid.
  DERIVED. THE GIVEN ROWS OF THIS SEAT. 3 by the template 'for every input the law returns true; each argument reads behind the call as it read before'; 0 by the template 'total and deterministic' (their statements: YtlngajfpplebmaaDoorTotals.lean).
  GIVEN WITH THE SEED: the statements are not yours to turn. If you find one false, say at which input.
  Laid BY PROGRAM, IN A SANDBOX (cutbox-rows.mjs): the forced cells as the released guide's own fill.sh prints them over the translation 7c79833d54ff693c… (all of the seat's roots in one cut). By AI agents, Wed Nov 11 2026. No macro, syntax, notation, axiom, sorry.
-/
import Derived.Test.YtlngajfpplebmaaDoorChecked
import GoSem.Claim
import GoSem.ClaimJoined
import GoSem.ClaimMapViews
import Derived.JoinedTies
import Derived.KernelRfl
namespace Go.Proofs.YtlngajfpplebmaaDoor
/- THE CELL 'sum', in the pinned program and in every row, IS THE sha256 OF THE DUMP (.gsa) THAT YtlngajfpplebmaaDoorProg.lean LOADS. Nothing in Lean hashes anything: it is a label: what it is worth is what the hold of that sum in a sandbox is worth. -/
noncomputable def Tryd.pinned : Pinned := { name := "ytlngajfpplebmaadoor", sum := "7c79833d54ff693c49ee2911d819287d481c06e96c9792eb475d11a79766b044", checked := Tryd.checked }
namespace Rows
def none {H : Type} : Left H := { results := [], args := [] }

/- WHAT THE LISTED PACKAGE-LEVEL VARIABLES READ AS WHEN THE CALL BEGINS. Each datum BY PROGRAM (the guide's laid-datum.mjs) off the statement by which the dump's own 'gosem.cut.vars' lays the variable. In a bare row this is a premise. The card (YtlngajfpplebmaaDoorCards.lean) ties it to the program's text. -/
def laid_sindri_length_sizes {H : Type} : DataW H := .agg [.lit (.int .i64 4), .lit (.int .i64 8)]

/-- 'sindrilaw16.TablesPuts': WHATEVER THE INPUT: true; the input reads as it did. -/
def tablesPutsSpec : ChangeSpec := { name := "tablesPuts", fn := fun _ => fun
  | [d1, d2] => { results := [.lit (.bool true)], args := [d1, d2] }
  | _ => none }
def tablesPutsRow : OpenClaim := { program := "ytlngajfpplebmaadoor", sum := "7c79833d54ff693c49ee2911d819287d481c06e96c9792eb475d11a79766b044", func := "sindri/sindrilaw16.TablesPuts", spec := "tablesPuts", unfollowed := true, recurses := true, named := ["sindri/length.sizes"], apart := false, laid := [("sindri/length.sizes", laid_sindri_length_sizes)] }
def TablesPutsSaid : Prop := tablesPutsRow.holds Tryd.pinned (OpenSpec.ofChange tablesPutsSpec)

/-- ITS FALSE NEIGHBOUR: 'it returns false'. Refute it at one input. -/
def tablesPutsWrong : ChangeSpec := { name := "tablesPuts", fn := fun _ => fun
  | [d1, d2] => { results := [.lit (.bool false)], args := [d1, d2] }
  | _ => none }
def TablesPutsWrongFalsely : Prop := tablesPutsRow.holds Tryd.pinned (OpenSpec.ofChange tablesPutsWrong)

/-- 'sindrilaw16.TablesTakes': WHATEVER THE INPUT: true; the input reads as it did. -/
def tablesTakesSpec : ChangeSpec := { name := "tablesTakes", fn := fun _ => fun
  | [d1, d2, d3] => { results := [.lit (.bool true)], args := [d1, d2, d3] }
  | _ => none }
def tablesTakesRow : OpenClaim := { program := "ytlngajfpplebmaadoor", sum := "7c79833d54ff693c49ee2911d819287d481c06e96c9792eb475d11a79766b044", func := "sindri/sindrilaw16.TablesTakes", spec := "tablesTakes", unfollowed := true, recurses := true, named := ["sindri/length.sizes"], apart := false, laid := [("sindri/length.sizes", laid_sindri_length_sizes)] }
def TablesTakesSaid : Prop := tablesTakesRow.holds Tryd.pinned (OpenSpec.ofChange tablesTakesSpec)

/-- ITS FALSE NEIGHBOUR: 'it returns false'. Refute it at one input. -/
def tablesTakesWrong : ChangeSpec := { name := "tablesTakes", fn := fun _ => fun
  | [d1, d2, d3] => { results := [.lit (.bool false)], args := [d1, d2, d3] }
  | _ => none }
def TablesTakesWrongFalsely : Prop := tablesTakesRow.holds Tryd.pinned (OpenSpec.ofChange tablesTakesWrong)

/-- 'sindrilaw16.TablesBack': WHATEVER THE INPUT: true; the input reads as it did. -/
def tablesBackSpec : ChangeSpec := { name := "tablesBack", fn := fun _ => fun
  | [d1, d2] => { results := [.lit (.bool true)], args := [d1, d2] }
  | _ => none }
def tablesBackRow : OpenClaim := { program := "ytlngajfpplebmaadoor", sum := "7c79833d54ff693c49ee2911d819287d481c06e96c9792eb475d11a79766b044", func := "sindri/sindrilaw16.TablesBack", spec := "tablesBack", unfollowed := true, recurses := true, named := ["sindri/length.sizes"], apart := false, laid := [("sindri/length.sizes", laid_sindri_length_sizes)] }
def TablesBackSaid : Prop := tablesBackRow.holds Tryd.pinned (OpenSpec.ofChange tablesBackSpec)

/-- ITS FALSE NEIGHBOUR: 'it returns false'. Refute it at one input. -/
def tablesBackWrong : ChangeSpec := { name := "tablesBack", fn := fun _ => fun
  | [d1, d2] => { results := [.lit (.bool false)], args := [d1, d2] }
  | _ => none }
def TablesBackWrongFalsely : Prop := tablesBackRow.holds Tryd.pinned (OpenSpec.ofChange tablesBackWrong)

/- THE SECOND FORM. 'bulk': how many values and letters a reading holds, each counted each time it is reached (what is shared counts as often as it is met; a slice's spare places count too). A statement '..UptoSaid' is the law's where the arguments, and the package variables that the reading takes, are together of bulk at most 1048576: NARROWER than '..Said'. Prove '..Said' where nothing that the law and all that it calls make is longer than what came in: it says more and counts as full. Else prove '..UptoSaid'. A law counts once. -/
mutual
def uptoBulk {H : Type} : DataW H → Nat
  | .lit (.string bytes) => bytes.length + 1
  | .lit _ => 1
  | .nil => 1
  | .ptr d => uptoBulk d + 1
  | .slice elems spare => uptoBulkAll elems + uptoBulkAll spare + 1
  | .agg parts => uptoBulkAll parts + 1
  | .iface _ d => uptoBulk d + 1
  | .map entries => uptoBulkEntries entries + 1
  | .held _ => 1
def uptoBulkAll {H : Type} : List (DataW H) → Nat
  | [] => 0
  | d :: r => uptoBulk d + uptoBulkAll r
def uptoBulkEntries {H : Type} : List (Lit × DataW H) → Nat
  | [] => 0
  | x :: r => uptoBulkEntry x + uptoBulkEntries r
def uptoBulkEntry {H : Type} : Lit × DataW H → Nat
  | (.string bytes, d) => bytes.length + uptoBulk d + 1
  | (_, d) => uptoBulk d + 1
 end
def uptoSmall : (H : Type) → List (DataW H) → Bool := fun _ ds => decide (uptoBulkAll ds ≤ 1048576)
def OpenSpec.upto (s : _root_.Go.ChangeSpec) : _root_.Go.OpenSpec := { _root_.Go.OpenSpec.ofChange s with cond := some uptoSmall }

/-- 'sindrilaw16.TablesPuts', WHERE WHAT IT READS IS OF BULK AT MOST 1048576: true; the input reads as it did. -/
def tablesPutsUptoRow : OpenClaim := { program := "ytlngajfpplebmaadoor", sum := "7c79833d54ff693c49ee2911d819287d481c06e96c9792eb475d11a79766b044", func := "sindri/sindrilaw16.TablesPuts", spec := "tablesPuts", unfollowed := true, recurses := true, named := ["sindri/length.sizes"], apart := false, laid := [("sindri/length.sizes", laid_sindri_length_sizes)], narrowed := true }
def TablesPutsUptoSaid : Prop := tablesPutsUptoRow.holds Tryd.pinned (OpenSpec.upto tablesPutsSpec)

/-- 'sindrilaw16.TablesTakes', WHERE WHAT IT READS IS OF BULK AT MOST 1048576: true; the input reads as it did. -/
def tablesTakesUptoRow : OpenClaim := { program := "ytlngajfpplebmaadoor", sum := "7c79833d54ff693c49ee2911d819287d481c06e96c9792eb475d11a79766b044", func := "sindri/sindrilaw16.TablesTakes", spec := "tablesTakes", unfollowed := true, recurses := true, named := ["sindri/length.sizes"], apart := false, laid := [("sindri/length.sizes", laid_sindri_length_sizes)], narrowed := true }
def TablesTakesUptoSaid : Prop := tablesTakesUptoRow.holds Tryd.pinned (OpenSpec.upto tablesTakesSpec)

/-- 'sindrilaw16.TablesBack', WHERE WHAT IT READS IS OF BULK AT MOST 1048576: true; the input reads as it did. -/
def tablesBackUptoRow : OpenClaim := { program := "ytlngajfpplebmaadoor", sum := "7c79833d54ff693c49ee2911d819287d481c06e96c9792eb475d11a79766b044", func := "sindri/sindrilaw16.TablesBack", spec := "tablesBack", unfollowed := true, recurses := true, named := ["sindri/length.sizes"], apart := false, laid := [("sindri/length.sizes", laid_sindri_length_sizes)], narrowed := true }
def TablesBackUptoSaid : Prop := tablesBackUptoRow.holds Tryd.pinned (OpenSpec.upto tablesBackSpec)

end Rows
end Go.Proofs.YtlngajfpplebmaaDoor
