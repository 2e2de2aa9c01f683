/-
  NARROWER THAN 'FOR EVERY INPUT', by the rows' own cells (each row's printed sentence says how): UnitAll: laid · UnitPuts: laid · UnitBack: laid.
  DERIVED. THE GIVEN ROWS OF THIS SEAT. 3 by the template 'for every input the law returns true; each argument reads behind the call as it read before'; 0 by the template 'total and deterministic' (their statements: YtmjjfchahkdceaaDoorTotals.lean).
  GIVEN WITH THE SEED: the statements are not yours to turn. If you find one false, say at which input.
  Laid BY PROGRAM, IN A SANDBOX (cutbox-rows.mjs): the forced cells as the released guide's own fill.sh prints them over the translation 97de980375f418dc… (all of the seat's roots in one cut). By AI agents, Wed Nov 11 2026. No macro, syntax, notation, axiom, sorry.
-/
import Derived.Test.YtmjjfchahkdceaaDoorChecked
import GoSem.Claim
import GoSem.ClaimJoined
import GoSem.ClaimMapViews
import Derived.JoinedTies
import Derived.KernelRfl
namespace Go.Proofs.YtmjjfchahkdceaaDoor
/- THE CELL 'sum', in the pinned program and in every row, IS THE sha256 OF THE DUMP (.gsa) THAT YtmjjfchahkdceaaDoorProg.lean LOADS. Nothing in Lean hashes anything: it is a label: what it is worth is what the hold of that sum in a sandbox is worth. -/
noncomputable def Tryd.pinned : Pinned := { name := "ytmjjfchahkdceaadoor", sum := "97de980375f418dce7a977116f36baff694c1bd3fa7aa04d4f4137fad2a83832", checked := Tryd.checked }
namespace Rows
def none {H : Type} : Left H := { results := [], args := [] }

/- WHAT THE LISTED PACKAGE-LEVEL VARIABLES READ AS WHEN THE CALL BEGINS. Each datum BY PROGRAM (the guide's laid-datum.mjs) off the statement by which the dump's own 'gosem.cut.vars' lays the variable. In a bare row this is a premise. The card (YtmjjfchahkdceaaDoorCards.lean) ties it to the program's text. -/
def laid_sindri_length_sizes {H : Type} : DataW H := .agg [.lit (.int .i64 4), .lit (.int .i64 8)]

/-- 'sindrilaw15.UnitAll': WHATEVER THE INPUT: true; the input reads as it did. -/
def unitAllSpec : ChangeSpec := { name := "unitAll", fn := fun _ => fun
  | [d1, d2] => { results := [.lit (.bool true)], args := [d1, d2] }
  | _ => none }
def unitAllRow : OpenClaim := { program := "ytmjjfchahkdceaadoor", sum := "97de980375f418dce7a977116f36baff694c1bd3fa7aa04d4f4137fad2a83832", func := "sindri/sindrilaw15.UnitAll", spec := "unitAll", unfollowed := true, recurses := true, named := ["sindri/length.sizes"], apart := false, laid := [("sindri/length.sizes", laid_sindri_length_sizes)] }
def UnitAllSaid : Prop := unitAllRow.holds Tryd.pinned (OpenSpec.ofChange unitAllSpec)

/-- ITS FALSE NEIGHBOUR: 'it returns false'. Refute it at one input. -/
def unitAllWrong : ChangeSpec := { name := "unitAll", fn := fun _ => fun
  | [d1, d2] => { results := [.lit (.bool false)], args := [d1, d2] }
  | _ => none }
def UnitAllWrongFalsely : Prop := unitAllRow.holds Tryd.pinned (OpenSpec.ofChange unitAllWrong)

/-- 'sindrilaw15.UnitPuts': WHATEVER THE INPUT: true; the input reads as it did. -/
def unitPutsSpec : ChangeSpec := { name := "unitPuts", fn := fun _ => fun
  | [d1, d2] => { results := [.lit (.bool true)], args := [d1, d2] }
  | _ => none }
def unitPutsRow : OpenClaim := { program := "ytmjjfchahkdceaadoor", sum := "97de980375f418dce7a977116f36baff694c1bd3fa7aa04d4f4137fad2a83832", func := "sindri/sindrilaw15.UnitPuts", spec := "unitPuts", unfollowed := true, recurses := true, named := ["sindri/length.sizes"], apart := false, laid := [("sindri/length.sizes", laid_sindri_length_sizes)] }
def UnitPutsSaid : Prop := unitPutsRow.holds Tryd.pinned (OpenSpec.ofChange unitPutsSpec)

/-- ITS FALSE NEIGHBOUR: 'it returns false'. Refute it at one input. -/
def unitPutsWrong : ChangeSpec := { name := "unitPuts", fn := fun _ => fun
  | [d1, d2] => { results := [.lit (.bool false)], args := [d1, d2] }
  | _ => none }
def UnitPutsWrongFalsely : Prop := unitPutsRow.holds Tryd.pinned (OpenSpec.ofChange unitPutsWrong)

/-- 'sindrilaw15.UnitBack': WHATEVER THE INPUT: true; the input reads as it did. -/
def unitBackSpec : ChangeSpec := { name := "unitBack", fn := fun _ => fun
  | [d] => { results := [.lit (.bool true)], args := [d] }
  | _ => none }
def unitBackRow : OpenClaim := { program := "ytmjjfchahkdceaadoor", sum := "97de980375f418dce7a977116f36baff694c1bd3fa7aa04d4f4137fad2a83832", func := "sindri/sindrilaw15.UnitBack", spec := "unitBack", unfollowed := true, recurses := true, named := ["sindri/length.sizes"], apart := false, laid := [("sindri/length.sizes", laid_sindri_length_sizes)] }
def UnitBackSaid : Prop := unitBackRow.holds Tryd.pinned (OpenSpec.ofChange unitBackSpec)

/-- ITS FALSE NEIGHBOUR: 'it returns false'. Refute it at one input. -/
def unitBackWrong : ChangeSpec := { name := "unitBack", fn := fun _ => fun
  | [d] => { results := [.lit (.bool false)], args := [d] }
  | _ => none }
def UnitBackWrongFalsely : Prop := unitBackRow.holds Tryd.pinned (OpenSpec.ofChange unitBackWrong)

/- THE SECOND FORM. 'bulk': how many values and letters a reading holds, each counted each time it is reached (what is shared counts as often as it is met; a slice's spare places count too). A statement '..UptoSaid' is the law's where the arguments, and the package variables that the reading takes, are together of bulk at most 1048576: NARROWER than '..Said'. Prove '..Said' where nothing that the law and all that it calls make is longer than what came in: it says more and counts as full. Else prove '..UptoSaid'. A law counts once. -/
mutual
def uptoBulk {H : Type} : DataW H → Nat
  | .lit (.string bytes) => bytes.length + 1
  | .lit _ => 1
  | .nil => 1
  | .ptr d => uptoBulk d + 1
  | .slice elems spare => uptoBulkAll elems + uptoBulkAll spare + 1
  | .agg parts => uptoBulkAll parts + 1
  | .iface _ d => uptoBulk d + 1
  | .map entries => uptoBulkEntries entries + 1
  | .held _ => 1
def uptoBulkAll {H : Type} : List (DataW H) → Nat
  | [] => 0
  | d :: r => uptoBulk d + uptoBulkAll r
def uptoBulkEntries {H : Type} : List (Lit × DataW H) → Nat
  | [] => 0
  | x :: r => uptoBulkEntry x + uptoBulkEntries r
def uptoBulkEntry {H : Type} : Lit × DataW H → Nat
  | (.string bytes, d) => bytes.length + uptoBulk d + 1
  | (_, d) => uptoBulk d + 1
 end
def uptoSmall : (H : Type) → List (DataW H) → Bool := fun _ ds => decide (uptoBulkAll ds ≤ 1048576)
def OpenSpec.upto (s : _root_.Go.ChangeSpec) : _root_.Go.OpenSpec := { _root_.Go.OpenSpec.ofChange s with cond := some uptoSmall }

/-- 'sindrilaw15.UnitAll', WHERE WHAT IT READS IS OF BULK AT MOST 1048576: true; the input reads as it did. -/
def unitAllUptoRow : OpenClaim := { program := "ytmjjfchahkdceaadoor", sum := "97de980375f418dce7a977116f36baff694c1bd3fa7aa04d4f4137fad2a83832", func := "sindri/sindrilaw15.UnitAll", spec := "unitAll", unfollowed := true, recurses := true, named := ["sindri/length.sizes"], apart := false, laid := [("sindri/length.sizes", laid_sindri_length_sizes)], narrowed := true }
def UnitAllUptoSaid : Prop := unitAllUptoRow.holds Tryd.pinned (OpenSpec.upto unitAllSpec)

/-- 'sindrilaw15.UnitPuts', WHERE WHAT IT READS IS OF BULK AT MOST 1048576: true; the input reads as it did. -/
def unitPutsUptoRow : OpenClaim := { program := "ytmjjfchahkdceaadoor", sum := "97de980375f418dce7a977116f36baff694c1bd3fa7aa04d4f4137fad2a83832", func := "sindri/sindrilaw15.UnitPuts", spec := "unitPuts", unfollowed := true, recurses := true, named := ["sindri/length.sizes"], apart := false, laid := [("sindri/length.sizes", laid_sindri_length_sizes)], narrowed := true }
def UnitPutsUptoSaid : Prop := unitPutsUptoRow.holds Tryd.pinned (OpenSpec.upto unitPutsSpec)

/-- 'sindrilaw15.UnitBack', WHERE WHAT IT READS IS OF BULK AT MOST 1048576: true; the input reads as it did. -/
def unitBackUptoRow : OpenClaim := { program := "ytmjjfchahkdceaadoor", sum := "97de980375f418dce7a977116f36baff694c1bd3fa7aa04d4f4137fad2a83832", func := "sindri/sindrilaw15.UnitBack", spec := "unitBack", unfollowed := true, recurses := true, named := ["sindri/length.sizes"], apart := false, laid := [("sindri/length.sizes", laid_sindri_length_sizes)], narrowed := true }
def UnitBackUptoSaid : Prop := unitBackUptoRow.holds Tryd.pinned (OpenSpec.upto unitBackSpec)

end Rows
end Go.Proofs.YtmjjfchahkdceaaDoor
