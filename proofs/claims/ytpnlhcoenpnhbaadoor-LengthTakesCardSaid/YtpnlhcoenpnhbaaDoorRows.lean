/-
  NARROWER THAN 'FOR EVERY INPUT', by the rows' own cells (each row's printed sentence says how): LengthPuts: laid · LengthBack: laid · LengthTakes: laid · LengthNests: laid.
  DERIVED. THE GIVEN ROWS OF THIS SEAT. 4 by the template 'for every input the law returns true; each argument reads behind the call as it read before'; 0 by the template 'total and deterministic' (their statements: YtpnlhcoenpnhbaaDoorTotals.lean).
  GIVEN WITH THE SEED: the statements are not yours to turn. If you find one false, say at which input.
  Laid BY PROGRAM, IN A SANDBOX (cutbox-rows.mjs): the forced cells as the released guide's own fill.sh prints them over the translation 2b059f3ca2755b3f… (all of the seat's roots in one cut). By AI agents, Wed Nov 11 2026. No macro, syntax, notation, axiom, sorry.
-/
import Derived.Test.YtpnlhcoenpnhbaaDoorChecked
import GoSem.Claim
import GoSem.ClaimJoined
import GoSem.ClaimMapViews
import Derived.JoinedTies
import Derived.KernelRfl
namespace Go.Proofs.YtpnlhcoenpnhbaaDoor
/- THE CELL 'sum', in the pinned program and in every row, IS THE sha256 OF THE DUMP (.gsa) THAT YtpnlhcoenpnhbaaDoorProg.lean LOADS. Nothing in Lean hashes anything: it is a label: what it is worth is what the hold of that sum in a sandbox is worth. -/
noncomputable def Tryd.pinned : Pinned := { name := "ytpnlhcoenpnhbaadoor", sum := "2b059f3ca2755b3fbdeac085181b31a72dd329e899797d28d297c5458f9db4d3", checked := Tryd.checked }
namespace Rows
def none {H : Type} : Left H := { results := [], args := [] }

/- WHAT THE LISTED PACKAGE-LEVEL VARIABLES READ AS WHEN THE CALL BEGINS. Each datum BY PROGRAM (the guide's laid-datum.mjs) off the statement by which the dump's own 'gosem.cut.vars' lays the variable. In a bare row this is a premise. The card (YtpnlhcoenpnhbaaDoorCards.lean) ties it to the program's text. -/
def laid_sindri_length_sizes {H : Type} : DataW H := .agg [.lit (.int .i64 4), .lit (.int .i64 8)]

/-- 'sindrilaw05.LengthPuts': WHATEVER THE INPUT: true; the input reads as it did. -/
def lengthPutsSpec : ChangeSpec := { name := "lengthPuts", fn := fun _ => fun
  | [d1, d2, d3] => { results := [.lit (.bool true)], args := [d1, d2, d3] }
  | _ => none }
def lengthPutsRow : OpenClaim := { program := "ytpnlhcoenpnhbaadoor", sum := "2b059f3ca2755b3fbdeac085181b31a72dd329e899797d28d297c5458f9db4d3", func := "sindri/sindrilaw05.LengthPuts", spec := "lengthPuts", named := ["sindri/length.sizes"], apart := false, laid := [("sindri/length.sizes", laid_sindri_length_sizes)] }
def LengthPutsSaid : Prop := lengthPutsRow.holds Tryd.pinned (OpenSpec.ofChange lengthPutsSpec)

/-- ITS FALSE NEIGHBOUR: 'it returns false'. Refute it at one input. -/
def lengthPutsWrong : ChangeSpec := { name := "lengthPuts", fn := fun _ => fun
  | [d1, d2, d3] => { results := [.lit (.bool false)], args := [d1, d2, d3] }
  | _ => none }
def LengthPutsWrongFalsely : Prop := lengthPutsRow.holds Tryd.pinned (OpenSpec.ofChange lengthPutsWrong)

/-- 'sindrilaw05.LengthBack': WHATEVER THE INPUT: true; the input reads as it did. -/
def lengthBackSpec : ChangeSpec := { name := "lengthBack", fn := fun _ => fun
  | [d1, d2, d3, d4] => { results := [.lit (.bool true)], args := [d1, d2, d3, d4] }
  | _ => none }
def lengthBackRow : OpenClaim := { program := "ytpnlhcoenpnhbaadoor", sum := "2b059f3ca2755b3fbdeac085181b31a72dd329e899797d28d297c5458f9db4d3", func := "sindri/sindrilaw05.LengthBack", spec := "lengthBack", named := ["sindri/length.sizes"], apart := false, laid := [("sindri/length.sizes", laid_sindri_length_sizes)] }
def LengthBackSaid : Prop := lengthBackRow.holds Tryd.pinned (OpenSpec.ofChange lengthBackSpec)

/-- ITS FALSE NEIGHBOUR: 'it returns false'. Refute it at one input. -/
def lengthBackWrong : ChangeSpec := { name := "lengthBack", fn := fun _ => fun
  | [d1, d2, d3, d4] => { results := [.lit (.bool false)], args := [d1, d2, d3, d4] }
  | _ => none }
def LengthBackWrongFalsely : Prop := lengthBackRow.holds Tryd.pinned (OpenSpec.ofChange lengthBackWrong)

/-- 'sindrilaw05.LengthTakes': WHATEVER THE INPUT: true; the input reads as it did. -/
def lengthTakesSpec : ChangeSpec := { name := "lengthTakes", fn := fun _ => fun
  | [d] => { results := [.lit (.bool true)], args := [d] }
  | _ => none }
def lengthTakesRow : OpenClaim := { program := "ytpnlhcoenpnhbaadoor", sum := "2b059f3ca2755b3fbdeac085181b31a72dd329e899797d28d297c5458f9db4d3", func := "sindri/sindrilaw05.LengthTakes", spec := "lengthTakes", named := ["sindri/length.sizes"], apart := false, laid := [("sindri/length.sizes", laid_sindri_length_sizes)] }
def LengthTakesSaid : Prop := lengthTakesRow.holds Tryd.pinned (OpenSpec.ofChange lengthTakesSpec)

/-- ITS FALSE NEIGHBOUR: 'it returns false'. Refute it at one input. -/
def lengthTakesWrong : ChangeSpec := { name := "lengthTakes", fn := fun _ => fun
  | [d] => { results := [.lit (.bool false)], args := [d] }
  | _ => none }
def LengthTakesWrongFalsely : Prop := lengthTakesRow.holds Tryd.pinned (OpenSpec.ofChange lengthTakesWrong)

/-- 'sindrilaw05.LengthNests': WHATEVER THE INPUT: true; the input reads as it did. -/
def lengthNestsSpec : ChangeSpec := { name := "lengthNests", fn := fun _ => fun
  | [d1, d2] => { results := [.lit (.bool true)], args := [d1, d2] }
  | _ => none }
def lengthNestsRow : OpenClaim := { program := "ytpnlhcoenpnhbaadoor", sum := "2b059f3ca2755b3fbdeac085181b31a72dd329e899797d28d297c5458f9db4d3", func := "sindri/sindrilaw05.LengthNests", spec := "lengthNests", named := ["sindri/length.sizes"], apart := false, laid := [("sindri/length.sizes", laid_sindri_length_sizes)] }
def LengthNestsSaid : Prop := lengthNestsRow.holds Tryd.pinned (OpenSpec.ofChange lengthNestsSpec)

/-- ITS FALSE NEIGHBOUR: 'it returns false'. Refute it at one input. -/
def lengthNestsWrong : ChangeSpec := { name := "lengthNests", fn := fun _ => fun
  | [d1, d2] => { results := [.lit (.bool false)], args := [d1, d2] }
  | _ => none }
def LengthNestsWrongFalsely : Prop := lengthNestsRow.holds Tryd.pinned (OpenSpec.ofChange lengthNestsWrong)

/- THE SECOND FORM. 'bulk': how many values and letters a reading holds, each counted each time it is reached (what is shared counts as often as it is met; a slice's spare places count too). A statement '..UptoSaid' is the law's where the arguments, and the package variables that the reading takes, are together of bulk at most 1048576: NARROWER than '..Said'. Prove '..Said' where nothing that the law and all that it calls make is longer than what came in: it says more and counts as full. Else prove '..UptoSaid'. A law counts once. -/
mutual
def uptoBulk {H : Type} : DataW H → Nat
  | .lit (.string bytes) => bytes.length + 1
  | .lit _ => 1
  | .nil => 1
  | .ptr d => uptoBulk d + 1
  | .slice elems spare => uptoBulkAll elems + uptoBulkAll spare + 1
  | .agg parts => uptoBulkAll parts + 1
  | .iface _ d => uptoBulk d + 1
  | .map entries => uptoBulkEntries entries + 1
  | .held _ => 1
def uptoBulkAll {H : Type} : List (DataW H) → Nat
  | [] => 0
  | d :: r => uptoBulk d + uptoBulkAll r
def uptoBulkEntries {H : Type} : List (Lit × DataW H) → Nat
  | [] => 0
  | x :: r => uptoBulkEntry x + uptoBulkEntries r
def uptoBulkEntry {H : Type} : Lit × DataW H → Nat
  | (.string bytes, d) => bytes.length + uptoBulk d + 1
  | (_, d) => uptoBulk d + 1
 end
def uptoSmall : (H : Type) → List (DataW H) → Bool := fun _ ds => decide (uptoBulkAll ds ≤ 1048576)
def OpenSpec.upto (s : _root_.Go.ChangeSpec) : _root_.Go.OpenSpec := { _root_.Go.OpenSpec.ofChange s with cond := some uptoSmall }

/-- 'sindrilaw05.LengthPuts', WHERE WHAT IT READS IS OF BULK AT MOST 1048576: true; the input reads as it did. -/
def lengthPutsUptoRow : OpenClaim := { program := "ytpnlhcoenpnhbaadoor", sum := "2b059f3ca2755b3fbdeac085181b31a72dd329e899797d28d297c5458f9db4d3", func := "sindri/sindrilaw05.LengthPuts", spec := "lengthPuts", named := ["sindri/length.sizes"], apart := false, laid := [("sindri/length.sizes", laid_sindri_length_sizes)], narrowed := true }
def LengthPutsUptoSaid : Prop := lengthPutsUptoRow.holds Tryd.pinned (OpenSpec.upto lengthPutsSpec)

/-- 'sindrilaw05.LengthBack', WHERE WHAT IT READS IS OF BULK AT MOST 1048576: true; the input reads as it did. -/
def lengthBackUptoRow : OpenClaim := { program := "ytpnlhcoenpnhbaadoor", sum := "2b059f3ca2755b3fbdeac085181b31a72dd329e899797d28d297c5458f9db4d3", func := "sindri/sindrilaw05.LengthBack", spec := "lengthBack", named := ["sindri/length.sizes"], apart := false, laid := [("sindri/length.sizes", laid_sindri_length_sizes)], narrowed := true }
def LengthBackUptoSaid : Prop := lengthBackUptoRow.holds Tryd.pinned (OpenSpec.upto lengthBackSpec)

/-- 'sindrilaw05.LengthTakes', WHERE WHAT IT READS IS OF BULK AT MOST 1048576: true; the input reads as it did. -/
def lengthTakesUptoRow : OpenClaim := { program := "ytpnlhcoenpnhbaadoor", sum := "2b059f3ca2755b3fbdeac085181b31a72dd329e899797d28d297c5458f9db4d3", func := "sindri/sindrilaw05.LengthTakes", spec := "lengthTakes", named := ["sindri/length.sizes"], apart := false, laid := [("sindri/length.sizes", laid_sindri_length_sizes)], narrowed := true }
def LengthTakesUptoSaid : Prop := lengthTakesUptoRow.holds Tryd.pinned (OpenSpec.upto lengthTakesSpec)

/-- 'sindrilaw05.LengthNests', WHERE WHAT IT READS IS OF BULK AT MOST 1048576: true; the input reads as it did. -/
def lengthNestsUptoRow : OpenClaim := { program := "ytpnlhcoenpnhbaadoor", sum := "2b059f3ca2755b3fbdeac085181b31a72dd329e899797d28d297c5458f9db4d3", func := "sindri/sindrilaw05.LengthNests", spec := "lengthNests", named := ["sindri/length.sizes"], apart := false, laid := [("sindri/length.sizes", laid_sindri_length_sizes)], narrowed := true }
def LengthNestsUptoSaid : Prop := lengthNestsUptoRow.holds Tryd.pinned (OpenSpec.upto lengthNestsSpec)

end Rows
end Go.Proofs.YtpnlhcoenpnhbaaDoor
