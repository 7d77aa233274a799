/-
  NARROWER THAN 'FOR EVERY INPUT', by the rows' own cells (each row's printed sentence says how): AllenMeans: laid · AllenInverse: laid · AllenMasks: laid · AllenIs: laid · AllenNames: laid.
  DERIVED. THE GIVEN ROWS OF THIS SEAT. 5 by the template 'for every input the law returns true; each argument reads behind the call as it read before'; 0 by the template 'total and deterministic' (their statements: YtmcnmdihjdfpfaaDoorTotals.lean).
  GIVEN WITH THE SEED: the statements are not yours to turn. If you find one false, say at which input.
  Laid BY PROGRAM, IN A SANDBOX (cutbox-rows.mjs): the forced cells as the released guide's own fill.sh prints them over the translation 69ff400e6c5cadd1… (all of the seat's roots in one cut). By AI agents, Wed Nov 11 2026. No macro, syntax, notation, axiom, sorry.
-/
import Derived.Test.YtmcnmdihjdfpfaaDoorChecked
import GoSem.Claim
import GoSem.ClaimJoined
import GoSem.ClaimMapViews
import Derived.JoinedTies
import Derived.KernelRfl
namespace Go.Proofs.YtmcnmdihjdfpfaaDoor
/- THE CELL 'sum', in the pinned program and in every row, IS THE sha256 OF THE DUMP (.gsa) THAT YtmcnmdihjdfpfaaDoorProg.lean LOADS. Nothing in Lean hashes anything: it is a label: what it is worth is what the hold of that sum in a sandbox is worth. -/
noncomputable def Tryd.pinned : Pinned := { name := "ytmcnmdihjdfpfaadoor", sum := "69ff400e6c5cadd150eea4ad46514effb7af55b52fde38ae2a1a76d9f4733b53", checked := Tryd.checked }
namespace Rows
def none {H : Type} : Left H := { results := [], args := [] }

/- WHAT THE LISTED PACKAGE-LEVEL VARIABLES READ AS WHEN THE CALL BEGINS. Each datum BY PROGRAM (the guide's laid-datum.mjs) off the statement by which the dump's own 'gosem.cut.vars' lays the variable. In a bare row this is a premise. The card (YtmcnmdihjdfpfaaDoorCards.lean) ties it to the program's text. -/
def laid_lustrum_allen_shared {H : Type} : DataW H := .agg [.agg [.lit (.int .i64 2), .lit (.int .i64 7), .lit (.int .i64 8)], .agg [.lit (.int .i64 3), .lit (.int .i64 6), .lit (.int .i64 9)], .agg [.lit (.int .i64 4), .lit (.int .i64 5), .lit (.int .i64 10)]]
def laid_lustrum_allen_names {H : Type} : DataW H := .agg [.lit (.string [98, 101, 102, 111, 114, 101]), .lit (.string [109, 101, 101, 116, 115]), .lit (.string [111, 118, 101, 114, 108, 97, 112, 115]), .lit (.string [115, 116, 97, 114, 116, 115]), .lit (.string [100, 117, 114, 105, 110, 103]), .lit (.string [102, 105, 110, 105, 115, 104, 101, 115]), .lit (.string [101, 113, 117, 97, 108, 115]), .lit (.string [102, 105, 110, 105, 115, 104, 101, 100, 45, 98, 121]), .lit (.string [99, 111, 110, 116, 97, 105, 110, 115]), .lit (.string [115, 116, 97, 114, 116, 101, 100, 45, 98, 121]), .lit (.string [111, 118, 101, 114, 108, 97, 112, 112, 101, 100, 45, 98, 121]), .lit (.string [109, 101, 116, 45, 98, 121]), .lit (.string [97, 102, 116, 101, 114])]

/-- 'lustrumlaw18.AllenMeans': WHATEVER THE INPUT: true; the input reads as it did. -/
def allenMeansSpec : ChangeSpec := { name := "allenMeans", fn := fun _ => fun
  | [d1, d2] => { results := [.lit (.bool true)], args := [d1, d2] }
  | _ => none }
def allenMeansRow : OpenClaim := { program := "ytmcnmdihjdfpfaadoor", sum := "69ff400e6c5cadd150eea4ad46514effb7af55b52fde38ae2a1a76d9f4733b53", func := "lustrum/lustrumlaw18.AllenMeans", spec := "allenMeans", named := ["lustrum/allen.shared", "lustrum/allen.names"], apart := false, laid := [("lustrum/allen.shared", laid_lustrum_allen_shared), ("lustrum/allen.names", laid_lustrum_allen_names)] }
def AllenMeansSaid : Prop := allenMeansRow.holds Tryd.pinned (OpenSpec.ofChange allenMeansSpec)

/-- ITS FALSE NEIGHBOUR: 'it returns false'. Refute it at one input. -/
def allenMeansWrong : ChangeSpec := { name := "allenMeans", fn := fun _ => fun
  | [d1, d2] => { results := [.lit (.bool false)], args := [d1, d2] }
  | _ => none }
def AllenMeansWrongFalsely : Prop := allenMeansRow.holds Tryd.pinned (OpenSpec.ofChange allenMeansWrong)

/-- 'lustrumlaw18.AllenInverse': WHATEVER THE INPUT: true; the input reads as it did. -/
def allenInverseSpec : ChangeSpec := { name := "allenInverse", fn := fun _ => fun
  | [d1, d2, d3] => { results := [.lit (.bool true)], args := [d1, d2, d3] }
  | _ => none }
def allenInverseRow : OpenClaim := { program := "ytmcnmdihjdfpfaadoor", sum := "69ff400e6c5cadd150eea4ad46514effb7af55b52fde38ae2a1a76d9f4733b53", func := "lustrum/lustrumlaw18.AllenInverse", spec := "allenInverse", named := ["lustrum/allen.shared", "lustrum/allen.names"], apart := false, laid := [("lustrum/allen.shared", laid_lustrum_allen_shared), ("lustrum/allen.names", laid_lustrum_allen_names)] }
def AllenInverseSaid : Prop := allenInverseRow.holds Tryd.pinned (OpenSpec.ofChange allenInverseSpec)

/-- ITS FALSE NEIGHBOUR: 'it returns false'. Refute it at one input. -/
def allenInverseWrong : ChangeSpec := { name := "allenInverse", fn := fun _ => fun
  | [d1, d2, d3] => { results := [.lit (.bool false)], args := [d1, d2, d3] }
  | _ => none }
def AllenInverseWrongFalsely : Prop := allenInverseRow.holds Tryd.pinned (OpenSpec.ofChange allenInverseWrong)

/-- 'lustrumlaw18.AllenMasks': WHATEVER THE INPUT: true; the input reads as it did. -/
def allenMasksSpec : ChangeSpec := { name := "allenMasks", fn := fun _ => fun
  | [d1, d2] => { results := [.lit (.bool true)], args := [d1, d2] }
  | _ => none }
def allenMasksRow : OpenClaim := { program := "ytmcnmdihjdfpfaadoor", sum := "69ff400e6c5cadd150eea4ad46514effb7af55b52fde38ae2a1a76d9f4733b53", func := "lustrum/lustrumlaw18.AllenMasks", spec := "allenMasks", named := ["lustrum/allen.shared", "lustrum/allen.names"], apart := false, laid := [("lustrum/allen.shared", laid_lustrum_allen_shared), ("lustrum/allen.names", laid_lustrum_allen_names)] }
def AllenMasksSaid : Prop := allenMasksRow.holds Tryd.pinned (OpenSpec.ofChange allenMasksSpec)

/-- ITS FALSE NEIGHBOUR: 'it returns false'. Refute it at one input. -/
def allenMasksWrong : ChangeSpec := { name := "allenMasks", fn := fun _ => fun
  | [d1, d2] => { results := [.lit (.bool false)], args := [d1, d2] }
  | _ => none }
def AllenMasksWrongFalsely : Prop := allenMasksRow.holds Tryd.pinned (OpenSpec.ofChange allenMasksWrong)

/-- 'lustrumlaw18.AllenIs': WHATEVER THE INPUT: true; the input reads as it did. -/
def allenIsSpec : ChangeSpec := { name := "allenIs", fn := fun _ => fun
  | [d1, d2, d3, d4, d5] => { results := [.lit (.bool true)], args := [d1, d2, d3, d4, d5] }
  | _ => none }
def allenIsRow : OpenClaim := { program := "ytmcnmdihjdfpfaadoor", sum := "69ff400e6c5cadd150eea4ad46514effb7af55b52fde38ae2a1a76d9f4733b53", func := "lustrum/lustrumlaw18.AllenIs", spec := "allenIs", named := ["lustrum/allen.shared", "lustrum/allen.names"], apart := false, laid := [("lustrum/allen.shared", laid_lustrum_allen_shared), ("lustrum/allen.names", laid_lustrum_allen_names)] }
def AllenIsSaid : Prop := allenIsRow.holds Tryd.pinned (OpenSpec.ofChange allenIsSpec)

/-- ITS FALSE NEIGHBOUR: 'it returns false'. Refute it at one input. -/
def allenIsWrong : ChangeSpec := { name := "allenIs", fn := fun _ => fun
  | [d1, d2, d3, d4, d5] => { results := [.lit (.bool false)], args := [d1, d2, d3, d4, d5] }
  | _ => none }
def AllenIsWrongFalsely : Prop := allenIsRow.holds Tryd.pinned (OpenSpec.ofChange allenIsWrong)

/-- 'lustrumlaw18.AllenNames': WHATEVER THE INPUT: true; the input reads as it did. -/
def allenNamesSpec : ChangeSpec := { name := "allenNames", fn := fun _ => fun
  | [d1, d2] => { results := [.lit (.bool true)], args := [d1, d2] }
  | _ => none }
def allenNamesRow : OpenClaim := { program := "ytmcnmdihjdfpfaadoor", sum := "69ff400e6c5cadd150eea4ad46514effb7af55b52fde38ae2a1a76d9f4733b53", func := "lustrum/lustrumlaw18.AllenNames", spec := "allenNames", named := ["lustrum/allen.shared", "lustrum/allen.names"], apart := false, laid := [("lustrum/allen.shared", laid_lustrum_allen_shared), ("lustrum/allen.names", laid_lustrum_allen_names)] }
def AllenNamesSaid : Prop := allenNamesRow.holds Tryd.pinned (OpenSpec.ofChange allenNamesSpec)

/-- ITS FALSE NEIGHBOUR: 'it returns false'. Refute it at one input. -/
def allenNamesWrong : ChangeSpec := { name := "allenNames", fn := fun _ => fun
  | [d1, d2] => { results := [.lit (.bool false)], args := [d1, d2] }
  | _ => none }
def AllenNamesWrongFalsely : Prop := allenNamesRow.holds Tryd.pinned (OpenSpec.ofChange allenNamesWrong)

/- THE SECOND FORM. 'bulk': how many values and letters a reading holds, each counted each time it is reached (what is shared counts as often as it is met; a slice's spare places count too). A statement '..UptoSaid' is the law's where the arguments, and the package variables that the reading takes, are together of bulk at most 1048576: NARROWER than '..Said'. Prove '..Said' where nothing that the law and all that it calls make is longer than what came in: it says more and counts as full. Else prove '..UptoSaid'. A law counts once. -/
mutual
def uptoBulk {H : Type} : DataW H → Nat
  | .lit (.string bytes) => bytes.length + 1
  | .lit _ => 1
  | .nil => 1
  | .ptr d => uptoBulk d + 1
  | .slice elems spare => uptoBulkAll elems + uptoBulkAll spare + 1
  | .agg parts => uptoBulkAll parts + 1
  | .iface _ d => uptoBulk d + 1
  | .map entries => uptoBulkEntries entries + 1
  | .held _ => 1
def uptoBulkAll {H : Type} : List (DataW H) → Nat
  | [] => 0
  | d :: r => uptoBulk d + uptoBulkAll r
def uptoBulkEntries {H : Type} : List (Lit × DataW H) → Nat
  | [] => 0
  | x :: r => uptoBulkEntry x + uptoBulkEntries r
def uptoBulkEntry {H : Type} : Lit × DataW H → Nat
  | (.string bytes, d) => bytes.length + uptoBulk d + 1
  | (_, d) => uptoBulk d + 1
 end
def uptoSmall : (H : Type) → List (DataW H) → Bool := fun _ ds => decide (uptoBulkAll ds ≤ 1048576)
def OpenSpec.upto (s : _root_.Go.ChangeSpec) : _root_.Go.OpenSpec := { _root_.Go.OpenSpec.ofChange s with cond := some uptoSmall }

/-- 'lustrumlaw18.AllenMeans', WHERE WHAT IT READS IS OF BULK AT MOST 1048576: true; the input reads as it did. -/
def allenMeansUptoRow : OpenClaim := { program := "ytmcnmdihjdfpfaadoor", sum := "69ff400e6c5cadd150eea4ad46514effb7af55b52fde38ae2a1a76d9f4733b53", func := "lustrum/lustrumlaw18.AllenMeans", spec := "allenMeans", named := ["lustrum/allen.shared", "lustrum/allen.names"], apart := false, laid := [("lustrum/allen.shared", laid_lustrum_allen_shared), ("lustrum/allen.names", laid_lustrum_allen_names)], narrowed := true }
def AllenMeansUptoSaid : Prop := allenMeansUptoRow.holds Tryd.pinned (OpenSpec.upto allenMeansSpec)

/-- 'lustrumlaw18.AllenInverse', WHERE WHAT IT READS IS OF BULK AT MOST 1048576: true; the input reads as it did. -/
def allenInverseUptoRow : OpenClaim := { program := "ytmcnmdihjdfpfaadoor", sum := "69ff400e6c5cadd150eea4ad46514effb7af55b52fde38ae2a1a76d9f4733b53", func := "lustrum/lustrumlaw18.AllenInverse", spec := "allenInverse", named := ["lustrum/allen.shared", "lustrum/allen.names"], apart := false, laid := [("lustrum/allen.shared", laid_lustrum_allen_shared), ("lustrum/allen.names", laid_lustrum_allen_names)], narrowed := true }
def AllenInverseUptoSaid : Prop := allenInverseUptoRow.holds Tryd.pinned (OpenSpec.upto allenInverseSpec)

/-- 'lustrumlaw18.AllenMasks', WHERE WHAT IT READS IS OF BULK AT MOST 1048576: true; the input reads as it did. -/
def allenMasksUptoRow : OpenClaim := { program := "ytmcnmdihjdfpfaadoor", sum := "69ff400e6c5cadd150eea4ad46514effb7af55b52fde38ae2a1a76d9f4733b53", func := "lustrum/lustrumlaw18.AllenMasks", spec := "allenMasks", named := ["lustrum/allen.shared", "lustrum/allen.names"], apart := false, laid := [("lustrum/allen.shared", laid_lustrum_allen_shared), ("lustrum/allen.names", laid_lustrum_allen_names)], narrowed := true }
def AllenMasksUptoSaid : Prop := allenMasksUptoRow.holds Tryd.pinned (OpenSpec.upto allenMasksSpec)

/-- 'lustrumlaw18.AllenIs', WHERE WHAT IT READS IS OF BULK AT MOST 1048576: true; the input reads as it did. -/
def allenIsUptoRow : OpenClaim := { program := "ytmcnmdihjdfpfaadoor", sum := "69ff400e6c5cadd150eea4ad46514effb7af55b52fde38ae2a1a76d9f4733b53", func := "lustrum/lustrumlaw18.AllenIs", spec := "allenIs", named := ["lustrum/allen.shared", "lustrum/allen.names"], apart := false, laid := [("lustrum/allen.shared", laid_lustrum_allen_shared), ("lustrum/allen.names", laid_lustrum_allen_names)], narrowed := true }
def AllenIsUptoSaid : Prop := allenIsUptoRow.holds Tryd.pinned (OpenSpec.upto allenIsSpec)

/-- 'lustrumlaw18.AllenNames', WHERE WHAT IT READS IS OF BULK AT MOST 1048576: true; the input reads as it did. -/
def allenNamesUptoRow : OpenClaim := { program := "ytmcnmdihjdfpfaadoor", sum := "69ff400e6c5cadd150eea4ad46514effb7af55b52fde38ae2a1a76d9f4733b53", func := "lustrum/lustrumlaw18.AllenNames", spec := "allenNames", named := ["lustrum/allen.shared", "lustrum/allen.names"], apart := false, laid := [("lustrum/allen.shared", laid_lustrum_allen_shared), ("lustrum/allen.names", laid_lustrum_allen_names)], narrowed := true }
def AllenNamesUptoSaid : Prop := allenNamesUptoRow.holds Tryd.pinned (OpenSpec.upto allenNamesSpec)

end Rows
end Go.Proofs.YtmcnmdihjdfpfaaDoor
