/-
  NARROWER THAN 'FOR EVERY INPUT', by the rows' own cells (each row's printed sentence says how): ComposeIs: laid · ComposeSound: laid · ComposeMet: laid · ComposeMore: laid · ComposeThree: laid · ComposeInverse: laid.
  DERIVED. THE GIVEN ROWS OF THIS SEAT. 6 by the template 'for every input the law returns true; each argument reads behind the call as it read before'; 0 by the template 'total and deterministic' (their statements: YtficidiahlmimaaDoorTotals.lean).
  GIVEN WITH THE SEED: the statements are not yours to turn. If you find one false, say at which input.
  Laid BY PROGRAM, IN A SANDBOX (cutbox-rows.mjs): the forced cells as the released guide's own fill.sh prints them over the translation 8952d40c4b833fcf… (all of the seat's roots in one cut). By AI agents, Wed Nov 11 2026. No macro, syntax, notation, axiom, sorry.
-/
import Derived.Test.YtficidiahlmimaaDoorChecked
import GoSem.Claim
import GoSem.ClaimJoined
import GoSem.ClaimMapViews
import Derived.JoinedTies
import Derived.KernelRfl
namespace Go.Proofs.YtficidiahlmimaaDoor
/- THE CELL 'sum', in the pinned program and in every row, IS THE sha256 OF THE DUMP (.gsa) THAT YtficidiahlmimaaDoorProg.lean LOADS. Nothing in Lean hashes anything: it is a label: what it is worth is what the hold of that sum in a sandbox is worth. -/
noncomputable def Tryd.pinned : Pinned := { name := "ytficidiahlmimaadoor", sum := "8952d40c4b833fcf52be026ab58cda5079e35fd71f0791ad23a461fa96b6d728", checked := Tryd.checked }
namespace Rows
def none {H : Type} : Left H := { results := [], args := [] }

/- WHAT THE LISTED PACKAGE-LEVEL VARIABLES READ AS WHEN THE CALL BEGINS. Each datum BY PROGRAM (the guide's laid-datum.mjs) off the statement by which the dump's own 'gosem.cut.vars' lays the variable. In a bare row this is a premise. The card (YtficidiahlmimaaDoorCards.lean) ties it to the program's text. -/
def laid_lustrum_allen_shared {H : Type} : DataW H := .agg [.agg [.lit (.int .i64 2), .lit (.int .i64 7), .lit (.int .i64 8)], .agg [.lit (.int .i64 3), .lit (.int .i64 6), .lit (.int .i64 9)], .agg [.lit (.int .i64 4), .lit (.int .i64 5), .lit (.int .i64 10)]]

/-- 'lustrumlaw19.ComposeIs': WHATEVER THE INPUT: true; the input reads as it did. -/
def composeIsSpec : ChangeSpec := { name := "composeIs", fn := fun _ => fun
  | [d1, d2, d3, d4] => { results := [.lit (.bool true)], args := [d1, d2, d3, d4] }
  | _ => none }
def composeIsRow : OpenClaim := { program := "ytficidiahlmimaadoor", sum := "8952d40c4b833fcf52be026ab58cda5079e35fd71f0791ad23a461fa96b6d728", func := "lustrum/lustrumlaw19.ComposeIs", spec := "composeIs", named := ["lustrum/allen.shared"], apart := false, laid := [("lustrum/allen.shared", laid_lustrum_allen_shared)] }
def ComposeIsSaid : Prop := composeIsRow.holds Tryd.pinned (OpenSpec.ofChange composeIsSpec)

/-- ITS FALSE NEIGHBOUR: 'it returns false'. Refute it at one input. -/
def composeIsWrong : ChangeSpec := { name := "composeIs", fn := fun _ => fun
  | [d1, d2, d3, d4] => { results := [.lit (.bool false)], args := [d1, d2, d3, d4] }
  | _ => none }
def ComposeIsWrongFalsely : Prop := composeIsRow.holds Tryd.pinned (OpenSpec.ofChange composeIsWrong)

/-- 'lustrumlaw19.ComposeSound': WHATEVER THE INPUT: true; the input reads as it did. -/
def composeSoundSpec : ChangeSpec := { name := "composeSound", fn := fun _ => fun
  | [d1, d2, d3] => { results := [.lit (.bool true)], args := [d1, d2, d3] }
  | _ => none }
def composeSoundRow : OpenClaim := { program := "ytficidiahlmimaadoor", sum := "8952d40c4b833fcf52be026ab58cda5079e35fd71f0791ad23a461fa96b6d728", func := "lustrum/lustrumlaw19.ComposeSound", spec := "composeSound", named := ["lustrum/allen.shared"], apart := false, laid := [("lustrum/allen.shared", laid_lustrum_allen_shared)] }
def ComposeSoundSaid : Prop := composeSoundRow.holds Tryd.pinned (OpenSpec.ofChange composeSoundSpec)

/-- ITS FALSE NEIGHBOUR: 'it returns false'. Refute it at one input. -/
def composeSoundWrong : ChangeSpec := { name := "composeSound", fn := fun _ => fun
  | [d1, d2, d3] => { results := [.lit (.bool false)], args := [d1, d2, d3] }
  | _ => none }
def ComposeSoundWrongFalsely : Prop := composeSoundRow.holds Tryd.pinned (OpenSpec.ofChange composeSoundWrong)

/-- 'lustrumlaw19.ComposeMet': WHATEVER THE INPUT: true; the input reads as it did. -/
def composeMetSpec : ChangeSpec := { name := "composeMet", fn := fun _ => fun
  | [d1, d2] => { results := [.lit (.bool true)], args := [d1, d2] }
  | _ => none }
def composeMetRow : OpenClaim := { program := "ytficidiahlmimaadoor", sum := "8952d40c4b833fcf52be026ab58cda5079e35fd71f0791ad23a461fa96b6d728", func := "lustrum/lustrumlaw19.ComposeMet", spec := "composeMet", named := ["lustrum/allen.shared"], apart := false, laid := [("lustrum/allen.shared", laid_lustrum_allen_shared)] }
def ComposeMetSaid : Prop := composeMetRow.holds Tryd.pinned (OpenSpec.ofChange composeMetSpec)

/-- ITS FALSE NEIGHBOUR: 'it returns false'. Refute it at one input. -/
def composeMetWrong : ChangeSpec := { name := "composeMet", fn := fun _ => fun
  | [d1, d2] => { results := [.lit (.bool false)], args := [d1, d2] }
  | _ => none }
def ComposeMetWrongFalsely : Prop := composeMetRow.holds Tryd.pinned (OpenSpec.ofChange composeMetWrong)

/-- 'lustrumlaw19.ComposeMore': WHATEVER THE INPUT: true; the input reads as it did. -/
def composeMoreSpec : ChangeSpec := { name := "composeMore", fn := fun _ => fun
  | [d1, d2, d3] => { results := [.lit (.bool true)], args := [d1, d2, d3] }
  | _ => none }
def composeMoreRow : OpenClaim := { program := "ytficidiahlmimaadoor", sum := "8952d40c4b833fcf52be026ab58cda5079e35fd71f0791ad23a461fa96b6d728", func := "lustrum/lustrumlaw19.ComposeMore", spec := "composeMore", named := ["lustrum/allen.shared"], apart := false, laid := [("lustrum/allen.shared", laid_lustrum_allen_shared)] }
def ComposeMoreSaid : Prop := composeMoreRow.holds Tryd.pinned (OpenSpec.ofChange composeMoreSpec)

/-- ITS FALSE NEIGHBOUR: 'it returns false'. Refute it at one input. -/
def composeMoreWrong : ChangeSpec := { name := "composeMore", fn := fun _ => fun
  | [d1, d2, d3] => { results := [.lit (.bool false)], args := [d1, d2, d3] }
  | _ => none }
def ComposeMoreWrongFalsely : Prop := composeMoreRow.holds Tryd.pinned (OpenSpec.ofChange composeMoreWrong)

/-- 'lustrumlaw19.ComposeThree': WHATEVER THE INPUT: true; the input reads as it did. -/
def composeThreeSpec : ChangeSpec := { name := "composeThree", fn := fun _ => fun
  | [d1, d2, d3] => { results := [.lit (.bool true)], args := [d1, d2, d3] }
  | _ => none }
def composeThreeRow : OpenClaim := { program := "ytficidiahlmimaadoor", sum := "8952d40c4b833fcf52be026ab58cda5079e35fd71f0791ad23a461fa96b6d728", func := "lustrum/lustrumlaw19.ComposeThree", spec := "composeThree", named := ["lustrum/allen.shared"], apart := false, laid := [("lustrum/allen.shared", laid_lustrum_allen_shared)] }
def ComposeThreeSaid : Prop := composeThreeRow.holds Tryd.pinned (OpenSpec.ofChange composeThreeSpec)

/-- ITS FALSE NEIGHBOUR: 'it returns false'. Refute it at one input. -/
def composeThreeWrong : ChangeSpec := { name := "composeThree", fn := fun _ => fun
  | [d1, d2, d3] => { results := [.lit (.bool false)], args := [d1, d2, d3] }
  | _ => none }
def ComposeThreeWrongFalsely : Prop := composeThreeRow.holds Tryd.pinned (OpenSpec.ofChange composeThreeWrong)

/-- 'lustrumlaw19.ComposeInverse': WHATEVER THE INPUT: true; the input reads as it did. -/
def composeInverseSpec : ChangeSpec := { name := "composeInverse", fn := fun _ => fun
  | [d1, d2] => { results := [.lit (.bool true)], args := [d1, d2] }
  | _ => none }
def composeInverseRow : OpenClaim := { program := "ytficidiahlmimaadoor", sum := "8952d40c4b833fcf52be026ab58cda5079e35fd71f0791ad23a461fa96b6d728", func := "lustrum/lustrumlaw19.ComposeInverse", spec := "composeInverse", named := ["lustrum/allen.shared"], apart := false, laid := [("lustrum/allen.shared", laid_lustrum_allen_shared)] }
def ComposeInverseSaid : Prop := composeInverseRow.holds Tryd.pinned (OpenSpec.ofChange composeInverseSpec)

/-- ITS FALSE NEIGHBOUR: 'it returns false'. Refute it at one input. -/
def composeInverseWrong : ChangeSpec := { name := "composeInverse", fn := fun _ => fun
  | [d1, d2] => { results := [.lit (.bool false)], args := [d1, d2] }
  | _ => none }
def ComposeInverseWrongFalsely : Prop := composeInverseRow.holds Tryd.pinned (OpenSpec.ofChange composeInverseWrong)

/- THE SECOND FORM. 'bulk': how many values and letters a reading holds, each counted each time it is reached (what is shared counts as often as it is met; a slice's spare places count too). A statement '..UptoSaid' is the law's where the arguments, and the package variables that the reading takes, are together of bulk at most 1048576: NARROWER than '..Said'. Prove '..Said' where nothing that the law and all that it calls make is longer than what came in: it says more and counts as full. Else prove '..UptoSaid'. A law counts once. -/
mutual
def uptoBulk {H : Type} : DataW H → Nat
  | .lit (.string bytes) => bytes.length + 1
  | .lit _ => 1
  | .nil => 1
  | .ptr d => uptoBulk d + 1
  | .slice elems spare => uptoBulkAll elems + uptoBulkAll spare + 1
  | .agg parts => uptoBulkAll parts + 1
  | .iface _ d => uptoBulk d + 1
  | .map entries => uptoBulkEntries entries + 1
  | .held _ => 1
def uptoBulkAll {H : Type} : List (DataW H) → Nat
  | [] => 0
  | d :: r => uptoBulk d + uptoBulkAll r
def uptoBulkEntries {H : Type} : List (Lit × DataW H) → Nat
  | [] => 0
  | x :: r => uptoBulkEntry x + uptoBulkEntries r
def uptoBulkEntry {H : Type} : Lit × DataW H → Nat
  | (.string bytes, d) => bytes.length + uptoBulk d + 1
  | (_, d) => uptoBulk d + 1
 end
def uptoSmall : (H : Type) → List (DataW H) → Bool := fun _ ds => decide (uptoBulkAll ds ≤ 1048576)
def OpenSpec.upto (s : _root_.Go.ChangeSpec) : _root_.Go.OpenSpec := { _root_.Go.OpenSpec.ofChange s with cond := some uptoSmall }

/-- 'lustrumlaw19.ComposeIs', WHERE WHAT IT READS IS OF BULK AT MOST 1048576: true; the input reads as it did. -/
def composeIsUptoRow : OpenClaim := { program := "ytficidiahlmimaadoor", sum := "8952d40c4b833fcf52be026ab58cda5079e35fd71f0791ad23a461fa96b6d728", func := "lustrum/lustrumlaw19.ComposeIs", spec := "composeIs", named := ["lustrum/allen.shared"], apart := false, laid := [("lustrum/allen.shared", laid_lustrum_allen_shared)], narrowed := true }
def ComposeIsUptoSaid : Prop := composeIsUptoRow.holds Tryd.pinned (OpenSpec.upto composeIsSpec)

/-- 'lustrumlaw19.ComposeSound', WHERE WHAT IT READS IS OF BULK AT MOST 1048576: true; the input reads as it did. -/
def composeSoundUptoRow : OpenClaim := { program := "ytficidiahlmimaadoor", sum := "8952d40c4b833fcf52be026ab58cda5079e35fd71f0791ad23a461fa96b6d728", func := "lustrum/lustrumlaw19.ComposeSound", spec := "composeSound", named := ["lustrum/allen.shared"], apart := false, laid := [("lustrum/allen.shared", laid_lustrum_allen_shared)], narrowed := true }
def ComposeSoundUptoSaid : Prop := composeSoundUptoRow.holds Tryd.pinned (OpenSpec.upto composeSoundSpec)

/-- 'lustrumlaw19.ComposeMet', WHERE WHAT IT READS IS OF BULK AT MOST 1048576: true; the input reads as it did. -/
def composeMetUptoRow : OpenClaim := { program := "ytficidiahlmimaadoor", sum := "8952d40c4b833fcf52be026ab58cda5079e35fd71f0791ad23a461fa96b6d728", func := "lustrum/lustrumlaw19.ComposeMet", spec := "composeMet", named := ["lustrum/allen.shared"], apart := false, laid := [("lustrum/allen.shared", laid_lustrum_allen_shared)], narrowed := true }
def ComposeMetUptoSaid : Prop := composeMetUptoRow.holds Tryd.pinned (OpenSpec.upto composeMetSpec)

/-- 'lustrumlaw19.ComposeMore', WHERE WHAT IT READS IS OF BULK AT MOST 1048576: true; the input reads as it did. -/
def composeMoreUptoRow : OpenClaim := { program := "ytficidiahlmimaadoor", sum := "8952d40c4b833fcf52be026ab58cda5079e35fd71f0791ad23a461fa96b6d728", func := "lustrum/lustrumlaw19.ComposeMore", spec := "composeMore", named := ["lustrum/allen.shared"], apart := false, laid := [("lustrum/allen.shared", laid_lustrum_allen_shared)], narrowed := true }
def ComposeMoreUptoSaid : Prop := composeMoreUptoRow.holds Tryd.pinned (OpenSpec.upto composeMoreSpec)

/-- 'lustrumlaw19.ComposeThree', WHERE WHAT IT READS IS OF BULK AT MOST 1048576: true; the input reads as it did. -/
def composeThreeUptoRow : OpenClaim := { program := "ytficidiahlmimaadoor", sum := "8952d40c4b833fcf52be026ab58cda5079e35fd71f0791ad23a461fa96b6d728", func := "lustrum/lustrumlaw19.ComposeThree", spec := "composeThree", named := ["lustrum/allen.shared"], apart := false, laid := [("lustrum/allen.shared", laid_lustrum_allen_shared)], narrowed := true }
def ComposeThreeUptoSaid : Prop := composeThreeUptoRow.holds Tryd.pinned (OpenSpec.upto composeThreeSpec)

/-- 'lustrumlaw19.ComposeInverse', WHERE WHAT IT READS IS OF BULK AT MOST 1048576: true; the input reads as it did. -/
def composeInverseUptoRow : OpenClaim := { program := "ytficidiahlmimaadoor", sum := "8952d40c4b833fcf52be026ab58cda5079e35fd71f0791ad23a461fa96b6d728", func := "lustrum/lustrumlaw19.ComposeInverse", spec := "composeInverse", named := ["lustrum/allen.shared"], apart := false, laid := [("lustrum/allen.shared", laid_lustrum_allen_shared)], narrowed := true }
def ComposeInverseUptoSaid : Prop := composeInverseUptoRow.holds Tryd.pinned (OpenSpec.upto composeInverseSpec)

end Rows
end Go.Proofs.YtficidiahlmimaaDoor
