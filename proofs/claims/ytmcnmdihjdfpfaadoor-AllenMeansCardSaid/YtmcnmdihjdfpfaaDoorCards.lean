/-
  DERIVED. GIVEN WITH THE SEED: THE CARDS: each row of YtmcnmdihjdfpfaaDoorRows.lean that lists a variable, with what it lists TIED to the program's text (the seventh form; the later family's looks); each row that meets fmt, with fmt's text TOLD by the authors' own Lean function (tested against real Go, not proved from fmt's source: count such statements apart). THE CARD IS WHAT COUNTS. Prove the row's statement (the work); the ties are given (YtmcnmdihjdfpfaaDoorTie.lean); close each card by the builder's one call (the guide's Derived/Test/ToyasCard.lean, 'card_holds'). Laid BY PROGRAM, IN A SANDBOX (cutbox-door.mjs). By AI agents, Wed Nov 11 2026. No macro, syntax, notation, axiom, sorry.
-/
import Derived.Test.YtmcnmdihjdfpfaaDoorRows
import GoSem.ClaimSeven
namespace Go.Proofs.YtmcnmdihjdfpfaaDoor
namespace Rows

/-- THE TIED CARD OF 'lustrumlaw18.AllenMeans'. -/
def allenMeansCard : Claim7 := { stood := { row := allenMeansRow, standIns := [], harness := (true, "93c09f58a1b589fae45c1ad444440db9a3af78fa79ea9ed7351f5d8fff4b9d69"), looks := false }, kinds := [], alts := [], laidByText := true, laidKinds := [.data, .data], laidTests := true, laidLooks := .later }
def AllenMeansCardSaid : Prop := Claim7.holds Tryd.pinned (.plain (OpenSpec.ofChange allenMeansSpec)) allenMeansCard

/-- THE TIED CARD OF 'lustrumlaw18.AllenInverse'. -/
def allenInverseCard : Claim7 := { stood := { row := allenInverseRow, standIns := [], harness := (true, "93c09f58a1b589fae45c1ad444440db9a3af78fa79ea9ed7351f5d8fff4b9d69"), looks := false }, kinds := [], alts := [], laidByText := true, laidKinds := [.data, .data], laidTests := true, laidLooks := .later }
def AllenInverseCardSaid : Prop := Claim7.holds Tryd.pinned (.plain (OpenSpec.ofChange allenInverseSpec)) allenInverseCard

/-- THE TIED CARD OF 'lustrumlaw18.AllenMasks'. -/
def allenMasksCard : Claim7 := { stood := { row := allenMasksRow, standIns := [], harness := (true, "93c09f58a1b589fae45c1ad444440db9a3af78fa79ea9ed7351f5d8fff4b9d69"), looks := false }, kinds := [], alts := [], laidByText := true, laidKinds := [.data, .data], laidTests := true, laidLooks := .later }
def AllenMasksCardSaid : Prop := Claim7.holds Tryd.pinned (.plain (OpenSpec.ofChange allenMasksSpec)) allenMasksCard

/-- THE TIED CARD OF 'lustrumlaw18.AllenIs'. -/
def allenIsCard : Claim7 := { stood := { row := allenIsRow, standIns := [], harness := (true, "93c09f58a1b589fae45c1ad444440db9a3af78fa79ea9ed7351f5d8fff4b9d69"), looks := false }, kinds := [], alts := [], laidByText := true, laidKinds := [.data, .data], laidTests := true, laidLooks := .later }
def AllenIsCardSaid : Prop := Claim7.holds Tryd.pinned (.plain (OpenSpec.ofChange allenIsSpec)) allenIsCard

/-- THE TIED CARD OF 'lustrumlaw18.AllenNames'. -/
def allenNamesCard : Claim7 := { stood := { row := allenNamesRow, standIns := [], harness := (true, "93c09f58a1b589fae45c1ad444440db9a3af78fa79ea9ed7351f5d8fff4b9d69"), looks := false }, kinds := [], alts := [], laidByText := true, laidKinds := [.data, .data], laidTests := true, laidLooks := .later }
def AllenNamesCardSaid : Prop := Claim7.holds Tryd.pinned (.plain (OpenSpec.ofChange allenNamesSpec)) allenNamesCard

/-- THE SECOND FORM's CARD OF 'lustrumlaw18.AllenMeans'. -/
def allenMeansUptoCard : Claim7 := { stood := { row := allenMeansUptoRow, standIns := [], harness := (true, "93c09f58a1b589fae45c1ad444440db9a3af78fa79ea9ed7351f5d8fff4b9d69"), looks := false }, kinds := [], alts := [], laidByText := true, laidKinds := [.data, .data], laidTests := true, laidLooks := .later }
def AllenMeansUptoCardSaid : Prop := Claim7.holds Tryd.pinned (.plain (OpenSpec.upto allenMeansSpec)) allenMeansUptoCard

/-- THE SECOND FORM's CARD OF 'lustrumlaw18.AllenInverse'. -/
def allenInverseUptoCard : Claim7 := { stood := { row := allenInverseUptoRow, standIns := [], harness := (true, "93c09f58a1b589fae45c1ad444440db9a3af78fa79ea9ed7351f5d8fff4b9d69"), looks := false }, kinds := [], alts := [], laidByText := true, laidKinds := [.data, .data], laidTests := true, laidLooks := .later }
def AllenInverseUptoCardSaid : Prop := Claim7.holds Tryd.pinned (.plain (OpenSpec.upto allenInverseSpec)) allenInverseUptoCard

/-- THE SECOND FORM's CARD OF 'lustrumlaw18.AllenMasks'. -/
def allenMasksUptoCard : Claim7 := { stood := { row := allenMasksUptoRow, standIns := [], harness := (true, "93c09f58a1b589fae45c1ad444440db9a3af78fa79ea9ed7351f5d8fff4b9d69"), looks := false }, kinds := [], alts := [], laidByText := true, laidKinds := [.data, .data], laidTests := true, laidLooks := .later }
def AllenMasksUptoCardSaid : Prop := Claim7.holds Tryd.pinned (.plain (OpenSpec.upto allenMasksSpec)) allenMasksUptoCard

/-- THE SECOND FORM's CARD OF 'lustrumlaw18.AllenIs'. -/
def allenIsUptoCard : Claim7 := { stood := { row := allenIsUptoRow, standIns := [], harness := (true, "93c09f58a1b589fae45c1ad444440db9a3af78fa79ea9ed7351f5d8fff4b9d69"), looks := false }, kinds := [], alts := [], laidByText := true, laidKinds := [.data, .data], laidTests := true, laidLooks := .later }
def AllenIsUptoCardSaid : Prop := Claim7.holds Tryd.pinned (.plain (OpenSpec.upto allenIsSpec)) allenIsUptoCard

/-- THE SECOND FORM's CARD OF 'lustrumlaw18.AllenNames'. -/
def allenNamesUptoCard : Claim7 := { stood := { row := allenNamesUptoRow, standIns := [], harness := (true, "93c09f58a1b589fae45c1ad444440db9a3af78fa79ea9ed7351f5d8fff4b9d69"), looks := false }, kinds := [], alts := [], laidByText := true, laidKinds := [.data, .data], laidTests := true, laidLooks := .later }
def AllenNamesUptoCardSaid : Prop := Claim7.holds Tryd.pinned (.plain (OpenSpec.upto allenNamesSpec)) allenNamesUptoCard
end Rows
end Go.Proofs.YtmcnmdihjdfpfaaDoor
