/-
  DERIVED. GIVEN WITH THE SEED: THE CARDS: each row of YtficidiahlmimaaDoorRows.lean that lists a variable, with what it lists TIED to the program's text (the seventh form; the later family's looks); each row that meets fmt, with fmt's text TOLD by the authors' own Lean function (tested against real Go, not proved from fmt's source: count such statements apart). THE CARD IS WHAT COUNTS. Prove the row's statement (the work); the ties are given (YtficidiahlmimaaDoorTie.lean); close each card by the builder's one call (the guide's Derived/Test/ToyasCard.lean, 'card_holds'). Laid BY PROGRAM, IN A SANDBOX (cutbox-door.mjs). By AI agents, Wed Nov 11 2026. No macro, syntax, notation, axiom, sorry.
-/
import Derived.Test.YtficidiahlmimaaDoorRows
import GoSem.ClaimSeven
namespace Go.Proofs.YtficidiahlmimaaDoor
namespace Rows

/-- THE TIED CARD OF 'lustrumlaw19.ComposeIs'. -/
def composeIsCard : Claim7 := { stood := { row := composeIsRow, standIns := [], harness := (true, "30032382431802cee95269be87cd4345caba841455b6223b089056217186e81e"), looks := false }, kinds := [], alts := [], laidByText := true, laidKinds := [.data], laidTests := true, laidLooks := .later }
def ComposeIsCardSaid : Prop := Claim7.holds Tryd.pinned (.plain (OpenSpec.ofChange composeIsSpec)) composeIsCard

/-- THE TIED CARD OF 'lustrumlaw19.ComposeSound'. -/
def composeSoundCard : Claim7 := { stood := { row := composeSoundRow, standIns := [], harness := (true, "30032382431802cee95269be87cd4345caba841455b6223b089056217186e81e"), looks := false }, kinds := [], alts := [], laidByText := true, laidKinds := [.data], laidTests := true, laidLooks := .later }
def ComposeSoundCardSaid : Prop := Claim7.holds Tryd.pinned (.plain (OpenSpec.ofChange composeSoundSpec)) composeSoundCard

/-- THE TIED CARD OF 'lustrumlaw19.ComposeMet'. -/
def composeMetCard : Claim7 := { stood := { row := composeMetRow, standIns := [], harness := (true, "30032382431802cee95269be87cd4345caba841455b6223b089056217186e81e"), looks := false }, kinds := [], alts := [], laidByText := true, laidKinds := [.data], laidTests := true, laidLooks := .later }
def ComposeMetCardSaid : Prop := Claim7.holds Tryd.pinned (.plain (OpenSpec.ofChange composeMetSpec)) composeMetCard

/-- THE TIED CARD OF 'lustrumlaw19.ComposeMore'. -/
def composeMoreCard : Claim7 := { stood := { row := composeMoreRow, standIns := [], harness := (true, "30032382431802cee95269be87cd4345caba841455b6223b089056217186e81e"), looks := false }, kinds := [], alts := [], laidByText := true, laidKinds := [.data], laidTests := true, laidLooks := .later }
def ComposeMoreCardSaid : Prop := Claim7.holds Tryd.pinned (.plain (OpenSpec.ofChange composeMoreSpec)) composeMoreCard

/-- THE TIED CARD OF 'lustrumlaw19.ComposeThree'. -/
def composeThreeCard : Claim7 := { stood := { row := composeThreeRow, standIns := [], harness := (true, "30032382431802cee95269be87cd4345caba841455b6223b089056217186e81e"), looks := false }, kinds := [], alts := [], laidByText := true, laidKinds := [.data], laidTests := true, laidLooks := .later }
def ComposeThreeCardSaid : Prop := Claim7.holds Tryd.pinned (.plain (OpenSpec.ofChange composeThreeSpec)) composeThreeCard

/-- THE TIED CARD OF 'lustrumlaw19.ComposeInverse'. -/
def composeInverseCard : Claim7 := { stood := { row := composeInverseRow, standIns := [], harness := (true, "30032382431802cee95269be87cd4345caba841455b6223b089056217186e81e"), looks := false }, kinds := [], alts := [], laidByText := true, laidKinds := [.data], laidTests := true, laidLooks := .later }
def ComposeInverseCardSaid : Prop := Claim7.holds Tryd.pinned (.plain (OpenSpec.ofChange composeInverseSpec)) composeInverseCard

/-- THE SECOND FORM's CARD OF 'lustrumlaw19.ComposeIs'. -/
def composeIsUptoCard : Claim7 := { stood := { row := composeIsUptoRow, standIns := [], harness := (true, "30032382431802cee95269be87cd4345caba841455b6223b089056217186e81e"), looks := false }, kinds := [], alts := [], laidByText := true, laidKinds := [.data], laidTests := true, laidLooks := .later }
def ComposeIsUptoCardSaid : Prop := Claim7.holds Tryd.pinned (.plain (OpenSpec.upto composeIsSpec)) composeIsUptoCard

/-- THE SECOND FORM's CARD OF 'lustrumlaw19.ComposeSound'. -/
def composeSoundUptoCard : Claim7 := { stood := { row := composeSoundUptoRow, standIns := [], harness := (true, "30032382431802cee95269be87cd4345caba841455b6223b089056217186e81e"), looks := false }, kinds := [], alts := [], laidByText := true, laidKinds := [.data], laidTests := true, laidLooks := .later }
def ComposeSoundUptoCardSaid : Prop := Claim7.holds Tryd.pinned (.plain (OpenSpec.upto composeSoundSpec)) composeSoundUptoCard

/-- THE SECOND FORM's CARD OF 'lustrumlaw19.ComposeMet'. -/
def composeMetUptoCard : Claim7 := { stood := { row := composeMetUptoRow, standIns := [], harness := (true, "30032382431802cee95269be87cd4345caba841455b6223b089056217186e81e"), looks := false }, kinds := [], alts := [], laidByText := true, laidKinds := [.data], laidTests := true, laidLooks := .later }
def ComposeMetUptoCardSaid : Prop := Claim7.holds Tryd.pinned (.plain (OpenSpec.upto composeMetSpec)) composeMetUptoCard

/-- THE SECOND FORM's CARD OF 'lustrumlaw19.ComposeMore'. -/
def composeMoreUptoCard : Claim7 := { stood := { row := composeMoreUptoRow, standIns := [], harness := (true, "30032382431802cee95269be87cd4345caba841455b6223b089056217186e81e"), looks := false }, kinds := [], alts := [], laidByText := true, laidKinds := [.data], laidTests := true, laidLooks := .later }
def ComposeMoreUptoCardSaid : Prop := Claim7.holds Tryd.pinned (.plain (OpenSpec.upto composeMoreSpec)) composeMoreUptoCard

/-- THE SECOND FORM's CARD OF 'lustrumlaw19.ComposeThree'. -/
def composeThreeUptoCard : Claim7 := { stood := { row := composeThreeUptoRow, standIns := [], harness := (true, "30032382431802cee95269be87cd4345caba841455b6223b089056217186e81e"), looks := false }, kinds := [], alts := [], laidByText := true, laidKinds := [.data], laidTests := true, laidLooks := .later }
def ComposeThreeUptoCardSaid : Prop := Claim7.holds Tryd.pinned (.plain (OpenSpec.upto composeThreeSpec)) composeThreeUptoCard

/-- THE SECOND FORM's CARD OF 'lustrumlaw19.ComposeInverse'. -/
def composeInverseUptoCard : Claim7 := { stood := { row := composeInverseUptoRow, standIns := [], harness := (true, "30032382431802cee95269be87cd4345caba841455b6223b089056217186e81e"), looks := false }, kinds := [], alts := [], laidByText := true, laidKinds := [.data], laidTests := true, laidLooks := .later }
def ComposeInverseUptoCardSaid : Prop := Claim7.holds Tryd.pinned (.plain (OpenSpec.upto composeInverseSpec)) composeInverseUptoCard
end Rows
end Go.Proofs.YtficidiahlmimaaDoor
