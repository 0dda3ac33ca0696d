/-
  DERIVED. GIVEN WITH THE SEED: THE CARDS: each row of YtnbkmaghdbhlnaaDoorRows.lean that lists a variable, with what it lists TIED to the program's text (the seventh form; the later family's looks); each row that meets fmt, with fmt's text TOLD by the authors' own Lean function (tested against real Go, not proved from fmt's source: count such statements apart). THE CARD IS WHAT COUNTS. Prove the row's statement (the work); the ties are given (YtnbkmaghdbhlnaaDoorTie.lean); close each card by the builder's one call (the guide's Derived/Test/ToyasCard.lean, 'card_holds'). Laid BY PROGRAM, IN A SANDBOX (cutbox-door.mjs). By AI agents, Wed Nov 11 2026. No macro, syntax, notation, axiom, sorry.
-/
import Derived.Test.YtnbkmaghdbhlnaaDoorRows
import GoSem.ClaimSeven
namespace Go.Proofs.YtnbkmaghdbhlnaaDoor
namespace Rows

/-- THE TIED CARD OF 'bolterlaw14.FormatBack'. -/
def formatBackCard : Claim7 := { stood := { row := formatBackRow, standIns := [], harness := (true, "3472681751e9a8de23e309d57fe7d2eb8e86b3b2e912a4dc46f25032b3175143"), looks := false }, kinds := [], alts := [], laidByText := true, laidKinds := [.data, .pinned], laidTests := true, laidLooks := .later }
def FormatBackCardSaid : Prop := Claim7.holds Tryd.pinned (.plain (OpenSpec.ofChange formatBackSpec)) formatBackCard

/-- THE SECOND FORM's CARD OF 'bolterlaw14.FormatBack'. -/
def formatBackUptoCard : Claim7 := { stood := { row := formatBackUptoRow, standIns := [], harness := (true, "3472681751e9a8de23e309d57fe7d2eb8e86b3b2e912a4dc46f25032b3175143"), looks := false }, kinds := [], alts := [], laidByText := true, laidKinds := [.data, .pinned], laidTests := true, laidLooks := .later }
def FormatBackUptoCardSaid : Prop := Claim7.holds Tryd.pinned (.plain (OpenSpec.upto formatBackSpec)) formatBackUptoCard
end Rows
end Go.Proofs.YtnbkmaghdbhlnaaDoor
