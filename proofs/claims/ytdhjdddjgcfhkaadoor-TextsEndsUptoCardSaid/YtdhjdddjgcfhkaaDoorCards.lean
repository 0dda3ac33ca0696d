/-
  DERIVED. GIVEN WITH THE SEED: THE CARDS: each row of YtdhjdddjgcfhkaaDoorRows.lean that lists a variable, with what it lists TIED to the program's text (the seventh form; the later family's looks); each row that meets fmt, with fmt's text TOLD by the authors' own Lean function (tested against real Go, not proved from fmt's source: count such statements apart). THE CARD IS WHAT COUNTS. Prove the row's statement (the work); the ties are given (YtdhjdddjgcfhkaaDoorTie.lean); close each card by the builder's one call (the guide's Derived/Test/ToyasCard.lean, 'card_holds'). Laid BY PROGRAM, IN A SANDBOX (cutbox-door.mjs). By AI agents, Wed Nov 11 2026. No macro, syntax, notation, axiom, sorry.
-/
import Derived.Test.YtdhjdddjgcfhkaaDoorRows
import GoSem.ClaimSeven
namespace Go.Proofs.YtdhjdddjgcfhkaaDoor
namespace Rows

/-- THE TIED CARD OF 'bolterlaw13.TextsCase'. -/
def textsCaseCard : Claim7 := { stood := { row := textsCaseRow, standIns := [], harness := (true, "fd96053622dc4a372b6b4beb80987e78bf933b5a48b843142ce409148ae273fa"), looks := false }, kinds := [], alts := [], laidByText := true, laidKinds := [.data, .pinned], laidTests := true, laidLooks := .later }
def TextsCaseCardSaid : Prop := Claim7.holds Tryd.pinned (.plain (OpenSpec.ofChange textsCaseSpec)) textsCaseCard

/-- THE TIED CARD OF 'bolterlaw13.TextsBack'. -/
def textsBackCard : Claim7 := { stood := { row := textsBackRow, standIns := [], harness := (true, "fd96053622dc4a372b6b4beb80987e78bf933b5a48b843142ce409148ae273fa"), looks := false }, kinds := [], alts := [], laidByText := true, laidKinds := [.data, .pinned], laidTests := true, laidLooks := .later }
def TextsBackCardSaid : Prop := Claim7.holds Tryd.pinned (.plain (OpenSpec.ofChange textsBackSpec)) textsBackCard

/-- THE TIED CARD OF 'bolterlaw13.TextsSides'. -/
def textsSidesCard : Claim7 := { stood := { row := textsSidesRow, standIns := [], harness := (true, "fd96053622dc4a372b6b4beb80987e78bf933b5a48b843142ce409148ae273fa"), looks := false }, kinds := [], alts := [], laidByText := true, laidKinds := [.data, .pinned], laidTests := true, laidLooks := .later }
def TextsSidesCardSaid : Prop := Claim7.holds Tryd.pinned (.plain (OpenSpec.ofChange textsSidesSpec)) textsSidesCard

/-- THE TIED CARD OF 'bolterlaw13.TextsTimes'. -/
def textsTimesCard : Claim7 := { stood := { row := textsTimesRow, standIns := [], harness := (true, "fd96053622dc4a372b6b4beb80987e78bf933b5a48b843142ce409148ae273fa"), looks := false }, kinds := [], alts := [], laidByText := true, laidKinds := [.data, .pinned], laidTests := true, laidLooks := .later }
def TextsTimesCardSaid : Prop := Claim7.holds Tryd.pinned (.plain (OpenSpec.ofChange textsTimesSpec)) textsTimesCard

/-- THE TIED CARD OF 'bolterlaw13.TextsEnds'. -/
def textsEndsCard : Claim7 := { stood := { row := textsEndsRow, standIns := [], harness := (true, "fd96053622dc4a372b6b4beb80987e78bf933b5a48b843142ce409148ae273fa"), looks := false }, kinds := [], alts := [], laidByText := true, laidKinds := [.data, .pinned], laidTests := true, laidLooks := .later }
def TextsEndsCardSaid : Prop := Claim7.holds Tryd.pinned (.plain (OpenSpec.ofChange textsEndsSpec)) textsEndsCard

/-- THE TIED CARD OF 'bolterlaw13.TextsTells'. -/
def textsTellsCard : Claim7 := { stood := { row := textsTellsRow, standIns := [], harness := (true, "fd96053622dc4a372b6b4beb80987e78bf933b5a48b843142ce409148ae273fa"), looks := false }, kinds := [], alts := [], laidByText := true, laidKinds := [.data, .pinned], laidTests := true, laidLooks := .later }
def TextsTellsCardSaid : Prop := Claim7.holds Tryd.pinned (.plain (OpenSpec.ofChange textsTellsSpec)) textsTellsCard

/-- THE TIED CARD OF 'bolterlaw14.FormatBack'. -/
def formatBackCard : Claim7 := { stood := { row := formatBackRow, standIns := [], harness := (true, "fd96053622dc4a372b6b4beb80987e78bf933b5a48b843142ce409148ae273fa"), looks := false }, kinds := [], alts := [], laidByText := true, laidKinds := [.data, .pinned], laidTests := true, laidLooks := .later }
def FormatBackCardSaid : Prop := Claim7.holds Tryd.pinned (.plain (OpenSpec.ofChange formatBackSpec)) formatBackCard

/-- THE SECOND FORM's CARD OF 'bolterlaw13.TextsCase'. -/
def textsCaseUptoCard : Claim7 := { stood := { row := textsCaseUptoRow, standIns := [], harness := (true, "fd96053622dc4a372b6b4beb80987e78bf933b5a48b843142ce409148ae273fa"), looks := false }, kinds := [], alts := [], laidByText := true, laidKinds := [.data, .pinned], laidTests := true, laidLooks := .later }
def TextsCaseUptoCardSaid : Prop := Claim7.holds Tryd.pinned (.plain (OpenSpec.upto textsCaseSpec)) textsCaseUptoCard

/-- THE SECOND FORM's CARD OF 'bolterlaw13.TextsBack'. -/
def textsBackUptoCard : Claim7 := { stood := { row := textsBackUptoRow, standIns := [], harness := (true, "fd96053622dc4a372b6b4beb80987e78bf933b5a48b843142ce409148ae273fa"), looks := false }, kinds := [], alts := [], laidByText := true, laidKinds := [.data, .pinned], laidTests := true, laidLooks := .later }
def TextsBackUptoCardSaid : Prop := Claim7.holds Tryd.pinned (.plain (OpenSpec.upto textsBackSpec)) textsBackUptoCard

/-- THE SECOND FORM's CARD OF 'bolterlaw13.TextsSides'. -/
def textsSidesUptoCard : Claim7 := { stood := { row := textsSidesUptoRow, standIns := [], harness := (true, "fd96053622dc4a372b6b4beb80987e78bf933b5a48b843142ce409148ae273fa"), looks := false }, kinds := [], alts := [], laidByText := true, laidKinds := [.data, .pinned], laidTests := true, laidLooks := .later }
def TextsSidesUptoCardSaid : Prop := Claim7.holds Tryd.pinned (.plain (OpenSpec.upto textsSidesSpec)) textsSidesUptoCard

/-- THE SECOND FORM's CARD OF 'bolterlaw13.TextsTimes'. -/
def textsTimesUptoCard : Claim7 := { stood := { row := textsTimesUptoRow, standIns := [], harness := (true, "fd96053622dc4a372b6b4beb80987e78bf933b5a48b843142ce409148ae273fa"), looks := false }, kinds := [], alts := [], laidByText := true, laidKinds := [.data, .pinned], laidTests := true, laidLooks := .later }
def TextsTimesUptoCardSaid : Prop := Claim7.holds Tryd.pinned (.plain (OpenSpec.upto textsTimesSpec)) textsTimesUptoCard

/-- THE SECOND FORM's CARD OF 'bolterlaw13.TextsEnds'. -/
def textsEndsUptoCard : Claim7 := { stood := { row := textsEndsUptoRow, standIns := [], harness := (true, "fd96053622dc4a372b6b4beb80987e78bf933b5a48b843142ce409148ae273fa"), looks := false }, kinds := [], alts := [], laidByText := true, laidKinds := [.data, .pinned], laidTests := true, laidLooks := .later }
def TextsEndsUptoCardSaid : Prop := Claim7.holds Tryd.pinned (.plain (OpenSpec.upto textsEndsSpec)) textsEndsUptoCard

/-- THE SECOND FORM's CARD OF 'bolterlaw13.TextsTells'. -/
def textsTellsUptoCard : Claim7 := { stood := { row := textsTellsUptoRow, standIns := [], harness := (true, "fd96053622dc4a372b6b4beb80987e78bf933b5a48b843142ce409148ae273fa"), looks := false }, kinds := [], alts := [], laidByText := true, laidKinds := [.data, .pinned], laidTests := true, laidLooks := .later }
def TextsTellsUptoCardSaid : Prop := Claim7.holds Tryd.pinned (.plain (OpenSpec.upto textsTellsSpec)) textsTellsUptoCard

/-- THE SECOND FORM's CARD OF 'bolterlaw14.FormatBack'. -/
def formatBackUptoCard : Claim7 := { stood := { row := formatBackUptoRow, standIns := [], harness := (true, "fd96053622dc4a372b6b4beb80987e78bf933b5a48b843142ce409148ae273fa"), looks := false }, kinds := [], alts := [], laidByText := true, laidKinds := [.data, .pinned], laidTests := true, laidLooks := .later }
def FormatBackUptoCardSaid : Prop := Claim7.holds Tryd.pinned (.plain (OpenSpec.upto formatBackSpec)) formatBackUptoCard
end Rows
end Go.Proofs.YtdhjdddjgcfhkaaDoor
