/-
  DERIVED. GIVEN WITH THE SEED: THE CARDS: each row of YtjbjkmccfocikaaGreatDoorRows.lean that lists a variable, with what it lists TIED to the program's text (the seventh form; the later family's looks); each row that meets fmt, with fmt's text TOLD by the authors' own Lean function (tested against real Go, not proved from fmt's source: count such statements apart). THE CARD IS WHAT COUNTS. Prove the row's statement (the work); the ties are given (YtjbjkmccfocikaaGreatDoorTie.lean); close each card by the builder's one call (the guide's Derived/Test/ToyasCard.lean, 'card_holds'). Laid BY PROGRAM, IN A SANDBOX (cutbox-door.mjs). By AI agents, Wed Nov 11 2026. No macro, syntax, notation, axiom, sorry.
-/
import Derived.Test.YtjbjkmccfocikaaGreatDoorRows
import GoSem.ClaimSeven
namespace Go.Proofs.YtjbjkmccfocikaaGreatDoor
namespace Rows

/-- THE TIED CARD OF 'bolterlaw03.QuotExact'. -/
def quotExactCard : Claim7 := { stood := { row := quotExactRow, standIns := [], harness := (true, "e927df034aad62559627c56f597f305f32c47a341f463789997d6727cff46b9b"), looks := false }, kinds := [], alts := [], laidByText := true, laidKinds := [.data, .pinned], laidTests := true, laidLooks := .later }
def QuotExactCardSaid : Prop := Claim7.holds Tryz.pinned (.plain (OpenSpec.ofChange quotExactSpec)) quotExactCard

/-- THE TIED CARD OF 'bolterlaw03.QuotHalf'. -/
def quotHalfCard : Claim7 := { stood := { row := quotHalfRow, standIns := [], harness := (true, "e927df034aad62559627c56f597f305f32c47a341f463789997d6727cff46b9b"), looks := false }, kinds := [], alts := [], laidByText := true, laidKinds := [.data, .pinned], laidTests := true, laidLooks := .later }
def QuotHalfCardSaid : Prop := Claim7.holds Tryz.pinned (.plain (OpenSpec.ofChange quotHalfSpec)) quotHalfCard

/-- THE TIED CARD OF 'bolterlaw03.QuotRoots'. -/
def quotRootsCard : Claim7 := { stood := { row := quotRootsRow, standIns := [], harness := (true, "e927df034aad62559627c56f597f305f32c47a341f463789997d6727cff46b9b"), looks := false }, kinds := [], alts := [], laidByText := true, laidKinds := [.data, .pinned], laidTests := true, laidLooks := .later }
def QuotRootsCardSaid : Prop := Claim7.holds Tryz.pinned (.plain (OpenSpec.ofChange quotRootsSpec)) quotRootsCard

/-- THE TIED CARD OF 'bolterlaw03.QuotRests'. -/
def quotRestsCard : Claim7 := { stood := { row := quotRestsRow, standIns := [], harness := (true, "e927df034aad62559627c56f597f305f32c47a341f463789997d6727cff46b9b"), looks := false }, kinds := [], alts := [], laidByText := true, laidKinds := [.data, .pinned], laidTests := true, laidLooks := .later }
def QuotRestsCardSaid : Prop := Claim7.holds Tryz.pinned (.plain (OpenSpec.ofChange quotRestsSpec)) quotRestsCard

/-- THE TIED CARD OF 'bolterlaw03.QuotNear'. -/
def quotNearCard : Claim7 := { stood := { row := quotNearRow, standIns := [], harness := (true, "e927df034aad62559627c56f597f305f32c47a341f463789997d6727cff46b9b"), looks := false }, kinds := [], alts := [], laidByText := true, laidKinds := [.data, .pinned], laidTests := true, laidLooks := .later }
def QuotNearCardSaid : Prop := Claim7.holds Tryz.pinned (.plain (OpenSpec.ofChange quotNearSpec)) quotNearCard

/-- THE TIED CARD OF 'bolterlaw03.QuotTells'. -/
def quotTellsCard : Claim7 := { stood := { row := quotTellsRow, standIns := [], harness := (true, "e927df034aad62559627c56f597f305f32c47a341f463789997d6727cff46b9b"), looks := false }, kinds := [], alts := [], laidByText := true, laidKinds := [.data, .pinned], laidTests := true, laidLooks := .later }
def QuotTellsCardSaid : Prop := Claim7.holds Tryz.pinned (.plain (OpenSpec.ofChange quotTellsSpec)) quotTellsCard

/-- THE TIED CARD OF 'bolterlaw02.DecOwn'. -/
def decOwnCard : Claim7 := { stood := { row := decOwnRow, standIns := [], harness := (true, "e927df034aad62559627c56f597f305f32c47a341f463789997d6727cff46b9b"), looks := false }, kinds := [], alts := [], laidByText := true, laidKinds := [.data, .pinned], laidTests := true, laidLooks := .later }
def DecOwnCardSaid : Prop := Claim7.holds Tryz.pinned (.plain (OpenSpec.ofChange decOwnSpec)) decOwnCard

/-- THE TIED CARD OF 'bolterlaw02.DecOrder'. -/
def decOrderCard : Claim7 := { stood := { row := decOrderRow, standIns := [], harness := (true, "e927df034aad62559627c56f597f305f32c47a341f463789997d6727cff46b9b"), looks := false }, kinds := [], alts := [], laidByText := true, laidKinds := [.data, .pinned], laidTests := true, laidLooks := .later }
def DecOrderCardSaid : Prop := Claim7.holds Tryz.pinned (.plain (OpenSpec.ofChange decOrderSpec)) decOrderCard

/-- THE TIED CARD OF 'bolterlaw02.DecSums'. -/
def decSumsCard : Claim7 := { stood := { row := decSumsRow, standIns := [], harness := (true, "e927df034aad62559627c56f597f305f32c47a341f463789997d6727cff46b9b"), looks := false }, kinds := [], alts := [], laidByText := true, laidKinds := [.data, .pinned], laidTests := true, laidLooks := .later }
def DecSumsCardSaid : Prop := Claim7.holds Tryz.pinned (.plain (OpenSpec.ofChange decSumsSpec)) decSumsCard

/-- THE TIED CARD OF 'bolterlaw02.DecInts'. -/
def decIntsCard : Claim7 := { stood := { row := decIntsRow, standIns := [], harness := (true, "e927df034aad62559627c56f597f305f32c47a341f463789997d6727cff46b9b"), looks := false }, kinds := [], alts := [], laidByText := true, laidKinds := [.data, .pinned], laidTests := true, laidLooks := .later }
def DecIntsCardSaid : Prop := Claim7.holds Tryz.pinned (.plain (OpenSpec.ofChange decIntsSpec)) decIntsCard

/-- THE TIED CARD OF 'bolterlaw02.DecTells'. -/
def decTellsCard : Claim7 := { stood := { row := decTellsRow, standIns := [], harness := (true, "e927df034aad62559627c56f597f305f32c47a341f463789997d6727cff46b9b"), looks := false }, kinds := [], alts := [], laidByText := true, laidKinds := [.data, .pinned], laidTests := true, laidLooks := .later }
def DecTellsCardSaid : Prop := Claim7.holds Tryz.pinned (.plain (OpenSpec.ofChange decTellsSpec)) decTellsCard

/-- THE TIED CARD OF 'bolterlaw02.DecBack'. -/
def decBackCard : Claim7 := { stood := { row := decBackRow, standIns := [], harness := (true, "e927df034aad62559627c56f597f305f32c47a341f463789997d6727cff46b9b"), looks := false }, kinds := [], alts := [], laidByText := true, laidKinds := [.data, .pinned], laidTests := true, laidLooks := .later }
def DecBackCardSaid : Prop := Claim7.holds Tryz.pinned (.plain (OpenSpec.ofChange decBackSpec)) decBackCard

/-- THE TIED CARD OF 'bolterlaw02.DecTexts'. -/
def decTextsCard : Claim7 := { stood := { row := decTextsRow, standIns := [], harness := (true, "e927df034aad62559627c56f597f305f32c47a341f463789997d6727cff46b9b"), looks := false }, kinds := [], alts := [], laidByText := true, laidKinds := [.data, .pinned], laidTests := true, laidLooks := .later }
def DecTextsCardSaid : Prop := Claim7.holds Tryz.pinned (.plain (OpenSpec.ofChange decTextsSpec)) decTextsCard

/-- THE SECOND FORM's CARD OF 'bolterlaw03.QuotExact'. -/
def quotExactUptoCard : Claim7 := { stood := { row := quotExactUptoRow, standIns := [], harness := (true, "e927df034aad62559627c56f597f305f32c47a341f463789997d6727cff46b9b"), looks := false }, kinds := [], alts := [], laidByText := true, laidKinds := [.data, .pinned], laidTests := true, laidLooks := .later }
def QuotExactUptoCardSaid : Prop := Claim7.holds Tryz.pinned (.plain (OpenSpec.upto quotExactSpec)) quotExactUptoCard

/-- THE SECOND FORM's CARD OF 'bolterlaw03.QuotHalf'. -/
def quotHalfUptoCard : Claim7 := { stood := { row := quotHalfUptoRow, standIns := [], harness := (true, "e927df034aad62559627c56f597f305f32c47a341f463789997d6727cff46b9b"), looks := false }, kinds := [], alts := [], laidByText := true, laidKinds := [.data, .pinned], laidTests := true, laidLooks := .later }
def QuotHalfUptoCardSaid : Prop := Claim7.holds Tryz.pinned (.plain (OpenSpec.upto quotHalfSpec)) quotHalfUptoCard

/-- THE SECOND FORM's CARD OF 'bolterlaw03.QuotRoots'. -/
def quotRootsUptoCard : Claim7 := { stood := { row := quotRootsUptoRow, standIns := [], harness := (true, "e927df034aad62559627c56f597f305f32c47a341f463789997d6727cff46b9b"), looks := false }, kinds := [], alts := [], laidByText := true, laidKinds := [.data, .pinned], laidTests := true, laidLooks := .later }
def QuotRootsUptoCardSaid : Prop := Claim7.holds Tryz.pinned (.plain (OpenSpec.upto quotRootsSpec)) quotRootsUptoCard

/-- THE SECOND FORM's CARD OF 'bolterlaw03.QuotRests'. -/
def quotRestsUptoCard : Claim7 := { stood := { row := quotRestsUptoRow, standIns := [], harness := (true, "e927df034aad62559627c56f597f305f32c47a341f463789997d6727cff46b9b"), looks := false }, kinds := [], alts := [], laidByText := true, laidKinds := [.data, .pinned], laidTests := true, laidLooks := .later }
def QuotRestsUptoCardSaid : Prop := Claim7.holds Tryz.pinned (.plain (OpenSpec.upto quotRestsSpec)) quotRestsUptoCard

/-- THE SECOND FORM's CARD OF 'bolterlaw03.QuotNear'. -/
def quotNearUptoCard : Claim7 := { stood := { row := quotNearUptoRow, standIns := [], harness := (true, "e927df034aad62559627c56f597f305f32c47a341f463789997d6727cff46b9b"), looks := false }, kinds := [], alts := [], laidByText := true, laidKinds := [.data, .pinned], laidTests := true, laidLooks := .later }
def QuotNearUptoCardSaid : Prop := Claim7.holds Tryz.pinned (.plain (OpenSpec.upto quotNearSpec)) quotNearUptoCard

/-- THE SECOND FORM's CARD OF 'bolterlaw03.QuotTells'. -/
def quotTellsUptoCard : Claim7 := { stood := { row := quotTellsUptoRow, standIns := [], harness := (true, "e927df034aad62559627c56f597f305f32c47a341f463789997d6727cff46b9b"), looks := false }, kinds := [], alts := [], laidByText := true, laidKinds := [.data, .pinned], laidTests := true, laidLooks := .later }
def QuotTellsUptoCardSaid : Prop := Claim7.holds Tryz.pinned (.plain (OpenSpec.upto quotTellsSpec)) quotTellsUptoCard

/-- THE SECOND FORM's CARD OF 'bolterlaw02.DecOwn'. -/
def decOwnUptoCard : Claim7 := { stood := { row := decOwnUptoRow, standIns := [], harness := (true, "e927df034aad62559627c56f597f305f32c47a341f463789997d6727cff46b9b"), looks := false }, kinds := [], alts := [], laidByText := true, laidKinds := [.data, .pinned], laidTests := true, laidLooks := .later }
def DecOwnUptoCardSaid : Prop := Claim7.holds Tryz.pinned (.plain (OpenSpec.upto decOwnSpec)) decOwnUptoCard

/-- THE SECOND FORM's CARD OF 'bolterlaw02.DecOrder'. -/
def decOrderUptoCard : Claim7 := { stood := { row := decOrderUptoRow, standIns := [], harness := (true, "e927df034aad62559627c56f597f305f32c47a341f463789997d6727cff46b9b"), looks := false }, kinds := [], alts := [], laidByText := true, laidKinds := [.data, .pinned], laidTests := true, laidLooks := .later }
def DecOrderUptoCardSaid : Prop := Claim7.holds Tryz.pinned (.plain (OpenSpec.upto decOrderSpec)) decOrderUptoCard

/-- THE SECOND FORM's CARD OF 'bolterlaw02.DecSums'. -/
def decSumsUptoCard : Claim7 := { stood := { row := decSumsUptoRow, standIns := [], harness := (true, "e927df034aad62559627c56f597f305f32c47a341f463789997d6727cff46b9b"), looks := false }, kinds := [], alts := [], laidByText := true, laidKinds := [.data, .pinned], laidTests := true, laidLooks := .later }
def DecSumsUptoCardSaid : Prop := Claim7.holds Tryz.pinned (.plain (OpenSpec.upto decSumsSpec)) decSumsUptoCard

/-- THE SECOND FORM's CARD OF 'bolterlaw02.DecInts'. -/
def decIntsUptoCard : Claim7 := { stood := { row := decIntsUptoRow, standIns := [], harness := (true, "e927df034aad62559627c56f597f305f32c47a341f463789997d6727cff46b9b"), looks := false }, kinds := [], alts := [], laidByText := true, laidKinds := [.data, .pinned], laidTests := true, laidLooks := .later }
def DecIntsUptoCardSaid : Prop := Claim7.holds Tryz.pinned (.plain (OpenSpec.upto decIntsSpec)) decIntsUptoCard

/-- THE SECOND FORM's CARD OF 'bolterlaw02.DecTells'. -/
def decTellsUptoCard : Claim7 := { stood := { row := decTellsUptoRow, standIns := [], harness := (true, "e927df034aad62559627c56f597f305f32c47a341f463789997d6727cff46b9b"), looks := false }, kinds := [], alts := [], laidByText := true, laidKinds := [.data, .pinned], laidTests := true, laidLooks := .later }
def DecTellsUptoCardSaid : Prop := Claim7.holds Tryz.pinned (.plain (OpenSpec.upto decTellsSpec)) decTellsUptoCard

/-- THE SECOND FORM's CARD OF 'bolterlaw02.DecBack'. -/
def decBackUptoCard : Claim7 := { stood := { row := decBackUptoRow, standIns := [], harness := (true, "e927df034aad62559627c56f597f305f32c47a341f463789997d6727cff46b9b"), looks := false }, kinds := [], alts := [], laidByText := true, laidKinds := [.data, .pinned], laidTests := true, laidLooks := .later }
def DecBackUptoCardSaid : Prop := Claim7.holds Tryz.pinned (.plain (OpenSpec.upto decBackSpec)) decBackUptoCard

/-- THE SECOND FORM's CARD OF 'bolterlaw02.DecTexts'. -/
def decTextsUptoCard : Claim7 := { stood := { row := decTextsUptoRow, standIns := [], harness := (true, "e927df034aad62559627c56f597f305f32c47a341f463789997d6727cff46b9b"), looks := false }, kinds := [], alts := [], laidByText := true, laidKinds := [.data, .pinned], laidTests := true, laidLooks := .later }
def DecTextsUptoCardSaid : Prop := Claim7.holds Tryz.pinned (.plain (OpenSpec.upto decTextsSpec)) decTextsUptoCard
end Rows
end Go.Proofs.YtjbjkmccfocikaaGreatDoor
