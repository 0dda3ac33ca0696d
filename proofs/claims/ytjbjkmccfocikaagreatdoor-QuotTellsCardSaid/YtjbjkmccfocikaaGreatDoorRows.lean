/-
  NARROWER THAN 'FOR EVERY INPUT', by the rows' own cells (each row's printed sentence says how): QuotExact: laid · QuotHalf: laid · QuotRoots: laid · QuotRests: laid · QuotNear: laid · QuotTells: laid · DecOwn: laid · DecOrder: laid · DecSums: laid · DecInts: laid · DecTells: laid · DecBack: laid · DecTexts: laid.
  DERIVED. THE GIVEN ROWS OF THIS SEAT. 13 by the template 'for every input the law returns true; each argument reads behind the call as it read before'; 0 by the template 'total and deterministic' (their statements: YtjbjkmccfocikaaGreatDoorTotals.lean).
  GIVEN WITH THE SEED: the statements are not yours to turn. If you find one false, say at which input.
  Laid BY PROGRAM, IN A SANDBOX (cutbox-rows.mjs): the forced cells as the released guide's own fill.sh prints them over the translation 979668ea64fc7f94… (all of the seat's roots in one cut). By AI agents, Wed Nov 11 2026. No macro, syntax, notation, axiom, sorry.
-/
import Derived.Test.YtjbjkmccfocikaaGreatDoorChecked
import GoSem.PinnedTables
import GoSem.Claim
import GoSem.ClaimJoined
import GoSem.ClaimMapViews
import Derived.JoinedTies
import Derived.KernelRfl
namespace Go.Proofs.YtjbjkmccfocikaaGreatDoor
/- THE CELL 'sum', in the pinned program and in every row, IS THE sha256 OF THE DUMP (.gsa) THAT YtjbjkmccfocikaaGreatDoorProg.lean LOADS. Nothing in Lean hashes anything: it is a label: what it is worth is what the hold of that sum in a sandbox is worth. -/
noncomputable def Tryz.pinned : Pinned := { name := "ytjbjkmccfocikaagreatdoor", sum := "979668ea64fc7f9445aa181f40c6bbb94a68363fbd701fa6768c49cb6ca41402", checked := Tryz.checked }
namespace Rows
def none {H : Type} : Left H := { results := [], args := [] }

/- WHAT THE LISTED PACKAGE-LEVEL VARIABLES READ AS WHEN THE CALL BEGINS. Each datum BY PROGRAM (the guide's laid-datum.mjs) off the statement by which the dump's own 'gosem.cut.vars' lays the variable. In a bare row this is a premise. The card (YtjbjkmccfocikaaGreatDoorCards.lean) ties it to the program's text. -/
def laid_unicode_utf8_acceptRanges {H : Type} : DataW H := .agg [.agg [.lit (.int .u8 128), .lit (.int .u8 191)], .agg [.lit (.int .u8 160), .lit (.int .u8 191)], .agg [.lit (.int .u8 128), .lit (.int .u8 159)], .agg [.lit (.int .u8 144), .lit (.int .u8 191)], .agg [.lit (.int .u8 128), .lit (.int .u8 143)], .agg [.lit (.int .u8 0), .lit (.int .u8 0)], .agg [.lit (.int .u8 0), .lit (.int .u8 0)], .agg [.lit (.int .u8 0), .lit (.int .u8 0)], .agg [.lit (.int .u8 0), .lit (.int .u8 0)], .agg [.lit (.int .u8 0), .lit (.int .u8 0)], .agg [.lit (.int .u8 0), .lit (.int .u8 0)], .agg [.lit (.int .u8 0), .lit (.int .u8 0)], .agg [.lit (.int .u8 0), .lit (.int .u8 0)], .agg [.lit (.int .u8 0), .lit (.int .u8 0)], .agg [.lit (.int .u8 0), .lit (.int .u8 0)], .agg [.lit (.int .u8 0), .lit (.int .u8 0)]]
/-- One of Go's own tables, pinned by name: the form's constant. -/
def laid_unicode_utf8_first : DataW Unit := Go.Pinned.utf8First

/-- 'bolterlaw03.QuotExact': WHATEVER THE INPUT: true; the input reads as it did. -/
def quotExactSpec : ChangeSpec := { name := "quotExact", fn := fun _ => fun
  | [d1, d2] => { results := [.lit (.bool true)], args := [d1, d2] }
  | _ => none }
def quotExactRow : OpenClaim := { program := "ytjbjkmccfocikaagreatdoor", sum := "979668ea64fc7f9445aa181f40c6bbb94a68363fbd701fa6768c49cb6ca41402", func := "bolter/bolterlaw03.QuotExact", spec := "quotExact", inPlace := ["internal/bytealg.IndexByteString", "internal/bytealg.IndexString"], unfollowed := true, recurses := true, named := ["math/bits.overflowError", "unicode/utf8.first", "unicode/utf8.acceptRanges", "internal/bytealg.MaxLen"], apart := false, laid := [("unicode/utf8.acceptRanges", laid_unicode_utf8_acceptRanges), ("unicode/utf8.first", laid_unicode_utf8_first)] }
def QuotExactSaid : Prop := quotExactRow.holds Tryz.pinned (OpenSpec.ofChange quotExactSpec)

/-- ITS FALSE NEIGHBOUR: 'it returns false'. Refute it at one input. -/
def quotExactWrong : ChangeSpec := { name := "quotExact", fn := fun _ => fun
  | [d1, d2] => { results := [.lit (.bool false)], args := [d1, d2] }
  | _ => none }
def QuotExactWrongFalsely : Prop := quotExactRow.holds Tryz.pinned (OpenSpec.ofChange quotExactWrong)

/-- 'bolterlaw03.QuotHalf': WHATEVER THE INPUT: true; the input reads as it did. -/
def quotHalfSpec : ChangeSpec := { name := "quotHalf", fn := fun _ => fun
  | [d1, d2] => { results := [.lit (.bool true)], args := [d1, d2] }
  | _ => none }
def quotHalfRow : OpenClaim := { program := "ytjbjkmccfocikaagreatdoor", sum := "979668ea64fc7f9445aa181f40c6bbb94a68363fbd701fa6768c49cb6ca41402", func := "bolter/bolterlaw03.QuotHalf", spec := "quotHalf", inPlace := ["internal/bytealg.IndexByteString", "internal/bytealg.IndexString"], unfollowed := true, recurses := true, named := ["math/bits.overflowError", "unicode/utf8.first", "unicode/utf8.acceptRanges", "internal/bytealg.MaxLen"], apart := false, laid := [("unicode/utf8.acceptRanges", laid_unicode_utf8_acceptRanges), ("unicode/utf8.first", laid_unicode_utf8_first)] }
def QuotHalfSaid : Prop := quotHalfRow.holds Tryz.pinned (OpenSpec.ofChange quotHalfSpec)

/-- ITS FALSE NEIGHBOUR: 'it returns false'. Refute it at one input. -/
def quotHalfWrong : ChangeSpec := { name := "quotHalf", fn := fun _ => fun
  | [d1, d2] => { results := [.lit (.bool false)], args := [d1, d2] }
  | _ => none }
def QuotHalfWrongFalsely : Prop := quotHalfRow.holds Tryz.pinned (OpenSpec.ofChange quotHalfWrong)

/-- 'bolterlaw03.QuotRoots': WHATEVER THE INPUT: true; the input reads as it did. -/
def quotRootsSpec : ChangeSpec := { name := "quotRoots", fn := fun _ => fun
  | [d] => { results := [.lit (.bool true)], args := [d] }
  | _ => none }
def quotRootsRow : OpenClaim := { program := "ytjbjkmccfocikaagreatdoor", sum := "979668ea64fc7f9445aa181f40c6bbb94a68363fbd701fa6768c49cb6ca41402", func := "bolter/bolterlaw03.QuotRoots", spec := "quotRoots", inPlace := ["internal/bytealg.IndexByteString", "internal/bytealg.IndexString"], unfollowed := true, recurses := true, named := ["math/bits.overflowError", "unicode/utf8.first", "unicode/utf8.acceptRanges", "internal/bytealg.MaxLen"], apart := false, laid := [("unicode/utf8.acceptRanges", laid_unicode_utf8_acceptRanges), ("unicode/utf8.first", laid_unicode_utf8_first)] }
def QuotRootsSaid : Prop := quotRootsRow.holds Tryz.pinned (OpenSpec.ofChange quotRootsSpec)

/-- ITS FALSE NEIGHBOUR: 'it returns false'. Refute it at one input. -/
def quotRootsWrong : ChangeSpec := { name := "quotRoots", fn := fun _ => fun
  | [d] => { results := [.lit (.bool false)], args := [d] }
  | _ => none }
def QuotRootsWrongFalsely : Prop := quotRootsRow.holds Tryz.pinned (OpenSpec.ofChange quotRootsWrong)

/-- 'bolterlaw03.QuotRests': WHATEVER THE INPUT: true; the input reads as it did. -/
def quotRestsSpec : ChangeSpec := { name := "quotRests", fn := fun _ => fun
  | [d1, d2] => { results := [.lit (.bool true)], args := [d1, d2] }
  | _ => none }
def quotRestsRow : OpenClaim := { program := "ytjbjkmccfocikaagreatdoor", sum := "979668ea64fc7f9445aa181f40c6bbb94a68363fbd701fa6768c49cb6ca41402", func := "bolter/bolterlaw03.QuotRests", spec := "quotRests", inPlace := ["internal/bytealg.IndexByteString", "internal/bytealg.IndexString"], unfollowed := true, recurses := true, named := ["math/bits.overflowError", "unicode/utf8.first", "unicode/utf8.acceptRanges", "internal/bytealg.MaxLen"], apart := false, laid := [("unicode/utf8.acceptRanges", laid_unicode_utf8_acceptRanges), ("unicode/utf8.first", laid_unicode_utf8_first)] }
def QuotRestsSaid : Prop := quotRestsRow.holds Tryz.pinned (OpenSpec.ofChange quotRestsSpec)

/-- ITS FALSE NEIGHBOUR: 'it returns false'. Refute it at one input. -/
def quotRestsWrong : ChangeSpec := { name := "quotRests", fn := fun _ => fun
  | [d1, d2] => { results := [.lit (.bool false)], args := [d1, d2] }
  | _ => none }
def QuotRestsWrongFalsely : Prop := quotRestsRow.holds Tryz.pinned (OpenSpec.ofChange quotRestsWrong)

/-- 'bolterlaw03.QuotNear': WHATEVER THE INPUT: true; the input reads as it did. -/
def quotNearSpec : ChangeSpec := { name := "quotNear", fn := fun _ => fun
  | [d] => { results := [.lit (.bool true)], args := [d] }
  | _ => none }
def quotNearRow : OpenClaim := { program := "ytjbjkmccfocikaagreatdoor", sum := "979668ea64fc7f9445aa181f40c6bbb94a68363fbd701fa6768c49cb6ca41402", func := "bolter/bolterlaw03.QuotNear", spec := "quotNear", inPlace := ["internal/bytealg.IndexByteString", "internal/bytealg.IndexString"], unfollowed := true, recurses := true, named := ["math/bits.overflowError", "unicode/utf8.first", "unicode/utf8.acceptRanges", "internal/bytealg.MaxLen"], apart := false, laid := [("unicode/utf8.acceptRanges", laid_unicode_utf8_acceptRanges), ("unicode/utf8.first", laid_unicode_utf8_first)] }
def QuotNearSaid : Prop := quotNearRow.holds Tryz.pinned (OpenSpec.ofChange quotNearSpec)

/-- ITS FALSE NEIGHBOUR: 'it returns false'. Refute it at one input. -/
def quotNearWrong : ChangeSpec := { name := "quotNear", fn := fun _ => fun
  | [d] => { results := [.lit (.bool false)], args := [d] }
  | _ => none }
def QuotNearWrongFalsely : Prop := quotNearRow.holds Tryz.pinned (OpenSpec.ofChange quotNearWrong)

/-- 'bolterlaw03.QuotTells': WHATEVER THE INPUT: true; the input reads as it did. -/
def quotTellsSpec : ChangeSpec := { name := "quotTells", fn := fun _ => fun
  | [d1, d2] => { results := [.lit (.bool true)], args := [d1, d2] }
  | _ => none }
def quotTellsRow : OpenClaim := { program := "ytjbjkmccfocikaagreatdoor", sum := "979668ea64fc7f9445aa181f40c6bbb94a68363fbd701fa6768c49cb6ca41402", func := "bolter/bolterlaw03.QuotTells", spec := "quotTells", inPlace := ["internal/bytealg.IndexByteString", "internal/bytealg.IndexString"], unfollowed := true, recurses := true, named := ["math/bits.overflowError", "unicode/utf8.first", "unicode/utf8.acceptRanges", "internal/bytealg.MaxLen"], apart := false, laid := [("unicode/utf8.acceptRanges", laid_unicode_utf8_acceptRanges), ("unicode/utf8.first", laid_unicode_utf8_first)] }
def QuotTellsSaid : Prop := quotTellsRow.holds Tryz.pinned (OpenSpec.ofChange quotTellsSpec)

/-- ITS FALSE NEIGHBOUR: 'it returns false'. Refute it at one input. -/
def quotTellsWrong : ChangeSpec := { name := "quotTells", fn := fun _ => fun
  | [d1, d2] => { results := [.lit (.bool false)], args := [d1, d2] }
  | _ => none }
def QuotTellsWrongFalsely : Prop := quotTellsRow.holds Tryz.pinned (OpenSpec.ofChange quotTellsWrong)

/-- 'bolterlaw02.DecOwn': WHATEVER THE INPUT: true; the input reads as it did. -/
def decOwnSpec : ChangeSpec := { name := "decOwn", fn := fun _ => fun
  | [d1, d2] => { results := [.lit (.bool true)], args := [d1, d2] }
  | _ => none }
def decOwnRow : OpenClaim := { program := "ytjbjkmccfocikaagreatdoor", sum := "979668ea64fc7f9445aa181f40c6bbb94a68363fbd701fa6768c49cb6ca41402", func := "bolter/bolterlaw02.DecOwn", spec := "decOwn", inPlace := ["internal/bytealg.IndexByteString", "internal/bytealg.IndexString", "internal/abi.NoEscape", "internal/bytealg.MakeNoZero"], unfollowed := true, recurses := true, named := ["math/bits.overflowError", "unicode/utf8.first", "unicode/utf8.acceptRanges", "internal/bytealg.MaxLen"], apart := false, laid := [("unicode/utf8.acceptRanges", laid_unicode_utf8_acceptRanges), ("unicode/utf8.first", laid_unicode_utf8_first)] }
def DecOwnSaid : Prop := decOwnRow.holds Tryz.pinned (OpenSpec.ofChange decOwnSpec)

/-- ITS FALSE NEIGHBOUR: 'it returns false'. Refute it at one input. -/
def decOwnWrong : ChangeSpec := { name := "decOwn", fn := fun _ => fun
  | [d1, d2] => { results := [.lit (.bool false)], args := [d1, d2] }
  | _ => none }
def DecOwnWrongFalsely : Prop := decOwnRow.holds Tryz.pinned (OpenSpec.ofChange decOwnWrong)

/-- 'bolterlaw02.DecOrder': WHATEVER THE INPUT: true; the input reads as it did. -/
def decOrderSpec : ChangeSpec := { name := "decOrder", fn := fun _ => fun
  | [d1, d2, d3] => { results := [.lit (.bool true)], args := [d1, d2, d3] }
  | _ => none }
def decOrderRow : OpenClaim := { program := "ytjbjkmccfocikaagreatdoor", sum := "979668ea64fc7f9445aa181f40c6bbb94a68363fbd701fa6768c49cb6ca41402", func := "bolter/bolterlaw02.DecOrder", spec := "decOrder", inPlace := ["internal/bytealg.IndexByteString", "internal/bytealg.IndexString", "internal/abi.NoEscape", "internal/bytealg.MakeNoZero"], unfollowed := true, recurses := true, named := ["math/bits.overflowError", "unicode/utf8.first", "unicode/utf8.acceptRanges", "internal/bytealg.MaxLen"], apart := false, laid := [("unicode/utf8.acceptRanges", laid_unicode_utf8_acceptRanges), ("unicode/utf8.first", laid_unicode_utf8_first)] }
def DecOrderSaid : Prop := decOrderRow.holds Tryz.pinned (OpenSpec.ofChange decOrderSpec)

/-- ITS FALSE NEIGHBOUR: 'it returns false'. Refute it at one input. -/
def decOrderWrong : ChangeSpec := { name := "decOrder", fn := fun _ => fun
  | [d1, d2, d3] => { results := [.lit (.bool false)], args := [d1, d2, d3] }
  | _ => none }
def DecOrderWrongFalsely : Prop := decOrderRow.holds Tryz.pinned (OpenSpec.ofChange decOrderWrong)

/-- 'bolterlaw02.DecSums': WHATEVER THE INPUT: true; the input reads as it did. -/
def decSumsSpec : ChangeSpec := { name := "decSums", fn := fun _ => fun
  | [d1, d2] => { results := [.lit (.bool true)], args := [d1, d2] }
  | _ => none }
def decSumsRow : OpenClaim := { program := "ytjbjkmccfocikaagreatdoor", sum := "979668ea64fc7f9445aa181f40c6bbb94a68363fbd701fa6768c49cb6ca41402", func := "bolter/bolterlaw02.DecSums", spec := "decSums", inPlace := ["internal/bytealg.IndexByteString", "internal/bytealg.IndexString", "internal/abi.NoEscape", "internal/bytealg.MakeNoZero"], unfollowed := true, recurses := true, named := ["math/bits.overflowError", "unicode/utf8.first", "unicode/utf8.acceptRanges", "internal/bytealg.MaxLen"], apart := false, laid := [("unicode/utf8.acceptRanges", laid_unicode_utf8_acceptRanges), ("unicode/utf8.first", laid_unicode_utf8_first)] }
def DecSumsSaid : Prop := decSumsRow.holds Tryz.pinned (OpenSpec.ofChange decSumsSpec)

/-- ITS FALSE NEIGHBOUR: 'it returns false'. Refute it at one input. -/
def decSumsWrong : ChangeSpec := { name := "decSums", fn := fun _ => fun
  | [d1, d2] => { results := [.lit (.bool false)], args := [d1, d2] }
  | _ => none }
def DecSumsWrongFalsely : Prop := decSumsRow.holds Tryz.pinned (OpenSpec.ofChange decSumsWrong)

/-- 'bolterlaw02.DecInts': WHATEVER THE INPUT: true; the input reads as it did. -/
def decIntsSpec : ChangeSpec := { name := "decInts", fn := fun _ => fun
  | [d1, d2] => { results := [.lit (.bool true)], args := [d1, d2] }
  | _ => none }
def decIntsRow : OpenClaim := { program := "ytjbjkmccfocikaagreatdoor", sum := "979668ea64fc7f9445aa181f40c6bbb94a68363fbd701fa6768c49cb6ca41402", func := "bolter/bolterlaw02.DecInts", spec := "decInts", inPlace := ["internal/bytealg.IndexByteString", "internal/bytealg.IndexString", "internal/abi.NoEscape", "internal/bytealg.MakeNoZero"], unfollowed := true, recurses := true, named := ["math/bits.overflowError", "unicode/utf8.first", "unicode/utf8.acceptRanges", "internal/bytealg.MaxLen"], apart := false, laid := [("unicode/utf8.acceptRanges", laid_unicode_utf8_acceptRanges), ("unicode/utf8.first", laid_unicode_utf8_first)] }
def DecIntsSaid : Prop := decIntsRow.holds Tryz.pinned (OpenSpec.ofChange decIntsSpec)

/-- ITS FALSE NEIGHBOUR: 'it returns false'. Refute it at one input. -/
def decIntsWrong : ChangeSpec := { name := "decInts", fn := fun _ => fun
  | [d1, d2] => { results := [.lit (.bool false)], args := [d1, d2] }
  | _ => none }
def DecIntsWrongFalsely : Prop := decIntsRow.holds Tryz.pinned (OpenSpec.ofChange decIntsWrong)

/-- 'bolterlaw02.DecTells': WHATEVER THE INPUT: true; the input reads as it did. -/
def decTellsSpec : ChangeSpec := { name := "decTells", fn := fun _ => fun
  | [d1, d2, d3] => { results := [.lit (.bool true)], args := [d1, d2, d3] }
  | _ => none }
def decTellsRow : OpenClaim := { program := "ytjbjkmccfocikaagreatdoor", sum := "979668ea64fc7f9445aa181f40c6bbb94a68363fbd701fa6768c49cb6ca41402", func := "bolter/bolterlaw02.DecTells", spec := "decTells", inPlace := ["internal/bytealg.IndexByteString", "internal/bytealg.IndexString", "internal/abi.NoEscape", "internal/bytealg.MakeNoZero"], unfollowed := true, recurses := true, named := ["math/bits.overflowError", "unicode/utf8.first", "unicode/utf8.acceptRanges", "internal/bytealg.MaxLen"], apart := false, laid := [("unicode/utf8.acceptRanges", laid_unicode_utf8_acceptRanges), ("unicode/utf8.first", laid_unicode_utf8_first)] }
def DecTellsSaid : Prop := decTellsRow.holds Tryz.pinned (OpenSpec.ofChange decTellsSpec)

/-- ITS FALSE NEIGHBOUR: 'it returns false'. Refute it at one input. -/
def decTellsWrong : ChangeSpec := { name := "decTells", fn := fun _ => fun
  | [d1, d2, d3] => { results := [.lit (.bool false)], args := [d1, d2, d3] }
  | _ => none }
def DecTellsWrongFalsely : Prop := decTellsRow.holds Tryz.pinned (OpenSpec.ofChange decTellsWrong)

/-- 'bolterlaw02.DecBack': WHATEVER THE INPUT: true; the input reads as it did. -/
def decBackSpec : ChangeSpec := { name := "decBack", fn := fun _ => fun
  | [d1, d2] => { results := [.lit (.bool true)], args := [d1, d2] }
  | _ => none }
def decBackRow : OpenClaim := { program := "ytjbjkmccfocikaagreatdoor", sum := "979668ea64fc7f9445aa181f40c6bbb94a68363fbd701fa6768c49cb6ca41402", func := "bolter/bolterlaw02.DecBack", spec := "decBack", inPlace := ["internal/bytealg.IndexByteString", "internal/bytealg.IndexString", "internal/abi.NoEscape", "internal/bytealg.MakeNoZero"], unfollowed := true, recurses := true, named := ["math/bits.overflowError", "unicode/utf8.first", "unicode/utf8.acceptRanges", "internal/bytealg.MaxLen"], apart := false, laid := [("unicode/utf8.acceptRanges", laid_unicode_utf8_acceptRanges), ("unicode/utf8.first", laid_unicode_utf8_first)] }
def DecBackSaid : Prop := decBackRow.holds Tryz.pinned (OpenSpec.ofChange decBackSpec)

/-- ITS FALSE NEIGHBOUR: 'it returns false'. Refute it at one input. -/
def decBackWrong : ChangeSpec := { name := "decBack", fn := fun _ => fun
  | [d1, d2] => { results := [.lit (.bool false)], args := [d1, d2] }
  | _ => none }
def DecBackWrongFalsely : Prop := decBackRow.holds Tryz.pinned (OpenSpec.ofChange decBackWrong)

/-- 'bolterlaw02.DecTexts': WHATEVER THE INPUT: true; the input reads as it did. -/
def decTextsSpec : ChangeSpec := { name := "decTexts", fn := fun _ => fun
  | [d1, d2, d3, d4, d5] => { results := [.lit (.bool true)], args := [d1, d2, d3, d4, d5] }
  | _ => none }
def decTextsRow : OpenClaim := { program := "ytjbjkmccfocikaagreatdoor", sum := "979668ea64fc7f9445aa181f40c6bbb94a68363fbd701fa6768c49cb6ca41402", func := "bolter/bolterlaw02.DecTexts", spec := "decTexts", inPlace := ["internal/bytealg.IndexByteString", "internal/bytealg.IndexString", "internal/abi.NoEscape", "internal/bytealg.MakeNoZero"], unfollowed := true, recurses := true, named := ["unicode/utf8.first", "unicode/utf8.acceptRanges", "math/bits.overflowError", "internal/bytealg.MaxLen"], apart := false, laid := [("unicode/utf8.acceptRanges", laid_unicode_utf8_acceptRanges), ("unicode/utf8.first", laid_unicode_utf8_first)] }
def DecTextsSaid : Prop := decTextsRow.holds Tryz.pinned (OpenSpec.ofChange decTextsSpec)

/-- ITS FALSE NEIGHBOUR: 'it returns false'. Refute it at one input. -/
def decTextsWrong : ChangeSpec := { name := "decTexts", fn := fun _ => fun
  | [d1, d2, d3, d4, d5] => { results := [.lit (.bool false)], args := [d1, d2, d3, d4, d5] }
  | _ => none }
def DecTextsWrongFalsely : Prop := decTextsRow.holds Tryz.pinned (OpenSpec.ofChange decTextsWrong)

/- THE SECOND FORM. 'bulk': how many values and letters a reading holds, each counted each time it is reached (what is shared counts as often as it is met; a slice's spare places count too). A statement '..UptoSaid' is the law's where the arguments, and the package variables that the reading takes, are together of bulk at most 1048576: NARROWER than '..Said'. Prove '..Said' where nothing that the law and all that it calls make is longer than what came in: it says more and counts as full. Else prove '..UptoSaid'. A law counts once. -/
mutual
def uptoBulk {H : Type} : DataW H → Nat
  | .lit (.string bytes) => bytes.length + 1
  | .lit _ => 1
  | .nil => 1
  | .ptr d => uptoBulk d + 1
  | .slice elems spare => uptoBulkAll elems + uptoBulkAll spare + 1
  | .agg parts => uptoBulkAll parts + 1
  | .iface _ d => uptoBulk d + 1
  | .map entries => uptoBulkEntries entries + 1
  | .held _ => 1
def uptoBulkAll {H : Type} : List (DataW H) → Nat
  | [] => 0
  | d :: r => uptoBulk d + uptoBulkAll r
def uptoBulkEntries {H : Type} : List (Lit × DataW H) → Nat
  | [] => 0
  | x :: r => uptoBulkEntry x + uptoBulkEntries r
def uptoBulkEntry {H : Type} : Lit × DataW H → Nat
  | (.string bytes, d) => bytes.length + uptoBulk d + 1
  | (_, d) => uptoBulk d + 1
 end
def uptoSmall : (H : Type) → List (DataW H) → Bool := fun _ ds => decide (uptoBulkAll ds ≤ 1048576)
def OpenSpec.upto (s : _root_.Go.ChangeSpec) : _root_.Go.OpenSpec := { _root_.Go.OpenSpec.ofChange s with cond := some uptoSmall }

/-- 'bolterlaw03.QuotExact', WHERE WHAT IT READS IS OF BULK AT MOST 1048576: true; the input reads as it did. -/
def quotExactUptoRow : OpenClaim := { program := "ytjbjkmccfocikaagreatdoor", sum := "979668ea64fc7f9445aa181f40c6bbb94a68363fbd701fa6768c49cb6ca41402", func := "bolter/bolterlaw03.QuotExact", spec := "quotExact", inPlace := ["internal/bytealg.IndexByteString", "internal/bytealg.IndexString"], unfollowed := true, recurses := true, named := ["math/bits.overflowError", "unicode/utf8.first", "unicode/utf8.acceptRanges", "internal/bytealg.MaxLen"], apart := false, laid := [("unicode/utf8.acceptRanges", laid_unicode_utf8_acceptRanges), ("unicode/utf8.first", laid_unicode_utf8_first)], narrowed := true }
def QuotExactUptoSaid : Prop := quotExactUptoRow.holds Tryz.pinned (OpenSpec.upto quotExactSpec)

/-- 'bolterlaw03.QuotHalf', WHERE WHAT IT READS IS OF BULK AT MOST 1048576: true; the input reads as it did. -/
def quotHalfUptoRow : OpenClaim := { program := "ytjbjkmccfocikaagreatdoor", sum := "979668ea64fc7f9445aa181f40c6bbb94a68363fbd701fa6768c49cb6ca41402", func := "bolter/bolterlaw03.QuotHalf", spec := "quotHalf", inPlace := ["internal/bytealg.IndexByteString", "internal/bytealg.IndexString"], unfollowed := true, recurses := true, named := ["math/bits.overflowError", "unicode/utf8.first", "unicode/utf8.acceptRanges", "internal/bytealg.MaxLen"], apart := false, laid := [("unicode/utf8.acceptRanges", laid_unicode_utf8_acceptRanges), ("unicode/utf8.first", laid_unicode_utf8_first)], narrowed := true }
def QuotHalfUptoSaid : Prop := quotHalfUptoRow.holds Tryz.pinned (OpenSpec.upto quotHalfSpec)

/-- 'bolterlaw03.QuotRoots', WHERE WHAT IT READS IS OF BULK AT MOST 1048576: true; the input reads as it did. -/
def quotRootsUptoRow : OpenClaim := { program := "ytjbjkmccfocikaagreatdoor", sum := "979668ea64fc7f9445aa181f40c6bbb94a68363fbd701fa6768c49cb6ca41402", func := "bolter/bolterlaw03.QuotRoots", spec := "quotRoots", inPlace := ["internal/bytealg.IndexByteString", "internal/bytealg.IndexString"], unfollowed := true, recurses := true, named := ["math/bits.overflowError", "unicode/utf8.first", "unicode/utf8.acceptRanges", "internal/bytealg.MaxLen"], apart := false, laid := [("unicode/utf8.acceptRanges", laid_unicode_utf8_acceptRanges), ("unicode/utf8.first", laid_unicode_utf8_first)], narrowed := true }
def QuotRootsUptoSaid : Prop := quotRootsUptoRow.holds Tryz.pinned (OpenSpec.upto quotRootsSpec)

/-- 'bolterlaw03.QuotRests', WHERE WHAT IT READS IS OF BULK AT MOST 1048576: true; the input reads as it did. -/
def quotRestsUptoRow : OpenClaim := { program := "ytjbjkmccfocikaagreatdoor", sum := "979668ea64fc7f9445aa181f40c6bbb94a68363fbd701fa6768c49cb6ca41402", func := "bolter/bolterlaw03.QuotRests", spec := "quotRests", inPlace := ["internal/bytealg.IndexByteString", "internal/bytealg.IndexString"], unfollowed := true, recurses := true, named := ["math/bits.overflowError", "unicode/utf8.first", "unicode/utf8.acceptRanges", "internal/bytealg.MaxLen"], apart := false, laid := [("unicode/utf8.acceptRanges", laid_unicode_utf8_acceptRanges), ("unicode/utf8.first", laid_unicode_utf8_first)], narrowed := true }
def QuotRestsUptoSaid : Prop := quotRestsUptoRow.holds Tryz.pinned (OpenSpec.upto quotRestsSpec)

/-- 'bolterlaw03.QuotNear', WHERE WHAT IT READS IS OF BULK AT MOST 1048576: true; the input reads as it did. -/
def quotNearUptoRow : OpenClaim := { program := "ytjbjkmccfocikaagreatdoor", sum := "979668ea64fc7f9445aa181f40c6bbb94a68363fbd701fa6768c49cb6ca41402", func := "bolter/bolterlaw03.QuotNear", spec := "quotNear", inPlace := ["internal/bytealg.IndexByteString", "internal/bytealg.IndexString"], unfollowed := true, recurses := true, named := ["math/bits.overflowError", "unicode/utf8.first", "unicode/utf8.acceptRanges", "internal/bytealg.MaxLen"], apart := false, laid := [("unicode/utf8.acceptRanges", laid_unicode_utf8_acceptRanges), ("unicode/utf8.first", laid_unicode_utf8_first)], narrowed := true }
def QuotNearUptoSaid : Prop := quotNearUptoRow.holds Tryz.pinned (OpenSpec.upto quotNearSpec)

/-- 'bolterlaw03.QuotTells', WHERE WHAT IT READS IS OF BULK AT MOST 1048576: true; the input reads as it did. -/
def quotTellsUptoRow : OpenClaim := { program := "ytjbjkmccfocikaagreatdoor", sum := "979668ea64fc7f9445aa181f40c6bbb94a68363fbd701fa6768c49cb6ca41402", func := "bolter/bolterlaw03.QuotTells", spec := "quotTells", inPlace := ["internal/bytealg.IndexByteString", "internal/bytealg.IndexString"], unfollowed := true, recurses := true, named := ["math/bits.overflowError", "unicode/utf8.first", "unicode/utf8.acceptRanges", "internal/bytealg.MaxLen"], apart := false, laid := [("unicode/utf8.acceptRanges", laid_unicode_utf8_acceptRanges), ("unicode/utf8.first", laid_unicode_utf8_first)], narrowed := true }
def QuotTellsUptoSaid : Prop := quotTellsUptoRow.holds Tryz.pinned (OpenSpec.upto quotTellsSpec)

/-- 'bolterlaw02.DecOwn', WHERE WHAT IT READS IS OF BULK AT MOST 1048576: true; the input reads as it did. -/
def decOwnUptoRow : OpenClaim := { program := "ytjbjkmccfocikaagreatdoor", sum := "979668ea64fc7f9445aa181f40c6bbb94a68363fbd701fa6768c49cb6ca41402", func := "bolter/bolterlaw02.DecOwn", spec := "decOwn", inPlace := ["internal/bytealg.IndexByteString", "internal/bytealg.IndexString", "internal/abi.NoEscape", "internal/bytealg.MakeNoZero"], unfollowed := true, recurses := true, named := ["math/bits.overflowError", "unicode/utf8.first", "unicode/utf8.acceptRanges", "internal/bytealg.MaxLen"], apart := false, laid := [("unicode/utf8.acceptRanges", laid_unicode_utf8_acceptRanges), ("unicode/utf8.first", laid_unicode_utf8_first)], narrowed := true }
def DecOwnUptoSaid : Prop := decOwnUptoRow.holds Tryz.pinned (OpenSpec.upto decOwnSpec)

/-- 'bolterlaw02.DecOrder', WHERE WHAT IT READS IS OF BULK AT MOST 1048576: true; the input reads as it did. -/
def decOrderUptoRow : OpenClaim := { program := "ytjbjkmccfocikaagreatdoor", sum := "979668ea64fc7f9445aa181f40c6bbb94a68363fbd701fa6768c49cb6ca41402", func := "bolter/bolterlaw02.DecOrder", spec := "decOrder", inPlace := ["internal/bytealg.IndexByteString", "internal/bytealg.IndexString", "internal/abi.NoEscape", "internal/bytealg.MakeNoZero"], unfollowed := true, recurses := true, named := ["math/bits.overflowError", "unicode/utf8.first", "unicode/utf8.acceptRanges", "internal/bytealg.MaxLen"], apart := false, laid := [("unicode/utf8.acceptRanges", laid_unicode_utf8_acceptRanges), ("unicode/utf8.first", laid_unicode_utf8_first)], narrowed := true }
def DecOrderUptoSaid : Prop := decOrderUptoRow.holds Tryz.pinned (OpenSpec.upto decOrderSpec)

/-- 'bolterlaw02.DecSums', WHERE WHAT IT READS IS OF BULK AT MOST 1048576: true; the input reads as it did. -/
def decSumsUptoRow : OpenClaim := { program := "ytjbjkmccfocikaagreatdoor", sum := "979668ea64fc7f9445aa181f40c6bbb94a68363fbd701fa6768c49cb6ca41402", func := "bolter/bolterlaw02.DecSums", spec := "decSums", inPlace := ["internal/bytealg.IndexByteString", "internal/bytealg.IndexString", "internal/abi.NoEscape", "internal/bytealg.MakeNoZero"], unfollowed := true, recurses := true, named := ["math/bits.overflowError", "unicode/utf8.first", "unicode/utf8.acceptRanges", "internal/bytealg.MaxLen"], apart := false, laid := [("unicode/utf8.acceptRanges", laid_unicode_utf8_acceptRanges), ("unicode/utf8.first", laid_unicode_utf8_first)], narrowed := true }
def DecSumsUptoSaid : Prop := decSumsUptoRow.holds Tryz.pinned (OpenSpec.upto decSumsSpec)

/-- 'bolterlaw02.DecInts', WHERE WHAT IT READS IS OF BULK AT MOST 1048576: true; the input reads as it did. -/
def decIntsUptoRow : OpenClaim := { program := "ytjbjkmccfocikaagreatdoor", sum := "979668ea64fc7f9445aa181f40c6bbb94a68363fbd701fa6768c49cb6ca41402", func := "bolter/bolterlaw02.DecInts", spec := "decInts", inPlace := ["internal/bytealg.IndexByteString", "internal/bytealg.IndexString", "internal/abi.NoEscape", "internal/bytealg.MakeNoZero"], unfollowed := true, recurses := true, named := ["math/bits.overflowError", "unicode/utf8.first", "unicode/utf8.acceptRanges", "internal/bytealg.MaxLen"], apart := false, laid := [("unicode/utf8.acceptRanges", laid_unicode_utf8_acceptRanges), ("unicode/utf8.first", laid_unicode_utf8_first)], narrowed := true }
def DecIntsUptoSaid : Prop := decIntsUptoRow.holds Tryz.pinned (OpenSpec.upto decIntsSpec)

/-- 'bolterlaw02.DecTells', WHERE WHAT IT READS IS OF BULK AT MOST 1048576: true; the input reads as it did. -/
def decTellsUptoRow : OpenClaim := { program := "ytjbjkmccfocikaagreatdoor", sum := "979668ea64fc7f9445aa181f40c6bbb94a68363fbd701fa6768c49cb6ca41402", func := "bolter/bolterlaw02.DecTells", spec := "decTells", inPlace := ["internal/bytealg.IndexByteString", "internal/bytealg.IndexString", "internal/abi.NoEscape", "internal/bytealg.MakeNoZero"], unfollowed := true, recurses := true, named := ["math/bits.overflowError", "unicode/utf8.first", "unicode/utf8.acceptRanges", "internal/bytealg.MaxLen"], apart := false, laid := [("unicode/utf8.acceptRanges", laid_unicode_utf8_acceptRanges), ("unicode/utf8.first", laid_unicode_utf8_first)], narrowed := true }
def DecTellsUptoSaid : Prop := decTellsUptoRow.holds Tryz.pinned (OpenSpec.upto decTellsSpec)

/-- 'bolterlaw02.DecBack', WHERE WHAT IT READS IS OF BULK AT MOST 1048576: true; the input reads as it did. -/
def decBackUptoRow : OpenClaim := { program := "ytjbjkmccfocikaagreatdoor", sum := "979668ea64fc7f9445aa181f40c6bbb94a68363fbd701fa6768c49cb6ca41402", func := "bolter/bolterlaw02.DecBack", spec := "decBack", inPlace := ["internal/bytealg.IndexByteString", "internal/bytealg.IndexString", "internal/abi.NoEscape", "internal/bytealg.MakeNoZero"], unfollowed := true, recurses := true, named := ["math/bits.overflowError", "unicode/utf8.first", "unicode/utf8.acceptRanges", "internal/bytealg.MaxLen"], apart := false, laid := [("unicode/utf8.acceptRanges", laid_unicode_utf8_acceptRanges), ("unicode/utf8.first", laid_unicode_utf8_first)], narrowed := true }
def DecBackUptoSaid : Prop := decBackUptoRow.holds Tryz.pinned (OpenSpec.upto decBackSpec)

/-- 'bolterlaw02.DecTexts', WHERE WHAT IT READS IS OF BULK AT MOST 1048576: true; the input reads as it did. -/
def decTextsUptoRow : OpenClaim := { program := "ytjbjkmccfocikaagreatdoor", sum := "979668ea64fc7f9445aa181f40c6bbb94a68363fbd701fa6768c49cb6ca41402", func := "bolter/bolterlaw02.DecTexts", spec := "decTexts", inPlace := ["internal/bytealg.IndexByteString", "internal/bytealg.IndexString", "internal/abi.NoEscape", "internal/bytealg.MakeNoZero"], unfollowed := true, recurses := true, named := ["unicode/utf8.first", "unicode/utf8.acceptRanges", "math/bits.overflowError", "internal/bytealg.MaxLen"], apart := false, laid := [("unicode/utf8.acceptRanges", laid_unicode_utf8_acceptRanges), ("unicode/utf8.first", laid_unicode_utf8_first)], narrowed := true }
def DecTextsUptoSaid : Prop := decTextsUptoRow.holds Tryz.pinned (OpenSpec.upto decTextsSpec)

end Rows
end Go.Proofs.YtjbjkmccfocikaaGreatDoor
