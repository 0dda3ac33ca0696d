/-
  NARROWER THAN 'FOR EVERY INPUT', by the rows' own cells (each row's printed sentence says how): TextsCase: laid · TextsBack: laid · TextsSides: laid · TextsTimes: laid · TextsEnds: laid · TextsTells: laid · FormatBack: laid.
  DERIVED. THE GIVEN ROWS OF THIS SEAT. 7 by the template 'for every input the law returns true; each argument reads behind the call as it read before'; 0 by the template 'total and deterministic' (their statements: YtdhjdddjgcfhkaaDoorTotals.lean).
  GIVEN WITH THE SEED: the statements are not yours to turn. If you find one false, say at which input.
  Laid BY PROGRAM, IN A SANDBOX (cutbox-rows.mjs): the forced cells as the released guide's own fill.sh prints them over the translation e8b8d79d6404754a… (all of the seat's roots in one cut). By AI agents, Wed Nov 11 2026. No macro, syntax, notation, axiom, sorry.
-/
import Derived.Test.YtdhjdddjgcfhkaaDoorChecked
import GoSem.PinnedTables
import GoSem.Claim
import GoSem.ClaimJoined
import GoSem.ClaimMapViews
import Derived.JoinedTies
import Derived.KernelRfl
namespace Go.Proofs.YtdhjdddjgcfhkaaDoor
/- THE CELL 'sum', in the pinned program and in every row, IS THE sha256 OF THE DUMP (.gsa) THAT YtdhjdddjgcfhkaaDoorProg.lean LOADS. Nothing in Lean hashes anything: it is a label: what it is worth is what the hold of that sum in a sandbox is worth. -/
noncomputable def Tryd.pinned : Pinned := { name := "ytdhjdddjgcfhkaadoor", sum := "e8b8d79d6404754a92254c86e83ef1e1a990dc48b9a85dc0405c7f08f141de75", checked := Tryd.checked }
namespace Rows
def none {H : Type} : Left H := { results := [], args := [] }

/- WHAT THE LISTED PACKAGE-LEVEL VARIABLES READ AS WHEN THE CALL BEGINS. Each datum BY PROGRAM (the guide's laid-datum.mjs) off the statement by which the dump's own 'gosem.cut.vars' lays the variable. In a bare row this is a premise. The card (YtdhjdddjgcfhkaaDoorCards.lean) ties it to the program's text. -/
def laid_unicode_utf8_acceptRanges {H : Type} : DataW H := .agg [.agg [.lit (.int .u8 128), .lit (.int .u8 191)], .agg [.lit (.int .u8 160), .lit (.int .u8 191)], .agg [.lit (.int .u8 128), .lit (.int .u8 159)], .agg [.lit (.int .u8 144), .lit (.int .u8 191)], .agg [.lit (.int .u8 128), .lit (.int .u8 143)], .agg [.lit (.int .u8 0), .lit (.int .u8 0)], .agg [.lit (.int .u8 0), .lit (.int .u8 0)], .agg [.lit (.int .u8 0), .lit (.int .u8 0)], .agg [.lit (.int .u8 0), .lit (.int .u8 0)], .agg [.lit (.int .u8 0), .lit (.int .u8 0)], .agg [.lit (.int .u8 0), .lit (.int .u8 0)], .agg [.lit (.int .u8 0), .lit (.int .u8 0)], .agg [.lit (.int .u8 0), .lit (.int .u8 0)], .agg [.lit (.int .u8 0), .lit (.int .u8 0)], .agg [.lit (.int .u8 0), .lit (.int .u8 0)], .agg [.lit (.int .u8 0), .lit (.int .u8 0)]]
/-- One of Go's own tables, pinned by name: the form's constant. -/
def laid_unicode_utf8_first : DataW Unit := Go.Pinned.utf8First

/-- 'bolterlaw13.TextsCase': WHATEVER THE INPUT: true; the input reads as it did. -/
def textsCaseSpec : ChangeSpec := { name := "textsCase", fn := fun _ => fun
  | [d] => { results := [.lit (.bool true)], args := [d] }
  | _ => none }
def textsCaseRow : OpenClaim := { program := "ytdhjdddjgcfhkaadoor", sum := "e8b8d79d6404754a92254c86e83ef1e1a990dc48b9a85dc0405c7f08f141de75", func := "bolter/bolterlaw13.TextsCase", spec := "textsCase", inPlace := ["internal/bytealg.CountString", "internal/bytealg.IndexByteString", "internal/bytealg.IndexString", "internal/abi.NoEscape", "internal/bytealg.MakeNoZero"], unfollowed := true, recurses := true, named := ["unicode/utf8.first", "unicode/utf8.acceptRanges", "internal/bytealg.MaxLen"], apart := false, laid := [("unicode/utf8.acceptRanges", laid_unicode_utf8_acceptRanges), ("unicode/utf8.first", laid_unicode_utf8_first)] }
def TextsCaseSaid : Prop := textsCaseRow.holds Tryd.pinned (OpenSpec.ofChange textsCaseSpec)

/-- ITS FALSE NEIGHBOUR: 'it returns false'. Refute it at one input. -/
def textsCaseWrong : ChangeSpec := { name := "textsCase", fn := fun _ => fun
  | [d] => { results := [.lit (.bool false)], args := [d] }
  | _ => none }
def TextsCaseWrongFalsely : Prop := textsCaseRow.holds Tryd.pinned (OpenSpec.ofChange textsCaseWrong)

/-- 'bolterlaw13.TextsBack': WHATEVER THE INPUT: true; the input reads as it did. -/
def textsBackSpec : ChangeSpec := { name := "textsBack", fn := fun _ => fun
  | [d1, d2] => { results := [.lit (.bool true)], args := [d1, d2] }
  | _ => none }
def textsBackRow : OpenClaim := { program := "ytdhjdddjgcfhkaadoor", sum := "e8b8d79d6404754a92254c86e83ef1e1a990dc48b9a85dc0405c7f08f141de75", func := "bolter/bolterlaw13.TextsBack", spec := "textsBack", inPlace := ["internal/bytealg.CountString", "internal/bytealg.IndexByteString", "internal/bytealg.IndexString", "internal/abi.NoEscape", "internal/bytealg.MakeNoZero"], unfollowed := true, recurses := true, named := ["unicode/utf8.first", "unicode/utf8.acceptRanges", "internal/bytealg.MaxLen"], apart := false, laid := [("unicode/utf8.acceptRanges", laid_unicode_utf8_acceptRanges), ("unicode/utf8.first", laid_unicode_utf8_first)] }
def TextsBackSaid : Prop := textsBackRow.holds Tryd.pinned (OpenSpec.ofChange textsBackSpec)

/-- ITS FALSE NEIGHBOUR: 'it returns false'. Refute it at one input. -/
def textsBackWrong : ChangeSpec := { name := "textsBack", fn := fun _ => fun
  | [d1, d2] => { results := [.lit (.bool false)], args := [d1, d2] }
  | _ => none }
def TextsBackWrongFalsely : Prop := textsBackRow.holds Tryd.pinned (OpenSpec.ofChange textsBackWrong)

/-- 'bolterlaw13.TextsSides': WHATEVER THE INPUT: true; the input reads as it did. -/
def textsSidesSpec : ChangeSpec := { name := "textsSides", fn := fun _ => fun
  | [d1, d2] => { results := [.lit (.bool true)], args := [d1, d2] }
  | _ => none }
def textsSidesRow : OpenClaim := { program := "ytdhjdddjgcfhkaadoor", sum := "e8b8d79d6404754a92254c86e83ef1e1a990dc48b9a85dc0405c7f08f141de75", func := "bolter/bolterlaw13.TextsSides", spec := "textsSides", inPlace := ["internal/bytealg.CountString", "internal/bytealg.IndexByteString", "internal/bytealg.IndexString", "internal/abi.NoEscape", "internal/bytealg.MakeNoZero"], unfollowed := true, recurses := true, named := ["unicode/utf8.first", "unicode/utf8.acceptRanges", "internal/bytealg.MaxLen"], apart := false, laid := [("unicode/utf8.acceptRanges", laid_unicode_utf8_acceptRanges), ("unicode/utf8.first", laid_unicode_utf8_first)] }
def TextsSidesSaid : Prop := textsSidesRow.holds Tryd.pinned (OpenSpec.ofChange textsSidesSpec)

/-- ITS FALSE NEIGHBOUR: 'it returns false'. Refute it at one input. -/
def textsSidesWrong : ChangeSpec := { name := "textsSides", fn := fun _ => fun
  | [d1, d2] => { results := [.lit (.bool false)], args := [d1, d2] }
  | _ => none }
def TextsSidesWrongFalsely : Prop := textsSidesRow.holds Tryd.pinned (OpenSpec.ofChange textsSidesWrong)

/-- 'bolterlaw13.TextsTimes': WHATEVER THE INPUT: true; the input reads as it did. -/
def textsTimesSpec : ChangeSpec := { name := "textsTimes", fn := fun _ => fun
  | [d1, d2, d3, d4] => { results := [.lit (.bool true)], args := [d1, d2, d3, d4] }
  | _ => none }
def textsTimesRow : OpenClaim := { program := "ytdhjdddjgcfhkaadoor", sum := "e8b8d79d6404754a92254c86e83ef1e1a990dc48b9a85dc0405c7f08f141de75", func := "bolter/bolterlaw13.TextsTimes", spec := "textsTimes", inPlace := ["internal/bytealg.CountString", "internal/bytealg.IndexByteString", "internal/bytealg.IndexString", "internal/abi.NoEscape", "internal/bytealg.MakeNoZero"], unfollowed := true, recurses := true, named := ["unicode/utf8.first", "unicode/utf8.acceptRanges", "internal/bytealg.MaxLen"], apart := false, laid := [("unicode/utf8.acceptRanges", laid_unicode_utf8_acceptRanges), ("unicode/utf8.first", laid_unicode_utf8_first)] }
def TextsTimesSaid : Prop := textsTimesRow.holds Tryd.pinned (OpenSpec.ofChange textsTimesSpec)

/-- ITS FALSE NEIGHBOUR: 'it returns false'. Refute it at one input. -/
def textsTimesWrong : ChangeSpec := { name := "textsTimes", fn := fun _ => fun
  | [d1, d2, d3, d4] => { results := [.lit (.bool false)], args := [d1, d2, d3, d4] }
  | _ => none }
def TextsTimesWrongFalsely : Prop := textsTimesRow.holds Tryd.pinned (OpenSpec.ofChange textsTimesWrong)

/-- 'bolterlaw13.TextsEnds': WHATEVER THE INPUT: true; the input reads as it did. -/
def textsEndsSpec : ChangeSpec := { name := "textsEnds", fn := fun _ => fun
  | [d1, d2, d3, d4] => { results := [.lit (.bool true)], args := [d1, d2, d3, d4] }
  | _ => none }
def textsEndsRow : OpenClaim := { program := "ytdhjdddjgcfhkaadoor", sum := "e8b8d79d6404754a92254c86e83ef1e1a990dc48b9a85dc0405c7f08f141de75", func := "bolter/bolterlaw13.TextsEnds", spec := "textsEnds", inPlace := ["internal/abi.NoEscape", "internal/bytealg.MakeNoZero", "internal/bytealg.IndexByteString", "internal/bytealg.IndexString", "internal/bytealg.CountString"], unfollowed := true, recurses := true, named := ["unicode/utf8.first", "unicode/utf8.acceptRanges", "internal/bytealg.MaxLen"], apart := false, laid := [("unicode/utf8.acceptRanges", laid_unicode_utf8_acceptRanges), ("unicode/utf8.first", laid_unicode_utf8_first)] }
def TextsEndsSaid : Prop := textsEndsRow.holds Tryd.pinned (OpenSpec.ofChange textsEndsSpec)

/-- ITS FALSE NEIGHBOUR: 'it returns false'. Refute it at one input. -/
def textsEndsWrong : ChangeSpec := { name := "textsEnds", fn := fun _ => fun
  | [d1, d2, d3, d4] => { results := [.lit (.bool false)], args := [d1, d2, d3, d4] }
  | _ => none }
def TextsEndsWrongFalsely : Prop := textsEndsRow.holds Tryd.pinned (OpenSpec.ofChange textsEndsWrong)

/-- 'bolterlaw13.TextsTells': WHATEVER THE INPUT: true; the input reads as it did. -/
def textsTellsSpec : ChangeSpec := { name := "textsTells", fn := fun _ => fun
  | [d1, d2, d3] => { results := [.lit (.bool true)], args := [d1, d2, d3] }
  | _ => none }
def textsTellsRow : OpenClaim := { program := "ytdhjdddjgcfhkaadoor", sum := "e8b8d79d6404754a92254c86e83ef1e1a990dc48b9a85dc0405c7f08f141de75", func := "bolter/bolterlaw13.TextsTells", spec := "textsTells", inPlace := ["internal/abi.NoEscape", "internal/bytealg.CountString", "internal/bytealg.IndexByteString", "internal/bytealg.IndexString", "internal/bytealg.MakeNoZero"], unfollowed := true, recurses := true, named := ["unicode/utf8.first", "unicode/utf8.acceptRanges", "internal/bytealg.MaxLen"], apart := false, laid := [("unicode/utf8.acceptRanges", laid_unicode_utf8_acceptRanges), ("unicode/utf8.first", laid_unicode_utf8_first)] }
def TextsTellsSaid : Prop := textsTellsRow.holds Tryd.pinned (OpenSpec.ofChange textsTellsSpec)

/-- ITS FALSE NEIGHBOUR: 'it returns false'. Refute it at one input. -/
def textsTellsWrong : ChangeSpec := { name := "textsTells", fn := fun _ => fun
  | [d1, d2, d3] => { results := [.lit (.bool false)], args := [d1, d2, d3] }
  | _ => none }
def TextsTellsWrongFalsely : Prop := textsTellsRow.holds Tryd.pinned (OpenSpec.ofChange textsTellsWrong)

/-- 'bolterlaw14.FormatBack': WHATEVER THE INPUT: true; the input reads as it did. -/
def formatBackSpec : ChangeSpec := { name := "formatBack", fn := fun _ => fun
  | [d] => { results := [.lit (.bool true)], args := [d] }
  | _ => none }
def formatBackRow : OpenClaim := { program := "ytdhjdddjgcfhkaadoor", sum := "e8b8d79d6404754a92254c86e83ef1e1a990dc48b9a85dc0405c7f08f141de75", func := "bolter/bolterlaw14.FormatBack", spec := "formatBack", inPlace := ["internal/abi.NoEscape", "internal/bytealg.IndexByteString", "internal/bytealg.IndexString"], unfollowed := true, recurses := true, named := ["unicode/utf8.first", "unicode/utf8.acceptRanges", "internal/bytealg.MaxLen"], apart := false, laid := [("unicode/utf8.acceptRanges", laid_unicode_utf8_acceptRanges), ("unicode/utf8.first", laid_unicode_utf8_first)] }
def FormatBackSaid : Prop := formatBackRow.holds Tryd.pinned (OpenSpec.ofChange formatBackSpec)

/-- ITS FALSE NEIGHBOUR: 'it returns false'. Refute it at one input. -/
def formatBackWrong : ChangeSpec := { name := "formatBack", fn := fun _ => fun
  | [d] => { results := [.lit (.bool false)], args := [d] }
  | _ => none }
def FormatBackWrongFalsely : Prop := formatBackRow.holds Tryd.pinned (OpenSpec.ofChange formatBackWrong)

/- THE SECOND FORM. 'bulk': how many values and letters a reading holds, each counted each time it is reached (what is shared counts as often as it is met; a slice's spare places count too). A statement '..UptoSaid' is the law's where the arguments, and the package variables that the reading takes, are together of bulk at most 1048576: NARROWER than '..Said'. Prove '..Said' where nothing that the law and all that it calls make is longer than what came in: it says more and counts as full. Else prove '..UptoSaid'. A law counts once. -/
mutual
def uptoBulk {H : Type} : DataW H → Nat
  | .lit (.string bytes) => bytes.length + 1
  | .lit _ => 1
  | .nil => 1
  | .ptr d => uptoBulk d + 1
  | .slice elems spare => uptoBulkAll elems + uptoBulkAll spare + 1
  | .agg parts => uptoBulkAll parts + 1
  | .iface _ d => uptoBulk d + 1
  | .map entries => uptoBulkEntries entries + 1
  | .held _ => 1
def uptoBulkAll {H : Type} : List (DataW H) → Nat
  | [] => 0
  | d :: r => uptoBulk d + uptoBulkAll r
def uptoBulkEntries {H : Type} : List (Lit × DataW H) → Nat
  | [] => 0
  | x :: r => uptoBulkEntry x + uptoBulkEntries r
def uptoBulkEntry {H : Type} : Lit × DataW H → Nat
  | (.string bytes, d) => bytes.length + uptoBulk d + 1
  | (_, d) => uptoBulk d + 1
 end
def uptoSmall : (H : Type) → List (DataW H) → Bool := fun _ ds => decide (uptoBulkAll ds ≤ 1048576)
def OpenSpec.upto (s : _root_.Go.ChangeSpec) : _root_.Go.OpenSpec := { _root_.Go.OpenSpec.ofChange s with cond := some uptoSmall }

/-- 'bolterlaw13.TextsCase', WHERE WHAT IT READS IS OF BULK AT MOST 1048576: true; the input reads as it did. -/
def textsCaseUptoRow : OpenClaim := { program := "ytdhjdddjgcfhkaadoor", sum := "e8b8d79d6404754a92254c86e83ef1e1a990dc48b9a85dc0405c7f08f141de75", func := "bolter/bolterlaw13.TextsCase", spec := "textsCase", inPlace := ["internal/bytealg.CountString", "internal/bytealg.IndexByteString", "internal/bytealg.IndexString", "internal/abi.NoEscape", "internal/bytealg.MakeNoZero"], unfollowed := true, recurses := true, named := ["unicode/utf8.first", "unicode/utf8.acceptRanges", "internal/bytealg.MaxLen"], apart := false, laid := [("unicode/utf8.acceptRanges", laid_unicode_utf8_acceptRanges), ("unicode/utf8.first", laid_unicode_utf8_first)], narrowed := true }
def TextsCaseUptoSaid : Prop := textsCaseUptoRow.holds Tryd.pinned (OpenSpec.upto textsCaseSpec)

/-- 'bolterlaw13.TextsBack', WHERE WHAT IT READS IS OF BULK AT MOST 1048576: true; the input reads as it did. -/
def textsBackUptoRow : OpenClaim := { program := "ytdhjdddjgcfhkaadoor", sum := "e8b8d79d6404754a92254c86e83ef1e1a990dc48b9a85dc0405c7f08f141de75", func := "bolter/bolterlaw13.TextsBack", spec := "textsBack", inPlace := ["internal/bytealg.CountString", "internal/bytealg.IndexByteString", "internal/bytealg.IndexString", "internal/abi.NoEscape", "internal/bytealg.MakeNoZero"], unfollowed := true, recurses := true, named := ["unicode/utf8.first", "unicode/utf8.acceptRanges", "internal/bytealg.MaxLen"], apart := false, laid := [("unicode/utf8.acceptRanges", laid_unicode_utf8_acceptRanges), ("unicode/utf8.first", laid_unicode_utf8_first)], narrowed := true }
def TextsBackUptoSaid : Prop := textsBackUptoRow.holds Tryd.pinned (OpenSpec.upto textsBackSpec)

/-- 'bolterlaw13.TextsSides', WHERE WHAT IT READS IS OF BULK AT MOST 1048576: true; the input reads as it did. -/
def textsSidesUptoRow : OpenClaim := { program := "ytdhjdddjgcfhkaadoor", sum := "e8b8d79d6404754a92254c86e83ef1e1a990dc48b9a85dc0405c7f08f141de75", func := "bolter/bolterlaw13.TextsSides", spec := "textsSides", inPlace := ["internal/bytealg.CountString", "internal/bytealg.IndexByteString", "internal/bytealg.IndexString", "internal/abi.NoEscape", "internal/bytealg.MakeNoZero"], unfollowed := true, recurses := true, named := ["unicode/utf8.first", "unicode/utf8.acceptRanges", "internal/bytealg.MaxLen"], apart := false, laid := [("unicode/utf8.acceptRanges", laid_unicode_utf8_acceptRanges), ("unicode/utf8.first", laid_unicode_utf8_first)], narrowed := true }
def TextsSidesUptoSaid : Prop := textsSidesUptoRow.holds Tryd.pinned (OpenSpec.upto textsSidesSpec)

/-- 'bolterlaw13.TextsTimes', WHERE WHAT IT READS IS OF BULK AT MOST 1048576: true; the input reads as it did. -/
def textsTimesUptoRow : OpenClaim := { program := "ytdhjdddjgcfhkaadoor", sum := "e8b8d79d6404754a92254c86e83ef1e1a990dc48b9a85dc0405c7f08f141de75", func := "bolter/bolterlaw13.TextsTimes", spec := "textsTimes", inPlace := ["internal/bytealg.CountString", "internal/bytealg.IndexByteString", "internal/bytealg.IndexString", "internal/abi.NoEscape", "internal/bytealg.MakeNoZero"], unfollowed := true, recurses := true, named := ["unicode/utf8.first", "unicode/utf8.acceptRanges", "internal/bytealg.MaxLen"], apart := false, laid := [("unicode/utf8.acceptRanges", laid_unicode_utf8_acceptRanges), ("unicode/utf8.first", laid_unicode_utf8_first)], narrowed := true }
def TextsTimesUptoSaid : Prop := textsTimesUptoRow.holds Tryd.pinned (OpenSpec.upto textsTimesSpec)

/-- 'bolterlaw13.TextsEnds', WHERE WHAT IT READS IS OF BULK AT MOST 1048576: true; the input reads as it did. -/
def textsEndsUptoRow : OpenClaim := { program := "ytdhjdddjgcfhkaadoor", sum := "e8b8d79d6404754a92254c86e83ef1e1a990dc48b9a85dc0405c7f08f141de75", func := "bolter/bolterlaw13.TextsEnds", spec := "textsEnds", inPlace := ["internal/abi.NoEscape", "internal/bytealg.MakeNoZero", "internal/bytealg.IndexByteString", "internal/bytealg.IndexString", "internal/bytealg.CountString"], unfollowed := true, recurses := true, named := ["unicode/utf8.first", "unicode/utf8.acceptRanges", "internal/bytealg.MaxLen"], apart := false, laid := [("unicode/utf8.acceptRanges", laid_unicode_utf8_acceptRanges), ("unicode/utf8.first", laid_unicode_utf8_first)], narrowed := true }
def TextsEndsUptoSaid : Prop := textsEndsUptoRow.holds Tryd.pinned (OpenSpec.upto textsEndsSpec)

/-- 'bolterlaw13.TextsTells', WHERE WHAT IT READS IS OF BULK AT MOST 1048576: true; the input reads as it did. -/
def textsTellsUptoRow : OpenClaim := { program := "ytdhjdddjgcfhkaadoor", sum := "e8b8d79d6404754a92254c86e83ef1e1a990dc48b9a85dc0405c7f08f141de75", func := "bolter/bolterlaw13.TextsTells", spec := "textsTells", inPlace := ["internal/abi.NoEscape", "internal/bytealg.CountString", "internal/bytealg.IndexByteString", "internal/bytealg.IndexString", "internal/bytealg.MakeNoZero"], unfollowed := true, recurses := true, named := ["unicode/utf8.first", "unicode/utf8.acceptRanges", "internal/bytealg.MaxLen"], apart := false, laid := [("unicode/utf8.acceptRanges", laid_unicode_utf8_acceptRanges), ("unicode/utf8.first", laid_unicode_utf8_first)], narrowed := true }
def TextsTellsUptoSaid : Prop := textsTellsUptoRow.holds Tryd.pinned (OpenSpec.upto textsTellsSpec)

/-- 'bolterlaw14.FormatBack', WHERE WHAT IT READS IS OF BULK AT MOST 1048576: true; the input reads as it did. -/
def formatBackUptoRow : OpenClaim := { program := "ytdhjdddjgcfhkaadoor", sum := "e8b8d79d6404754a92254c86e83ef1e1a990dc48b9a85dc0405c7f08f141de75", func := "bolter/bolterlaw14.FormatBack", spec := "formatBack", inPlace := ["internal/abi.NoEscape", "internal/bytealg.IndexByteString", "internal/bytealg.IndexString"], unfollowed := true, recurses := true, named := ["unicode/utf8.first", "unicode/utf8.acceptRanges", "internal/bytealg.MaxLen"], apart := false, laid := [("unicode/utf8.acceptRanges", laid_unicode_utf8_acceptRanges), ("unicode/utf8.first", laid_unicode_utf8_first)], narrowed := true }
def FormatBackUptoSaid : Prop := formatBackUptoRow.holds Tryd.pinned (OpenSpec.upto formatBackSpec)

end Rows
end Go.Proofs.YtdhjdddjgcfhkaaDoor
