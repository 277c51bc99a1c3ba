/-
  NARROWER THAN 'FOR EVERY INPUT', by the rows' own cells (each row's printed sentence says how): FnExactFits: laid · FnExactEncode: laid · FnExactEncodeLossy: laid · FnExactCellText: laid · FnExactScore: laid · FnExactFeed: laid · FnExactDetect: laid · FnStreams: laid · FnStreamsBent: laid · FnJoined: laid · FnDetects: laid · FnCodes: laid · FnLossy: laid.
  DERIVED. THE GIVEN ROWS OF THIS SEAT. 13 by the template 'for every input the law returns true; each argument reads behind the call as it read before'; 0 by the template 'total and deterministic' (their statements: YtpmimhbnmjffpaaDoorTotals.lean).
  GIVEN WITH THE SEED: the statements are not yours to turn. If you find one false, say at which input.
  Laid BY PROGRAM, IN A SANDBOX (cutbox-rows.mjs): the forced cells as the released guide's own fill.sh prints them over the translation b427476d6911adcc… (all of the seat's roots in one cut). By AI agents, Wed Nov 11 2026. No macro, syntax, notation, axiom, sorry.
-/
import Derived.Test.YtpmimhbnmjffpaaDoorChecked
import GoSem.PinnedTables
import GoSem.Claim
import GoSem.ClaimJoined
import GoSem.ClaimMapViews
import Derived.JoinedTies
import Derived.KernelRfl
namespace Go.Proofs.YtpmimhbnmjffpaaDoor
/- THE CELL 'sum', in the pinned program and in every row, IS THE sha256 OF THE DUMP (.gsa) THAT YtpmimhbnmjffpaaDoorProg.lean LOADS. Nothing in Lean hashes anything: it is a label: what it is worth is what the hold of that sum in a sandbox is worth. -/
noncomputable def Tryd.pinned : Pinned := { name := "ytpmimhbnmjffpaadoor", sum := "b427476d6911adcca07cc9329b332e22e458b0d8860f943d67ed70bb39784268", checked := Tryd.checked }
namespace Rows
def none {H : Type} : Left H := { results := [], args := [] }

/- WHAT THE LISTED PACKAGE-LEVEL VARIABLES READ AS WHEN THE CALL BEGINS. Each datum BY PROGRAM (the guide's laid-datum.mjs) off the statement by which the dump's own 'gosem.cut.vars' lays the variable. In a bare row this is a premise. The card (YtpmimhbnmjffpaaDoorCards.lean) ties it to the program's text. -/
def laid_unicode_utf8_acceptRanges {H : Type} : DataW H := .agg [.agg [.lit (.int .u8 128), .lit (.int .u8 191)], .agg [.lit (.int .u8 160), .lit (.int .u8 191)], .agg [.lit (.int .u8 128), .lit (.int .u8 159)], .agg [.lit (.int .u8 144), .lit (.int .u8 191)], .agg [.lit (.int .u8 128), .lit (.int .u8 143)], .agg [.lit (.int .u8 0), .lit (.int .u8 0)], .agg [.lit (.int .u8 0), .lit (.int .u8 0)], .agg [.lit (.int .u8 0), .lit (.int .u8 0)], .agg [.lit (.int .u8 0), .lit (.int .u8 0)], .agg [.lit (.int .u8 0), .lit (.int .u8 0)], .agg [.lit (.int .u8 0), .lit (.int .u8 0)], .agg [.lit (.int .u8 0), .lit (.int .u8 0)], .agg [.lit (.int .u8 0), .lit (.int .u8 0)], .agg [.lit (.int .u8 0), .lit (.int .u8 0)], .agg [.lit (.int .u8 0), .lit (.int .u8 0)], .agg [.lit (.int .u8 0), .lit (.int .u8 0)]]
/-- One of Go's own tables, pinned by name: the form's constant. -/
def laid_unicode_utf8_first : DataW Unit := Go.Pinned.utf8First

/-- 'laws.FnExactFits': WHATEVER THE INPUT: true; the input reads as it did. -/
def fnExactFitsSpec : ChangeSpec := { name := "fnExactFits", fn := fun _ => fun
  | [d1, d2] => { results := [.lit (.bool true)], args := [d1, d2] }
  | _ => none }
def fnExactFitsRow : OpenClaim := { program := "ytpmimhbnmjffpaadoor", sum := "b427476d6911adcca07cc9329b332e22e458b0d8860f943d67ed70bb39784268", func := "loop.example/g00475/laws.FnExactFits", spec := "fnExactFits", named := ["unicode/utf8.first", "unicode/utf8.acceptRanges"], apart := false, laid := [("unicode/utf8.acceptRanges", laid_unicode_utf8_acceptRanges), ("unicode/utf8.first", laid_unicode_utf8_first)] }
def FnExactFitsSaid : Prop := fnExactFitsRow.holds Tryd.pinned (OpenSpec.ofChange fnExactFitsSpec)

/-- ITS FALSE NEIGHBOUR: 'it returns false'. Refute it at one input. -/
def fnExactFitsWrong : ChangeSpec := { name := "fnExactFits", fn := fun _ => fun
  | [d1, d2] => { results := [.lit (.bool false)], args := [d1, d2] }
  | _ => none }
def FnExactFitsWrongFalsely : Prop := fnExactFitsRow.holds Tryd.pinned (OpenSpec.ofChange fnExactFitsWrong)

/-- 'laws.FnExactEncode': WHATEVER THE INPUT: true; the input reads as it did. -/
def fnExactEncodeSpec : ChangeSpec := { name := "fnExactEncode", fn := fun _ => fun
  | [d1, d2] => { results := [.lit (.bool true)], args := [d1, d2] }
  | _ => none }
def fnExactEncodeRow : OpenClaim := { program := "ytpmimhbnmjffpaadoor", sum := "b427476d6911adcca07cc9329b332e22e458b0d8860f943d67ed70bb39784268", func := "loop.example/g00475/laws.FnExactEncode", spec := "fnExactEncode", named := ["unicode/utf8.first", "unicode/utf8.acceptRanges"], apart := false, laid := [("unicode/utf8.acceptRanges", laid_unicode_utf8_acceptRanges), ("unicode/utf8.first", laid_unicode_utf8_first)] }
def FnExactEncodeSaid : Prop := fnExactEncodeRow.holds Tryd.pinned (OpenSpec.ofChange fnExactEncodeSpec)

/-- ITS FALSE NEIGHBOUR: 'it returns false'. Refute it at one input. -/
def fnExactEncodeWrong : ChangeSpec := { name := "fnExactEncode", fn := fun _ => fun
  | [d1, d2] => { results := [.lit (.bool false)], args := [d1, d2] }
  | _ => none }
def FnExactEncodeWrongFalsely : Prop := fnExactEncodeRow.holds Tryd.pinned (OpenSpec.ofChange fnExactEncodeWrong)

/-- 'laws.FnExactEncodeLossy': WHATEVER THE INPUT: true; the input reads as it did. -/
def fnExactEncodeLossySpec : ChangeSpec := { name := "fnExactEncodeLossy", fn := fun _ => fun
  | [d1, d2] => { results := [.lit (.bool true)], args := [d1, d2] }
  | _ => none }
def fnExactEncodeLossyRow : OpenClaim := { program := "ytpmimhbnmjffpaadoor", sum := "b427476d6911adcca07cc9329b332e22e458b0d8860f943d67ed70bb39784268", func := "loop.example/g00475/laws.FnExactEncodeLossy", spec := "fnExactEncodeLossy", named := ["unicode/utf8.first", "unicode/utf8.acceptRanges"], apart := false, laid := [("unicode/utf8.acceptRanges", laid_unicode_utf8_acceptRanges), ("unicode/utf8.first", laid_unicode_utf8_first)] }
def FnExactEncodeLossySaid : Prop := fnExactEncodeLossyRow.holds Tryd.pinned (OpenSpec.ofChange fnExactEncodeLossySpec)

/-- ITS FALSE NEIGHBOUR: 'it returns false'. Refute it at one input. -/
def fnExactEncodeLossyWrong : ChangeSpec := { name := "fnExactEncodeLossy", fn := fun _ => fun
  | [d1, d2] => { results := [.lit (.bool false)], args := [d1, d2] }
  | _ => none }
def FnExactEncodeLossyWrongFalsely : Prop := fnExactEncodeLossyRow.holds Tryd.pinned (OpenSpec.ofChange fnExactEncodeLossyWrong)

/-- 'laws.FnExactCellText': WHATEVER THE INPUT: true; the input reads as it did. -/
def fnExactCellTextSpec : ChangeSpec := { name := "fnExactCellText", fn := fun _ => fun
  | [d] => { results := [.lit (.bool true)], args := [d] }
  | _ => none }
def fnExactCellTextRow : OpenClaim := { program := "ytpmimhbnmjffpaadoor", sum := "b427476d6911adcca07cc9329b332e22e458b0d8860f943d67ed70bb39784268", func := "loop.example/g00475/laws.FnExactCellText", spec := "fnExactCellText", named := ["unicode/utf8.first", "unicode/utf8.acceptRanges"], apart := false, laid := [("unicode/utf8.acceptRanges", laid_unicode_utf8_acceptRanges), ("unicode/utf8.first", laid_unicode_utf8_first)] }
def FnExactCellTextSaid : Prop := fnExactCellTextRow.holds Tryd.pinned (OpenSpec.ofChange fnExactCellTextSpec)

/-- ITS FALSE NEIGHBOUR: 'it returns false'. Refute it at one input. -/
def fnExactCellTextWrong : ChangeSpec := { name := "fnExactCellText", fn := fun _ => fun
  | [d] => { results := [.lit (.bool false)], args := [d] }
  | _ => none }
def FnExactCellTextWrongFalsely : Prop := fnExactCellTextRow.holds Tryd.pinned (OpenSpec.ofChange fnExactCellTextWrong)

/-- 'laws.FnExactScore': WHATEVER THE INPUT: true; the input reads as it did. -/
def fnExactScoreSpec : ChangeSpec := { name := "fnExactScore", fn := fun _ => fun
  | [d1, d2] => { results := [.lit (.bool true)], args := [d1, d2] }
  | _ => none }
def fnExactScoreRow : OpenClaim := { program := "ytpmimhbnmjffpaadoor", sum := "b427476d6911adcca07cc9329b332e22e458b0d8860f943d67ed70bb39784268", func := "loop.example/g00475/laws.FnExactScore", spec := "fnExactScore", named := ["unicode/utf8.first", "unicode/utf8.acceptRanges"], apart := false, laid := [("unicode/utf8.acceptRanges", laid_unicode_utf8_acceptRanges), ("unicode/utf8.first", laid_unicode_utf8_first)] }
def FnExactScoreSaid : Prop := fnExactScoreRow.holds Tryd.pinned (OpenSpec.ofChange fnExactScoreSpec)

/-- ITS FALSE NEIGHBOUR: 'it returns false'. Refute it at one input. -/
def fnExactScoreWrong : ChangeSpec := { name := "fnExactScore", fn := fun _ => fun
  | [d1, d2] => { results := [.lit (.bool false)], args := [d1, d2] }
  | _ => none }
def FnExactScoreWrongFalsely : Prop := fnExactScoreRow.holds Tryd.pinned (OpenSpec.ofChange fnExactScoreWrong)

/-- 'laws.FnExactFeed': WHATEVER THE INPUT: true; the input reads as it did. -/
def fnExactFeedSpec : ChangeSpec := { name := "fnExactFeed", fn := fun _ => fun
  | [d1, d2] => { results := [.lit (.bool true)], args := [d1, d2] }
  | _ => none }
def fnExactFeedRow : OpenClaim := { program := "ytpmimhbnmjffpaadoor", sum := "b427476d6911adcca07cc9329b332e22e458b0d8860f943d67ed70bb39784268", func := "loop.example/g00475/laws.FnExactFeed", spec := "fnExactFeed", named := ["unicode/utf8.first", "unicode/utf8.acceptRanges"], apart := false, laid := [("unicode/utf8.acceptRanges", laid_unicode_utf8_acceptRanges), ("unicode/utf8.first", laid_unicode_utf8_first)] }
def FnExactFeedSaid : Prop := fnExactFeedRow.holds Tryd.pinned (OpenSpec.ofChange fnExactFeedSpec)

/-- ITS FALSE NEIGHBOUR: 'it returns false'. Refute it at one input. -/
def fnExactFeedWrong : ChangeSpec := { name := "fnExactFeed", fn := fun _ => fun
  | [d1, d2] => { results := [.lit (.bool false)], args := [d1, d2] }
  | _ => none }
def FnExactFeedWrongFalsely : Prop := fnExactFeedRow.holds Tryd.pinned (OpenSpec.ofChange fnExactFeedWrong)

/-- 'laws.FnExactDetect': WHATEVER THE INPUT: true; the input reads as it did. -/
def fnExactDetectSpec : ChangeSpec := { name := "fnExactDetect", fn := fun _ => fun
  | [d] => { results := [.lit (.bool true)], args := [d] }
  | _ => none }
def fnExactDetectRow : OpenClaim := { program := "ytpmimhbnmjffpaadoor", sum := "b427476d6911adcca07cc9329b332e22e458b0d8860f943d67ed70bb39784268", func := "loop.example/g00475/laws.FnExactDetect", spec := "fnExactDetect", named := ["unicode/utf8.first", "unicode/utf8.acceptRanges"], apart := false, laid := [("unicode/utf8.acceptRanges", laid_unicode_utf8_acceptRanges), ("unicode/utf8.first", laid_unicode_utf8_first)] }
def FnExactDetectSaid : Prop := fnExactDetectRow.holds Tryd.pinned (OpenSpec.ofChange fnExactDetectSpec)

/-- ITS FALSE NEIGHBOUR: 'it returns false'. Refute it at one input. -/
def fnExactDetectWrong : ChangeSpec := { name := "fnExactDetect", fn := fun _ => fun
  | [d] => { results := [.lit (.bool false)], args := [d] }
  | _ => none }
def FnExactDetectWrongFalsely : Prop := fnExactDetectRow.holds Tryd.pinned (OpenSpec.ofChange fnExactDetectWrong)

/-- 'laws.FnStreams': WHATEVER THE INPUT: true; the input reads as it did. -/
def fnStreamsSpec : ChangeSpec := { name := "fnStreams", fn := fun _ => fun
  | [d] => { results := [.lit (.bool true)], args := [d] }
  | _ => none }
def fnStreamsRow : OpenClaim := { program := "ytpmimhbnmjffpaadoor", sum := "b427476d6911adcca07cc9329b332e22e458b0d8860f943d67ed70bb39784268", func := "loop.example/g00475/laws.FnStreams", spec := "fnStreams", named := ["unicode/utf8.first", "unicode/utf8.acceptRanges"], apart := false, laid := [("unicode/utf8.acceptRanges", laid_unicode_utf8_acceptRanges), ("unicode/utf8.first", laid_unicode_utf8_first)] }
def FnStreamsSaid : Prop := fnStreamsRow.holds Tryd.pinned (OpenSpec.ofChange fnStreamsSpec)

/-- ITS FALSE NEIGHBOUR: 'it returns false'. Refute it at one input. -/
def fnStreamsWrong : ChangeSpec := { name := "fnStreams", fn := fun _ => fun
  | [d] => { results := [.lit (.bool false)], args := [d] }
  | _ => none }
def FnStreamsWrongFalsely : Prop := fnStreamsRow.holds Tryd.pinned (OpenSpec.ofChange fnStreamsWrong)

/-- 'laws.FnStreamsBent': WHATEVER THE INPUT: true; the input reads as it did. -/
def fnStreamsBentSpec : ChangeSpec := { name := "fnStreamsBent", fn := fun _ => fun
  | [d] => { results := [.lit (.bool true)], args := [d] }
  | _ => none }
def fnStreamsBentRow : OpenClaim := { program := "ytpmimhbnmjffpaadoor", sum := "b427476d6911adcca07cc9329b332e22e458b0d8860f943d67ed70bb39784268", func := "loop.example/g00475/laws.FnStreamsBent", spec := "fnStreamsBent", named := ["unicode/utf8.first", "unicode/utf8.acceptRanges"], apart := false, laid := [("unicode/utf8.acceptRanges", laid_unicode_utf8_acceptRanges), ("unicode/utf8.first", laid_unicode_utf8_first)] }
def FnStreamsBentSaid : Prop := fnStreamsBentRow.holds Tryd.pinned (OpenSpec.ofChange fnStreamsBentSpec)

/-- ITS FALSE NEIGHBOUR: 'it returns false'. Refute it at one input. -/
def fnStreamsBentWrong : ChangeSpec := { name := "fnStreamsBent", fn := fun _ => fun
  | [d] => { results := [.lit (.bool false)], args := [d] }
  | _ => none }
def FnStreamsBentWrongFalsely : Prop := fnStreamsBentRow.holds Tryd.pinned (OpenSpec.ofChange fnStreamsBentWrong)

/-- 'laws.FnJoined': WHATEVER THE INPUT: true; the input reads as it did. -/
def fnJoinedSpec : ChangeSpec := { name := "fnJoined", fn := fun _ => fun
  | [d] => { results := [.lit (.bool true)], args := [d] }
  | _ => none }
def fnJoinedRow : OpenClaim := { program := "ytpmimhbnmjffpaadoor", sum := "b427476d6911adcca07cc9329b332e22e458b0d8860f943d67ed70bb39784268", func := "loop.example/g00475/laws.FnJoined", spec := "fnJoined", named := ["unicode/utf8.first", "unicode/utf8.acceptRanges"], apart := false, laid := [("unicode/utf8.acceptRanges", laid_unicode_utf8_acceptRanges), ("unicode/utf8.first", laid_unicode_utf8_first)] }
def FnJoinedSaid : Prop := fnJoinedRow.holds Tryd.pinned (OpenSpec.ofChange fnJoinedSpec)

/-- ITS FALSE NEIGHBOUR: 'it returns false'. Refute it at one input. -/
def fnJoinedWrong : ChangeSpec := { name := "fnJoined", fn := fun _ => fun
  | [d] => { results := [.lit (.bool false)], args := [d] }
  | _ => none }
def FnJoinedWrongFalsely : Prop := fnJoinedRow.holds Tryd.pinned (OpenSpec.ofChange fnJoinedWrong)

/-- 'laws.FnDetects': WHATEVER THE INPUT: true; the input reads as it did. -/
def fnDetectsSpec : ChangeSpec := { name := "fnDetects", fn := fun _ => fun
  | [d] => { results := [.lit (.bool true)], args := [d] }
  | _ => none }
def fnDetectsRow : OpenClaim := { program := "ytpmimhbnmjffpaadoor", sum := "b427476d6911adcca07cc9329b332e22e458b0d8860f943d67ed70bb39784268", func := "loop.example/g00475/laws.FnDetects", spec := "fnDetects", named := ["unicode/utf8.first", "unicode/utf8.acceptRanges"], apart := false, laid := [("unicode/utf8.acceptRanges", laid_unicode_utf8_acceptRanges), ("unicode/utf8.first", laid_unicode_utf8_first)] }
def FnDetectsSaid : Prop := fnDetectsRow.holds Tryd.pinned (OpenSpec.ofChange fnDetectsSpec)

/-- ITS FALSE NEIGHBOUR: 'it returns false'. Refute it at one input. -/
def fnDetectsWrong : ChangeSpec := { name := "fnDetects", fn := fun _ => fun
  | [d] => { results := [.lit (.bool false)], args := [d] }
  | _ => none }
def FnDetectsWrongFalsely : Prop := fnDetectsRow.holds Tryd.pinned (OpenSpec.ofChange fnDetectsWrong)

/-- 'laws.FnCodes': WHATEVER THE INPUT: true; the input reads as it did. -/
def fnCodesSpec : ChangeSpec := { name := "fnCodes", fn := fun _ => fun
  | [d] => { results := [.lit (.bool true)], args := [d] }
  | _ => none }
def fnCodesRow : OpenClaim := { program := "ytpmimhbnmjffpaadoor", sum := "b427476d6911adcca07cc9329b332e22e458b0d8860f943d67ed70bb39784268", func := "loop.example/g00475/laws.FnCodes", spec := "fnCodes", named := ["unicode/utf8.first", "unicode/utf8.acceptRanges"], apart := false, laid := [("unicode/utf8.acceptRanges", laid_unicode_utf8_acceptRanges), ("unicode/utf8.first", laid_unicode_utf8_first)] }
def FnCodesSaid : Prop := fnCodesRow.holds Tryd.pinned (OpenSpec.ofChange fnCodesSpec)

/-- ITS FALSE NEIGHBOUR: 'it returns false'. Refute it at one input. -/
def fnCodesWrong : ChangeSpec := { name := "fnCodes", fn := fun _ => fun
  | [d] => { results := [.lit (.bool false)], args := [d] }
  | _ => none }
def FnCodesWrongFalsely : Prop := fnCodesRow.holds Tryd.pinned (OpenSpec.ofChange fnCodesWrong)

/-- 'laws.FnLossy': WHATEVER THE INPUT: true; the input reads as it did. -/
def fnLossySpec : ChangeSpec := { name := "fnLossy", fn := fun _ => fun
  | [d] => { results := [.lit (.bool true)], args := [d] }
  | _ => none }
def fnLossyRow : OpenClaim := { program := "ytpmimhbnmjffpaadoor", sum := "b427476d6911adcca07cc9329b332e22e458b0d8860f943d67ed70bb39784268", func := "loop.example/g00475/laws.FnLossy", spec := "fnLossy", named := ["unicode/utf8.first", "unicode/utf8.acceptRanges"], apart := false, laid := [("unicode/utf8.acceptRanges", laid_unicode_utf8_acceptRanges), ("unicode/utf8.first", laid_unicode_utf8_first)] }
def FnLossySaid : Prop := fnLossyRow.holds Tryd.pinned (OpenSpec.ofChange fnLossySpec)

/-- ITS FALSE NEIGHBOUR: 'it returns false'. Refute it at one input. -/
def fnLossyWrong : ChangeSpec := { name := "fnLossy", fn := fun _ => fun
  | [d] => { results := [.lit (.bool false)], args := [d] }
  | _ => none }
def FnLossyWrongFalsely : Prop := fnLossyRow.holds Tryd.pinned (OpenSpec.ofChange fnLossyWrong)

/- THE SECOND FORM. 'bulk': how many values and letters a reading holds, each counted each time it is reached (what is shared counts as often as it is met; a slice's spare places count too). A statement '..UptoSaid' is the law's where the arguments, and the package variables that the reading takes, are together of bulk at most 1048576: NARROWER than '..Said'. Prove '..Said' where nothing that the law and all that it calls make is longer than what came in: it says more and counts as full. Else prove '..UptoSaid'. A law counts once. -/
mutual
def uptoBulk {H : Type} : DataW H → Nat
  | .lit (.string bytes) => bytes.length + 1
  | .lit _ => 1
  | .nil => 1
  | .ptr d => uptoBulk d + 1
  | .slice elems spare => uptoBulkAll elems + uptoBulkAll spare + 1
  | .agg parts => uptoBulkAll parts + 1
  | .iface _ d => uptoBulk d + 1
  | .map entries => uptoBulkEntries entries + 1
  | .held _ => 1
def uptoBulkAll {H : Type} : List (DataW H) → Nat
  | [] => 0
  | d :: r => uptoBulk d + uptoBulkAll r
def uptoBulkEntries {H : Type} : List (Lit × DataW H) → Nat
  | [] => 0
  | x :: r => uptoBulkEntry x + uptoBulkEntries r
def uptoBulkEntry {H : Type} : Lit × DataW H → Nat
  | (.string bytes, d) => bytes.length + uptoBulk d + 1
  | (_, d) => uptoBulk d + 1
 end
def uptoSmall : (H : Type) → List (DataW H) → Bool := fun _ ds => decide (uptoBulkAll ds ≤ 1048576)
def OpenSpec.upto (s : _root_.Go.ChangeSpec) : _root_.Go.OpenSpec := { _root_.Go.OpenSpec.ofChange s with cond := some uptoSmall }

/-- 'laws.FnExactFits', WHERE WHAT IT READS IS OF BULK AT MOST 1048576: true; the input reads as it did. -/
def fnExactFitsUptoRow : OpenClaim := { program := "ytpmimhbnmjffpaadoor", sum := "b427476d6911adcca07cc9329b332e22e458b0d8860f943d67ed70bb39784268", func := "loop.example/g00475/laws.FnExactFits", spec := "fnExactFits", named := ["unicode/utf8.first", "unicode/utf8.acceptRanges"], apart := false, laid := [("unicode/utf8.acceptRanges", laid_unicode_utf8_acceptRanges), ("unicode/utf8.first", laid_unicode_utf8_first)], narrowed := true }
def FnExactFitsUptoSaid : Prop := fnExactFitsUptoRow.holds Tryd.pinned (OpenSpec.upto fnExactFitsSpec)

/-- 'laws.FnExactEncode', WHERE WHAT IT READS IS OF BULK AT MOST 1048576: true; the input reads as it did. -/
def fnExactEncodeUptoRow : OpenClaim := { program := "ytpmimhbnmjffpaadoor", sum := "b427476d6911adcca07cc9329b332e22e458b0d8860f943d67ed70bb39784268", func := "loop.example/g00475/laws.FnExactEncode", spec := "fnExactEncode", named := ["unicode/utf8.first", "unicode/utf8.acceptRanges"], apart := false, laid := [("unicode/utf8.acceptRanges", laid_unicode_utf8_acceptRanges), ("unicode/utf8.first", laid_unicode_utf8_first)], narrowed := true }
def FnExactEncodeUptoSaid : Prop := fnExactEncodeUptoRow.holds Tryd.pinned (OpenSpec.upto fnExactEncodeSpec)

/-- 'laws.FnExactEncodeLossy', WHERE WHAT IT READS IS OF BULK AT MOST 1048576: true; the input reads as it did. -/
def fnExactEncodeLossyUptoRow : OpenClaim := { program := "ytpmimhbnmjffpaadoor", sum := "b427476d6911adcca07cc9329b332e22e458b0d8860f943d67ed70bb39784268", func := "loop.example/g00475/laws.FnExactEncodeLossy", spec := "fnExactEncodeLossy", named := ["unicode/utf8.first", "unicode/utf8.acceptRanges"], apart := false, laid := [("unicode/utf8.acceptRanges", laid_unicode_utf8_acceptRanges), ("unicode/utf8.first", laid_unicode_utf8_first)], narrowed := true }
def FnExactEncodeLossyUptoSaid : Prop := fnExactEncodeLossyUptoRow.holds Tryd.pinned (OpenSpec.upto fnExactEncodeLossySpec)

/-- 'laws.FnExactCellText', WHERE WHAT IT READS IS OF BULK AT MOST 1048576: true; the input reads as it did. -/
def fnExactCellTextUptoRow : OpenClaim := { program := "ytpmimhbnmjffpaadoor", sum := "b427476d6911adcca07cc9329b332e22e458b0d8860f943d67ed70bb39784268", func := "loop.example/g00475/laws.FnExactCellText", spec := "fnExactCellText", named := ["unicode/utf8.first", "unicode/utf8.acceptRanges"], apart := false, laid := [("unicode/utf8.acceptRanges", laid_unicode_utf8_acceptRanges), ("unicode/utf8.first", laid_unicode_utf8_first)], narrowed := true }
def FnExactCellTextUptoSaid : Prop := fnExactCellTextUptoRow.holds Tryd.pinned (OpenSpec.upto fnExactCellTextSpec)

/-- 'laws.FnExactScore', WHERE WHAT IT READS IS OF BULK AT MOST 1048576: true; the input reads as it did. -/
def fnExactScoreUptoRow : OpenClaim := { program := "ytpmimhbnmjffpaadoor", sum := "b427476d6911adcca07cc9329b332e22e458b0d8860f943d67ed70bb39784268", func := "loop.example/g00475/laws.FnExactScore", spec := "fnExactScore", named := ["unicode/utf8.first", "unicode/utf8.acceptRanges"], apart := false, laid := [("unicode/utf8.acceptRanges", laid_unicode_utf8_acceptRanges), ("unicode/utf8.first", laid_unicode_utf8_first)], narrowed := true }
def FnExactScoreUptoSaid : Prop := fnExactScoreUptoRow.holds Tryd.pinned (OpenSpec.upto fnExactScoreSpec)

/-- 'laws.FnExactFeed', WHERE WHAT IT READS IS OF BULK AT MOST 1048576: true; the input reads as it did. -/
def fnExactFeedUptoRow : OpenClaim := { program := "ytpmimhbnmjffpaadoor", sum := "b427476d6911adcca07cc9329b332e22e458b0d8860f943d67ed70bb39784268", func := "loop.example/g00475/laws.FnExactFeed", spec := "fnExactFeed", named := ["unicode/utf8.first", "unicode/utf8.acceptRanges"], apart := false, laid := [("unicode/utf8.acceptRanges", laid_unicode_utf8_acceptRanges), ("unicode/utf8.first", laid_unicode_utf8_first)], narrowed := true }
def FnExactFeedUptoSaid : Prop := fnExactFeedUptoRow.holds Tryd.pinned (OpenSpec.upto fnExactFeedSpec)

/-- 'laws.FnExactDetect', WHERE WHAT IT READS IS OF BULK AT MOST 1048576: true; the input reads as it did. -/
def fnExactDetectUptoRow : OpenClaim := { program := "ytpmimhbnmjffpaadoor", sum := "b427476d6911adcca07cc9329b332e22e458b0d8860f943d67ed70bb39784268", func := "loop.example/g00475/laws.FnExactDetect", spec := "fnExactDetect", named := ["unicode/utf8.first", "unicode/utf8.acceptRanges"], apart := false, laid := [("unicode/utf8.acceptRanges", laid_unicode_utf8_acceptRanges), ("unicode/utf8.first", laid_unicode_utf8_first)], narrowed := true }
def FnExactDetectUptoSaid : Prop := fnExactDetectUptoRow.holds Tryd.pinned (OpenSpec.upto fnExactDetectSpec)

/-- 'laws.FnStreams', WHERE WHAT IT READS IS OF BULK AT MOST 1048576: true; the input reads as it did. -/
def fnStreamsUptoRow : OpenClaim := { program := "ytpmimhbnmjffpaadoor", sum := "b427476d6911adcca07cc9329b332e22e458b0d8860f943d67ed70bb39784268", func := "loop.example/g00475/laws.FnStreams", spec := "fnStreams", named := ["unicode/utf8.first", "unicode/utf8.acceptRanges"], apart := false, laid := [("unicode/utf8.acceptRanges", laid_unicode_utf8_acceptRanges), ("unicode/utf8.first", laid_unicode_utf8_first)], narrowed := true }
def FnStreamsUptoSaid : Prop := fnStreamsUptoRow.holds Tryd.pinned (OpenSpec.upto fnStreamsSpec)

/-- 'laws.FnStreamsBent', WHERE WHAT IT READS IS OF BULK AT MOST 1048576: true; the input reads as it did. -/
def fnStreamsBentUptoRow : OpenClaim := { program := "ytpmimhbnmjffpaadoor", sum := "b427476d6911adcca07cc9329b332e22e458b0d8860f943d67ed70bb39784268", func := "loop.example/g00475/laws.FnStreamsBent", spec := "fnStreamsBent", named := ["unicode/utf8.first", "unicode/utf8.acceptRanges"], apart := false, laid := [("unicode/utf8.acceptRanges", laid_unicode_utf8_acceptRanges), ("unicode/utf8.first", laid_unicode_utf8_first)], narrowed := true }
def FnStreamsBentUptoSaid : Prop := fnStreamsBentUptoRow.holds Tryd.pinned (OpenSpec.upto fnStreamsBentSpec)

/-- 'laws.FnJoined', WHERE WHAT IT READS IS OF BULK AT MOST 1048576: true; the input reads as it did. -/
def fnJoinedUptoRow : OpenClaim := { program := "ytpmimhbnmjffpaadoor", sum := "b427476d6911adcca07cc9329b332e22e458b0d8860f943d67ed70bb39784268", func := "loop.example/g00475/laws.FnJoined", spec := "fnJoined", named := ["unicode/utf8.first", "unicode/utf8.acceptRanges"], apart := false, laid := [("unicode/utf8.acceptRanges", laid_unicode_utf8_acceptRanges), ("unicode/utf8.first", laid_unicode_utf8_first)], narrowed := true }
def FnJoinedUptoSaid : Prop := fnJoinedUptoRow.holds Tryd.pinned (OpenSpec.upto fnJoinedSpec)

/-- 'laws.FnDetects', WHERE WHAT IT READS IS OF BULK AT MOST 1048576: true; the input reads as it did. -/
def fnDetectsUptoRow : OpenClaim := { program := "ytpmimhbnmjffpaadoor", sum := "b427476d6911adcca07cc9329b332e22e458b0d8860f943d67ed70bb39784268", func := "loop.example/g00475/laws.FnDetects", spec := "fnDetects", named := ["unicode/utf8.first", "unicode/utf8.acceptRanges"], apart := false, laid := [("unicode/utf8.acceptRanges", laid_unicode_utf8_acceptRanges), ("unicode/utf8.first", laid_unicode_utf8_first)], narrowed := true }
def FnDetectsUptoSaid : Prop := fnDetectsUptoRow.holds Tryd.pinned (OpenSpec.upto fnDetectsSpec)

/-- 'laws.FnCodes', WHERE WHAT IT READS IS OF BULK AT MOST 1048576: true; the input reads as it did. -/
def fnCodesUptoRow : OpenClaim := { program := "ytpmimhbnmjffpaadoor", sum := "b427476d6911adcca07cc9329b332e22e458b0d8860f943d67ed70bb39784268", func := "loop.example/g00475/laws.FnCodes", spec := "fnCodes", named := ["unicode/utf8.first", "unicode/utf8.acceptRanges"], apart := false, laid := [("unicode/utf8.acceptRanges", laid_unicode_utf8_acceptRanges), ("unicode/utf8.first", laid_unicode_utf8_first)], narrowed := true }
def FnCodesUptoSaid : Prop := fnCodesUptoRow.holds Tryd.pinned (OpenSpec.upto fnCodesSpec)

/-- 'laws.FnLossy', WHERE WHAT IT READS IS OF BULK AT MOST 1048576: true; the input reads as it did. -/
def fnLossyUptoRow : OpenClaim := { program := "ytpmimhbnmjffpaadoor", sum := "b427476d6911adcca07cc9329b332e22e458b0d8860f943d67ed70bb39784268", func := "loop.example/g00475/laws.FnLossy", spec := "fnLossy", named := ["unicode/utf8.first", "unicode/utf8.acceptRanges"], apart := false, laid := [("unicode/utf8.acceptRanges", laid_unicode_utf8_acceptRanges), ("unicode/utf8.first", laid_unicode_utf8_first)], narrowed := true }
def FnLossyUptoSaid : Prop := fnLossyUptoRow.holds Tryd.pinned (OpenSpec.upto fnLossySpec)

end Rows
end Go.Proofs.YtpmimhbnmjffpaaDoor
