/-
  NARROWER THAN 'FOR EVERY INPUT', by the rows' own cells (each row's printed sentence says how): FnExactCount: laid · FnExactDecEnd: laid · FnSigns: laid · FnTexts: laid · FnExactDecode: laid · FnAscii: laid · FnExactDecodeLossy: laid.
  DERIVED. THE GIVEN ROWS OF THIS SEAT. 7 by the template 'for every input the law returns true; each argument reads behind the call as it read before'; 0 by the template 'total and deterministic' (their statements: YtnmncgbegiegfaaDoorTotals.lean).
  GIVEN WITH THE SEED: the statements are not yours to turn. If you find one false, say at which input.
  Laid BY PROGRAM, IN A SANDBOX (cutbox-rows.mjs): the forced cells as the released guide's own fill.sh prints them over the translation 00eeb0754c8dc92a… (all of the seat's roots in one cut). By AI agents, Wed Nov 11 2026. No macro, syntax, notation, axiom, sorry.
-/
import Derived.Test.YtnmncgbegiegfaaDoorChecked
import GoSem.PinnedTables
import GoSem.Claim
import GoSem.ClaimJoined
import GoSem.ClaimMapViews
import Derived.JoinedTies
import Derived.KernelRfl
namespace Go.Proofs.YtnmncgbegiegfaaDoor
/- THE CELL 'sum', in the pinned program and in every row, IS THE sha256 OF THE DUMP (.gsa) THAT YtnmncgbegiegfaaDoorProg.lean LOADS. Nothing in Lean hashes anything: it is a label: what it is worth is what the hold of that sum in a sandbox is worth. -/
noncomputable def Tryd.pinned : Pinned := { name := "ytnmncgbegiegfaadoor", sum := "00eeb0754c8dc92ab573cb7b950162ecd634c34433ea8e5ec24f2a44a6870ce4", checked := Tryd.checked }
namespace Rows
def none {H : Type} : Left H := { results := [], args := [] }

/- WHAT THE LISTED PACKAGE-LEVEL VARIABLES READ AS WHEN THE CALL BEGINS. Each datum BY PROGRAM (the guide's laid-datum.mjs) off the statement by which the dump's own 'gosem.cut.vars' lays the variable. In a bare row this is a premise. The card (YtnmncgbegiegfaaDoorCards.lean) ties it to the program's text. -/
def laid_unicode_utf8_acceptRanges {H : Type} : DataW H := .agg [.agg [.lit (.int .u8 128), .lit (.int .u8 191)], .agg [.lit (.int .u8 160), .lit (.int .u8 191)], .agg [.lit (.int .u8 128), .lit (.int .u8 159)], .agg [.lit (.int .u8 144), .lit (.int .u8 191)], .agg [.lit (.int .u8 128), .lit (.int .u8 143)], .agg [.lit (.int .u8 0), .lit (.int .u8 0)], .agg [.lit (.int .u8 0), .lit (.int .u8 0)], .agg [.lit (.int .u8 0), .lit (.int .u8 0)], .agg [.lit (.int .u8 0), .lit (.int .u8 0)], .agg [.lit (.int .u8 0), .lit (.int .u8 0)], .agg [.lit (.int .u8 0), .lit (.int .u8 0)], .agg [.lit (.int .u8 0), .lit (.int .u8 0)], .agg [.lit (.int .u8 0), .lit (.int .u8 0)], .agg [.lit (.int .u8 0), .lit (.int .u8 0)], .agg [.lit (.int .u8 0), .lit (.int .u8 0)], .agg [.lit (.int .u8 0), .lit (.int .u8 0)]]
/-- One of Go's own tables, pinned by name: the form's constant. -/
def laid_unicode_utf8_first : DataW Unit := Go.Pinned.utf8First

/-- 'laws.FnExactCount': WHATEVER THE INPUT: true; the input reads as it did. -/
def fnExactCountSpec : ChangeSpec := { name := "fnExactCount", fn := fun _ => fun
  | [d] => { results := [.lit (.bool true)], args := [d] }
  | _ => none }
def fnExactCountRow : OpenClaim := { program := "ytnmncgbegiegfaadoor", sum := "00eeb0754c8dc92ab573cb7b950162ecd634c34433ea8e5ec24f2a44a6870ce4", func := "loop.example/g00475/laws.FnExactCount", spec := "fnExactCount", named := ["unicode/utf8.first", "unicode/utf8.acceptRanges"], apart := false, laid := [("unicode/utf8.acceptRanges", laid_unicode_utf8_acceptRanges), ("unicode/utf8.first", laid_unicode_utf8_first)] }
def FnExactCountSaid : Prop := fnExactCountRow.holds Tryd.pinned (OpenSpec.ofChange fnExactCountSpec)

/-- ITS FALSE NEIGHBOUR: 'it returns false'. Refute it at one input. -/
def fnExactCountWrong : ChangeSpec := { name := "fnExactCount", fn := fun _ => fun
  | [d] => { results := [.lit (.bool false)], args := [d] }
  | _ => none }
def FnExactCountWrongFalsely : Prop := fnExactCountRow.holds Tryd.pinned (OpenSpec.ofChange fnExactCountWrong)

/-- 'laws.FnExactDecEnd': WHATEVER THE INPUT: true; the input reads as it did. -/
def fnExactDecEndSpec : ChangeSpec := { name := "fnExactDecEnd", fn := fun _ => fun
  | [d] => { results := [.lit (.bool true)], args := [d] }
  | _ => none }
def fnExactDecEndRow : OpenClaim := { program := "ytnmncgbegiegfaadoor", sum := "00eeb0754c8dc92ab573cb7b950162ecd634c34433ea8e5ec24f2a44a6870ce4", func := "loop.example/g00475/laws.FnExactDecEnd", spec := "fnExactDecEnd", named := ["unicode/utf8.first", "unicode/utf8.acceptRanges"], apart := false, laid := [("unicode/utf8.acceptRanges", laid_unicode_utf8_acceptRanges), ("unicode/utf8.first", laid_unicode_utf8_first)] }
def FnExactDecEndSaid : Prop := fnExactDecEndRow.holds Tryd.pinned (OpenSpec.ofChange fnExactDecEndSpec)

/-- ITS FALSE NEIGHBOUR: 'it returns false'. Refute it at one input. -/
def fnExactDecEndWrong : ChangeSpec := { name := "fnExactDecEnd", fn := fun _ => fun
  | [d] => { results := [.lit (.bool false)], args := [d] }
  | _ => none }
def FnExactDecEndWrongFalsely : Prop := fnExactDecEndRow.holds Tryd.pinned (OpenSpec.ofChange fnExactDecEndWrong)

/-- 'laws.FnSigns': WHATEVER THE INPUT: true; the input reads as it did. -/
def fnSignsSpec : ChangeSpec := { name := "fnSigns", fn := fun _ => fun
  | [d] => { results := [.lit (.bool true)], args := [d] }
  | _ => none }
def fnSignsRow : OpenClaim := { program := "ytnmncgbegiegfaadoor", sum := "00eeb0754c8dc92ab573cb7b950162ecd634c34433ea8e5ec24f2a44a6870ce4", func := "loop.example/g00475/laws.FnSigns", spec := "fnSigns", named := ["unicode/utf8.first", "unicode/utf8.acceptRanges"], apart := false, laid := [("unicode/utf8.acceptRanges", laid_unicode_utf8_acceptRanges), ("unicode/utf8.first", laid_unicode_utf8_first)] }
def FnSignsSaid : Prop := fnSignsRow.holds Tryd.pinned (OpenSpec.ofChange fnSignsSpec)

/-- ITS FALSE NEIGHBOUR: 'it returns false'. Refute it at one input. -/
def fnSignsWrong : ChangeSpec := { name := "fnSigns", fn := fun _ => fun
  | [d] => { results := [.lit (.bool false)], args := [d] }
  | _ => none }
def FnSignsWrongFalsely : Prop := fnSignsRow.holds Tryd.pinned (OpenSpec.ofChange fnSignsWrong)

/-- 'laws.FnTexts': WHATEVER THE INPUT: true; the input reads as it did. -/
def fnTextsSpec : ChangeSpec := { name := "fnTexts", fn := fun _ => fun
  | [d] => { results := [.lit (.bool true)], args := [d] }
  | _ => none }
def fnTextsRow : OpenClaim := { program := "ytnmncgbegiegfaadoor", sum := "00eeb0754c8dc92ab573cb7b950162ecd634c34433ea8e5ec24f2a44a6870ce4", func := "loop.example/g00475/laws.FnTexts", spec := "fnTexts", named := ["unicode/utf8.first", "unicode/utf8.acceptRanges"], apart := false, laid := [("unicode/utf8.acceptRanges", laid_unicode_utf8_acceptRanges), ("unicode/utf8.first", laid_unicode_utf8_first)] }
def FnTextsSaid : Prop := fnTextsRow.holds Tryd.pinned (OpenSpec.ofChange fnTextsSpec)

/-- ITS FALSE NEIGHBOUR: 'it returns false'. Refute it at one input. -/
def fnTextsWrong : ChangeSpec := { name := "fnTexts", fn := fun _ => fun
  | [d] => { results := [.lit (.bool false)], args := [d] }
  | _ => none }
def FnTextsWrongFalsely : Prop := fnTextsRow.holds Tryd.pinned (OpenSpec.ofChange fnTextsWrong)

/-- 'laws.FnExactDecode': WHATEVER THE INPUT: true; the input reads as it did. -/
def fnExactDecodeSpec : ChangeSpec := { name := "fnExactDecode", fn := fun _ => fun
  | [d1, d2] => { results := [.lit (.bool true)], args := [d1, d2] }
  | _ => none }
def fnExactDecodeRow : OpenClaim := { program := "ytnmncgbegiegfaadoor", sum := "00eeb0754c8dc92ab573cb7b950162ecd634c34433ea8e5ec24f2a44a6870ce4", func := "loop.example/g00475/laws.FnExactDecode", spec := "fnExactDecode", named := ["unicode/utf8.first", "unicode/utf8.acceptRanges"], apart := false, laid := [("unicode/utf8.acceptRanges", laid_unicode_utf8_acceptRanges), ("unicode/utf8.first", laid_unicode_utf8_first)] }
def FnExactDecodeSaid : Prop := fnExactDecodeRow.holds Tryd.pinned (OpenSpec.ofChange fnExactDecodeSpec)

/-- ITS FALSE NEIGHBOUR: 'it returns false'. Refute it at one input. -/
def fnExactDecodeWrong : ChangeSpec := { name := "fnExactDecode", fn := fun _ => fun
  | [d1, d2] => { results := [.lit (.bool false)], args := [d1, d2] }
  | _ => none }
def FnExactDecodeWrongFalsely : Prop := fnExactDecodeRow.holds Tryd.pinned (OpenSpec.ofChange fnExactDecodeWrong)

/-- 'laws.FnAscii': WHATEVER THE INPUT: true; the input reads as it did. -/
def fnAsciiSpec : ChangeSpec := { name := "fnAscii", fn := fun _ => fun
  | [d] => { results := [.lit (.bool true)], args := [d] }
  | _ => none }
def fnAsciiRow : OpenClaim := { program := "ytnmncgbegiegfaadoor", sum := "00eeb0754c8dc92ab573cb7b950162ecd634c34433ea8e5ec24f2a44a6870ce4", func := "loop.example/g00475/laws.FnAscii", spec := "fnAscii", named := ["unicode/utf8.first", "unicode/utf8.acceptRanges"], apart := false, laid := [("unicode/utf8.acceptRanges", laid_unicode_utf8_acceptRanges), ("unicode/utf8.first", laid_unicode_utf8_first)] }
def FnAsciiSaid : Prop := fnAsciiRow.holds Tryd.pinned (OpenSpec.ofChange fnAsciiSpec)

/-- ITS FALSE NEIGHBOUR: 'it returns false'. Refute it at one input. -/
def fnAsciiWrong : ChangeSpec := { name := "fnAscii", fn := fun _ => fun
  | [d] => { results := [.lit (.bool false)], args := [d] }
  | _ => none }
def FnAsciiWrongFalsely : Prop := fnAsciiRow.holds Tryd.pinned (OpenSpec.ofChange fnAsciiWrong)

/-- 'laws.FnExactDecodeLossy': WHATEVER THE INPUT: true; the input reads as it did. -/
def fnExactDecodeLossySpec : ChangeSpec := { name := "fnExactDecodeLossy", fn := fun _ => fun
  | [d1, d2] => { results := [.lit (.bool true)], args := [d1, d2] }
  | _ => none }
def fnExactDecodeLossyRow : OpenClaim := { program := "ytnmncgbegiegfaadoor", sum := "00eeb0754c8dc92ab573cb7b950162ecd634c34433ea8e5ec24f2a44a6870ce4", func := "loop.example/g00475/laws.FnExactDecodeLossy", spec := "fnExactDecodeLossy", named := ["unicode/utf8.first", "unicode/utf8.acceptRanges"], apart := false, laid := [("unicode/utf8.acceptRanges", laid_unicode_utf8_acceptRanges), ("unicode/utf8.first", laid_unicode_utf8_first)] }
def FnExactDecodeLossySaid : Prop := fnExactDecodeLossyRow.holds Tryd.pinned (OpenSpec.ofChange fnExactDecodeLossySpec)

/-- ITS FALSE NEIGHBOUR: 'it returns false'. Refute it at one input. -/
def fnExactDecodeLossyWrong : ChangeSpec := { name := "fnExactDecodeLossy", fn := fun _ => fun
  | [d1, d2] => { results := [.lit (.bool false)], args := [d1, d2] }
  | _ => none }
def FnExactDecodeLossyWrongFalsely : Prop := fnExactDecodeLossyRow.holds Tryd.pinned (OpenSpec.ofChange fnExactDecodeLossyWrong)

/- THE SECOND FORM. 'bulk': how many values and letters a reading holds, each counted each time it is reached (what is shared counts as often as it is met; a slice's spare places count too). A statement '..UptoSaid' is the law's where the arguments, and the package variables that the reading takes, are together of bulk at most 1048576: NARROWER than '..Said'. Prove '..Said' where nothing that the law and all that it calls make is longer than what came in: it says more and counts as full. Else prove '..UptoSaid'. A law counts once. -/
mutual
def uptoBulk {H : Type} : DataW H → Nat
  | .lit (.string bytes) => bytes.length + 1
  | .lit _ => 1
  | .nil => 1
  | .ptr d => uptoBulk d + 1
  | .slice elems spare => uptoBulkAll elems + uptoBulkAll spare + 1
  | .agg parts => uptoBulkAll parts + 1
  | .iface _ d => uptoBulk d + 1
  | .map entries => uptoBulkEntries entries + 1
  | .held _ => 1
def uptoBulkAll {H : Type} : List (DataW H) → Nat
  | [] => 0
  | d :: r => uptoBulk d + uptoBulkAll r
def uptoBulkEntries {H : Type} : List (Lit × DataW H) → Nat
  | [] => 0
  | x :: r => uptoBulkEntry x + uptoBulkEntries r
def uptoBulkEntry {H : Type} : Lit × DataW H → Nat
  | (.string bytes, d) => bytes.length + uptoBulk d + 1
  | (_, d) => uptoBulk d + 1
 end
def uptoSmall : (H : Type) → List (DataW H) → Bool := fun _ ds => decide (uptoBulkAll ds ≤ 1048576)
def OpenSpec.upto (s : _root_.Go.ChangeSpec) : _root_.Go.OpenSpec := { _root_.Go.OpenSpec.ofChange s with cond := some uptoSmall }

/-- 'laws.FnExactCount', WHERE WHAT IT READS IS OF BULK AT MOST 1048576: true; the input reads as it did. -/
def fnExactCountUptoRow : OpenClaim := { program := "ytnmncgbegiegfaadoor", sum := "00eeb0754c8dc92ab573cb7b950162ecd634c34433ea8e5ec24f2a44a6870ce4", func := "loop.example/g00475/laws.FnExactCount", spec := "fnExactCount", named := ["unicode/utf8.first", "unicode/utf8.acceptRanges"], apart := false, laid := [("unicode/utf8.acceptRanges", laid_unicode_utf8_acceptRanges), ("unicode/utf8.first", laid_unicode_utf8_first)], narrowed := true }
def FnExactCountUptoSaid : Prop := fnExactCountUptoRow.holds Tryd.pinned (OpenSpec.upto fnExactCountSpec)

/-- 'laws.FnExactDecEnd', WHERE WHAT IT READS IS OF BULK AT MOST 1048576: true; the input reads as it did. -/
def fnExactDecEndUptoRow : OpenClaim := { program := "ytnmncgbegiegfaadoor", sum := "00eeb0754c8dc92ab573cb7b950162ecd634c34433ea8e5ec24f2a44a6870ce4", func := "loop.example/g00475/laws.FnExactDecEnd", spec := "fnExactDecEnd", named := ["unicode/utf8.first", "unicode/utf8.acceptRanges"], apart := false, laid := [("unicode/utf8.acceptRanges", laid_unicode_utf8_acceptRanges), ("unicode/utf8.first", laid_unicode_utf8_first)], narrowed := true }
def FnExactDecEndUptoSaid : Prop := fnExactDecEndUptoRow.holds Tryd.pinned (OpenSpec.upto fnExactDecEndSpec)

/-- 'laws.FnSigns', WHERE WHAT IT READS IS OF BULK AT MOST 1048576: true; the input reads as it did. -/
def fnSignsUptoRow : OpenClaim := { program := "ytnmncgbegiegfaadoor", sum := "00eeb0754c8dc92ab573cb7b950162ecd634c34433ea8e5ec24f2a44a6870ce4", func := "loop.example/g00475/laws.FnSigns", spec := "fnSigns", named := ["unicode/utf8.first", "unicode/utf8.acceptRanges"], apart := false, laid := [("unicode/utf8.acceptRanges", laid_unicode_utf8_acceptRanges), ("unicode/utf8.first", laid_unicode_utf8_first)], narrowed := true }
def FnSignsUptoSaid : Prop := fnSignsUptoRow.holds Tryd.pinned (OpenSpec.upto fnSignsSpec)

/-- 'laws.FnTexts', WHERE WHAT IT READS IS OF BULK AT MOST 1048576: true; the input reads as it did. -/
def fnTextsUptoRow : OpenClaim := { program := "ytnmncgbegiegfaadoor", sum := "00eeb0754c8dc92ab573cb7b950162ecd634c34433ea8e5ec24f2a44a6870ce4", func := "loop.example/g00475/laws.FnTexts", spec := "fnTexts", named := ["unicode/utf8.first", "unicode/utf8.acceptRanges"], apart := false, laid := [("unicode/utf8.acceptRanges", laid_unicode_utf8_acceptRanges), ("unicode/utf8.first", laid_unicode_utf8_first)], narrowed := true }
def FnTextsUptoSaid : Prop := fnTextsUptoRow.holds Tryd.pinned (OpenSpec.upto fnTextsSpec)

/-- 'laws.FnExactDecode', WHERE WHAT IT READS IS OF BULK AT MOST 1048576: true; the input reads as it did. -/
def fnExactDecodeUptoRow : OpenClaim := { program := "ytnmncgbegiegfaadoor", sum := "00eeb0754c8dc92ab573cb7b950162ecd634c34433ea8e5ec24f2a44a6870ce4", func := "loop.example/g00475/laws.FnExactDecode", spec := "fnExactDecode", named := ["unicode/utf8.first", "unicode/utf8.acceptRanges"], apart := false, laid := [("unicode/utf8.acceptRanges", laid_unicode_utf8_acceptRanges), ("unicode/utf8.first", laid_unicode_utf8_first)], narrowed := true }
def FnExactDecodeUptoSaid : Prop := fnExactDecodeUptoRow.holds Tryd.pinned (OpenSpec.upto fnExactDecodeSpec)

/-- 'laws.FnAscii', WHERE WHAT IT READS IS OF BULK AT MOST 1048576: true; the input reads as it did. -/
def fnAsciiUptoRow : OpenClaim := { program := "ytnmncgbegiegfaadoor", sum := "00eeb0754c8dc92ab573cb7b950162ecd634c34433ea8e5ec24f2a44a6870ce4", func := "loop.example/g00475/laws.FnAscii", spec := "fnAscii", named := ["unicode/utf8.first", "unicode/utf8.acceptRanges"], apart := false, laid := [("unicode/utf8.acceptRanges", laid_unicode_utf8_acceptRanges), ("unicode/utf8.first", laid_unicode_utf8_first)], narrowed := true }
def FnAsciiUptoSaid : Prop := fnAsciiUptoRow.holds Tryd.pinned (OpenSpec.upto fnAsciiSpec)

/-- 'laws.FnExactDecodeLossy', WHERE WHAT IT READS IS OF BULK AT MOST 1048576: true; the input reads as it did. -/
def fnExactDecodeLossyUptoRow : OpenClaim := { program := "ytnmncgbegiegfaadoor", sum := "00eeb0754c8dc92ab573cb7b950162ecd634c34433ea8e5ec24f2a44a6870ce4", func := "loop.example/g00475/laws.FnExactDecodeLossy", spec := "fnExactDecodeLossy", named := ["unicode/utf8.first", "unicode/utf8.acceptRanges"], apart := false, laid := [("unicode/utf8.acceptRanges", laid_unicode_utf8_acceptRanges), ("unicode/utf8.first", laid_unicode_utf8_first)], narrowed := true }
def FnExactDecodeLossyUptoSaid : Prop := fnExactDecodeLossyUptoRow.holds Tryd.pinned (OpenSpec.upto fnExactDecodeLossySpec)

end Rows
end Go.Proofs.YtnmncgbegiegfaaDoor
