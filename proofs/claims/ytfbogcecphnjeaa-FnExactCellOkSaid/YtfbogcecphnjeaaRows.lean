/-
  No cell of these rows narrows 'for every input' (looked for: loops, veiled, ifaces, maps, wideKeys, modest, calm, conditions, laid).
  DERIVED. THE GIVEN ROWS OF THIS SEAT. 8 by the template 'for every input the law returns true; each argument reads behind the call as it read before'; 0 by the template 'total and deterministic' (their statements: YtfbogcecphnjeaaTotals.lean).
  GIVEN WITH THE SEED: the statements are not yours to turn. If you find one false, say at which input.
  Laid BY PROGRAM, IN A SANDBOX (cutbox-rows.mjs): the forced cells as the released guide's own fill.sh prints them over the translation 485a120e0160632f… (all of the seat's roots in one cut). By AI agents, Wed Nov 11 2026. No macro, syntax, notation, axiom, sorry.
-/
import Derived.Test.YtfbogcecphnjeaaChecked
import GoSem.Claim
import GoSem.ClaimJoined
import GoSem.ClaimMapViews
import Derived.JoinedTies
import Derived.KernelRfl
namespace Go.Proofs.Ytfbogcecphnjeaa
/- THE CELL 'sum', in the pinned program and in every row, IS THE sha256 OF THE DUMP (.gsa) THAT YtfbogcecphnjeaaProg.lean LOADS. Nothing in Lean hashes anything: it is a label: what it is worth is what the hold of that sum in a sandbox is worth. -/
noncomputable def Try.pinned : Pinned := { name := "ytfbogcecphnjeaa", sum := "485a120e0160632ff45b05f21c2d1bc208a944e90cf0dc5a08349d3db2006cf5", checked := Try.checked }
namespace Rows
def none {H : Type} : Left H := { results := [], args := [] }

/-- 'laws.FnExactPutSign': WHATEVER THE INPUT: true; the input reads as it did. -/
def fnExactPutSignSpec : ChangeSpec := { name := "fnExactPutSign", fn := fun _ => fun
  | [d1, d2] => { results := [.lit (.bool true)], args := [d1, d2] }
  | _ => none }
def fnExactPutSignRow : OpenClaim := { program := "ytfbogcecphnjeaa", sum := "485a120e0160632ff45b05f21c2d1bc208a944e90cf0dc5a08349d3db2006cf5", func := "loop.example/g00475/laws.FnExactPutSign", spec := "fnExactPutSign", apart := false }
def FnExactPutSignSaid : Prop := fnExactPutSignRow.holds Try.pinned (OpenSpec.ofChange fnExactPutSignSpec)

/-- ITS FALSE NEIGHBOUR: 'it returns false'. Refute it at one input. -/
def fnExactPutSignWrong : ChangeSpec := { name := "fnExactPutSign", fn := fun _ => fun
  | [d1, d2] => { results := [.lit (.bool false)], args := [d1, d2] }
  | _ => none }
def FnExactPutSignWrongFalsely : Prop := fnExactPutSignRow.holds Try.pinned (OpenSpec.ofChange fnExactPutSignWrong)

/-- 'laws.FnExactByteSign': WHATEVER THE INPUT: true; the input reads as it did. -/
def fnExactByteSignSpec : ChangeSpec := { name := "fnExactByteSign", fn := fun _ => fun
  | [d1, d2] => { results := [.lit (.bool true)], args := [d1, d2] }
  | _ => none }
def fnExactByteSignRow : OpenClaim := { program := "ytfbogcecphnjeaa", sum := "485a120e0160632ff45b05f21c2d1bc208a944e90cf0dc5a08349d3db2006cf5", func := "loop.example/g00475/laws.FnExactByteSign", spec := "fnExactByteSign", apart := false }
def FnExactByteSignSaid : Prop := fnExactByteSignRow.holds Try.pinned (OpenSpec.ofChange fnExactByteSignSpec)

/-- ITS FALSE NEIGHBOUR: 'it returns false'. Refute it at one input. -/
def fnExactByteSignWrong : ChangeSpec := { name := "fnExactByteSign", fn := fun _ => fun
  | [d1, d2] => { results := [.lit (.bool false)], args := [d1, d2] }
  | _ => none }
def FnExactByteSignWrongFalsely : Prop := fnExactByteSignRow.holds Try.pinned (OpenSpec.ofChange fnExactByteSignWrong)

/-- 'laws.FnExactDecNew': WHATEVER THE INPUT: true; the input reads as it did. -/
def fnExactDecNewSpec : ChangeSpec := { name := "fnExactDecNew", fn := fun _ => fun
  | [d] => { results := [.lit (.bool true)], args := [d] }
  | _ => none }
def fnExactDecNewRow : OpenClaim := { program := "ytfbogcecphnjeaa", sum := "485a120e0160632ff45b05f21c2d1bc208a944e90cf0dc5a08349d3db2006cf5", func := "loop.example/g00475/laws.FnExactDecNew", spec := "fnExactDecNew", apart := false }
def FnExactDecNewSaid : Prop := fnExactDecNewRow.holds Try.pinned (OpenSpec.ofChange fnExactDecNewSpec)

/-- ITS FALSE NEIGHBOUR: 'it returns false'. Refute it at one input. -/
def fnExactDecNewWrong : ChangeSpec := { name := "fnExactDecNew", fn := fun _ => fun
  | [d] => { results := [.lit (.bool false)], args := [d] }
  | _ => none }
def FnExactDecNewWrongFalsely : Prop := fnExactDecNewRow.holds Try.pinned (OpenSpec.ofChange fnExactDecNewWrong)

/-- 'laws.FnExactCellOk': WHATEVER THE INPUT: true; the input reads as it did. -/
def fnExactCellOkSpec : ChangeSpec := { name := "fnExactCellOk", fn := fun _ => fun
  | [d] => { results := [.lit (.bool true)], args := [d] }
  | _ => none }
def fnExactCellOkRow : OpenClaim := { program := "ytfbogcecphnjeaa", sum := "485a120e0160632ff45b05f21c2d1bc208a944e90cf0dc5a08349d3db2006cf5", func := "loop.example/g00475/laws.FnExactCellOk", spec := "fnExactCellOk", apart := false }
def FnExactCellOkSaid : Prop := fnExactCellOkRow.holds Try.pinned (OpenSpec.ofChange fnExactCellOkSpec)

/-- ITS FALSE NEIGHBOUR: 'it returns false'. Refute it at one input. -/
def fnExactCellOkWrong : ChangeSpec := { name := "fnExactCellOk", fn := fun _ => fun
  | [d] => { results := [.lit (.bool false)], args := [d] }
  | _ => none }
def FnExactCellOkWrongFalsely : Prop := fnExactCellOkRow.holds Try.pinned (OpenSpec.ofChange fnExactCellOkWrong)

/-- 'laws.FnExactPutText': WHATEVER THE INPUT: true; the input reads as it did. -/
def fnExactPutTextSpec : ChangeSpec := { name := "fnExactPutText", fn := fun _ => fun
  | [d1, d2] => { results := [.lit (.bool true)], args := [d1, d2] }
  | _ => none }
def fnExactPutTextRow : OpenClaim := { program := "ytfbogcecphnjeaa", sum := "485a120e0160632ff45b05f21c2d1bc208a944e90cf0dc5a08349d3db2006cf5", func := "loop.example/g00475/laws.FnExactPutText", spec := "fnExactPutText", apart := false }
def FnExactPutTextSaid : Prop := fnExactPutTextRow.holds Try.pinned (OpenSpec.ofChange fnExactPutTextSpec)

/-- ITS FALSE NEIGHBOUR: 'it returns false'. Refute it at one input. -/
def fnExactPutTextWrong : ChangeSpec := { name := "fnExactPutText", fn := fun _ => fun
  | [d1, d2] => { results := [.lit (.bool false)], args := [d1, d2] }
  | _ => none }
def FnExactPutTextWrongFalsely : Prop := fnExactPutTextRow.holds Try.pinned (OpenSpec.ofChange fnExactPutTextWrong)

/-- 'laws.FnExactEucSign': WHATEVER THE INPUT: true; the input reads as it did. -/
def fnExactEucSignSpec : ChangeSpec := { name := "fnExactEucSign", fn := fun _ => fun
  | [d1, d2] => { results := [.lit (.bool true)], args := [d1, d2] }
  | _ => none }
def fnExactEucSignRow : OpenClaim := { program := "ytfbogcecphnjeaa", sum := "485a120e0160632ff45b05f21c2d1bc208a944e90cf0dc5a08349d3db2006cf5", func := "loop.example/g00475/laws.FnExactEucSign", spec := "fnExactEucSign", apart := false }
def FnExactEucSignSaid : Prop := fnExactEucSignRow.holds Try.pinned (OpenSpec.ofChange fnExactEucSignSpec)

/-- ITS FALSE NEIGHBOUR: 'it returns false'. Refute it at one input. -/
def fnExactEucSignWrong : ChangeSpec := { name := "fnExactEucSign", fn := fun _ => fun
  | [d1, d2] => { results := [.lit (.bool false)], args := [d1, d2] }
  | _ => none }
def FnExactEucSignWrongFalsely : Prop := fnExactEucSignRow.holds Try.pinned (OpenSpec.ofChange fnExactEucSignWrong)

/-- 'laws.FnExactPutEuc': WHATEVER THE INPUT: true; the input reads as it did. -/
def fnExactPutEucSpec : ChangeSpec := { name := "fnExactPutEuc", fn := fun _ => fun
  | [d1, d2] => { results := [.lit (.bool true)], args := [d1, d2] }
  | _ => none }
def fnExactPutEucRow : OpenClaim := { program := "ytfbogcecphnjeaa", sum := "485a120e0160632ff45b05f21c2d1bc208a944e90cf0dc5a08349d3db2006cf5", func := "loop.example/g00475/laws.FnExactPutEuc", spec := "fnExactPutEuc", apart := false }
def FnExactPutEucSaid : Prop := fnExactPutEucRow.holds Try.pinned (OpenSpec.ofChange fnExactPutEucSpec)

/-- ITS FALSE NEIGHBOUR: 'it returns false'. Refute it at one input. -/
def fnExactPutEucWrong : ChangeSpec := { name := "fnExactPutEuc", fn := fun _ => fun
  | [d1, d2] => { results := [.lit (.bool false)], args := [d1, d2] }
  | _ => none }
def FnExactPutEucWrongFalsely : Prop := fnExactPutEucRow.holds Try.pinned (OpenSpec.ofChange fnExactPutEucWrong)

/-- 'laws.FnWords': WHATEVER THE INPUT: true; the input reads as it did. -/
def fnWordsSpec : ChangeSpec := { name := "fnWords", fn := fun _ => fun
  | [d] => { results := [.lit (.bool true)], args := [d] }
  | _ => none }
def fnWordsRow : OpenClaim := { program := "ytfbogcecphnjeaa", sum := "485a120e0160632ff45b05f21c2d1bc208a944e90cf0dc5a08349d3db2006cf5", func := "loop.example/g00475/laws.FnWords", spec := "fnWords", apart := false }
def FnWordsSaid : Prop := fnWordsRow.holds Try.pinned (OpenSpec.ofChange fnWordsSpec)

/-- ITS FALSE NEIGHBOUR: 'it returns false'. Refute it at one input. -/
def fnWordsWrong : ChangeSpec := { name := "fnWords", fn := fun _ => fun
  | [d] => { results := [.lit (.bool false)], args := [d] }
  | _ => none }
def FnWordsWrongFalsely : Prop := fnWordsRow.holds Try.pinned (OpenSpec.ofChange fnWordsWrong)

/- THE SECOND FORM. 'bulk': how many values and letters a reading holds, each counted each time it is reached (what is shared counts as often as it is met; a slice's spare places count too). A statement '..UptoSaid' is the law's where the arguments, and the package variables that the reading takes, are together of bulk at most 1048576: NARROWER than '..Said'. Prove '..Said' where nothing that the law and all that it calls make is longer than what came in: it says more and counts as full. Else prove '..UptoSaid'. A law counts once. -/
mutual
def uptoBulk {H : Type} : DataW H → Nat
  | .lit (.string bytes) => bytes.length + 1
  | .lit _ => 1
  | .nil => 1
  | .ptr d => uptoBulk d + 1
  | .slice elems spare => uptoBulkAll elems + uptoBulkAll spare + 1
  | .agg parts => uptoBulkAll parts + 1
  | .iface _ d => uptoBulk d + 1
  | .map entries => uptoBulkEntries entries + 1
  | .held _ => 1
def uptoBulkAll {H : Type} : List (DataW H) → Nat
  | [] => 0
  | d :: r => uptoBulk d + uptoBulkAll r
def uptoBulkEntries {H : Type} : List (Lit × DataW H) → Nat
  | [] => 0
  | x :: r => uptoBulkEntry x + uptoBulkEntries r
def uptoBulkEntry {H : Type} : Lit × DataW H → Nat
  | (.string bytes, d) => bytes.length + uptoBulk d + 1
  | (_, d) => uptoBulk d + 1
 end
def uptoSmall : (H : Type) → List (DataW H) → Bool := fun _ ds => decide (uptoBulkAll ds ≤ 1048576)
def OpenSpec.upto (s : _root_.Go.ChangeSpec) : _root_.Go.OpenSpec := { _root_.Go.OpenSpec.ofChange s with cond := some uptoSmall }

/-- 'laws.FnExactPutSign', WHERE WHAT IT READS IS OF BULK AT MOST 1048576: true; the input reads as it did. -/
def fnExactPutSignUptoRow : OpenClaim := { program := "ytfbogcecphnjeaa", sum := "485a120e0160632ff45b05f21c2d1bc208a944e90cf0dc5a08349d3db2006cf5", func := "loop.example/g00475/laws.FnExactPutSign", spec := "fnExactPutSign", apart := false, narrowed := true }
def FnExactPutSignUptoSaid : Prop := fnExactPutSignUptoRow.holds Try.pinned (OpenSpec.upto fnExactPutSignSpec)

/-- 'laws.FnExactByteSign', WHERE WHAT IT READS IS OF BULK AT MOST 1048576: true; the input reads as it did. -/
def fnExactByteSignUptoRow : OpenClaim := { program := "ytfbogcecphnjeaa", sum := "485a120e0160632ff45b05f21c2d1bc208a944e90cf0dc5a08349d3db2006cf5", func := "loop.example/g00475/laws.FnExactByteSign", spec := "fnExactByteSign", apart := false, narrowed := true }
def FnExactByteSignUptoSaid : Prop := fnExactByteSignUptoRow.holds Try.pinned (OpenSpec.upto fnExactByteSignSpec)

/-- 'laws.FnExactDecNew', WHERE WHAT IT READS IS OF BULK AT MOST 1048576: true; the input reads as it did. -/
def fnExactDecNewUptoRow : OpenClaim := { program := "ytfbogcecphnjeaa", sum := "485a120e0160632ff45b05f21c2d1bc208a944e90cf0dc5a08349d3db2006cf5", func := "loop.example/g00475/laws.FnExactDecNew", spec := "fnExactDecNew", apart := false, narrowed := true }
def FnExactDecNewUptoSaid : Prop := fnExactDecNewUptoRow.holds Try.pinned (OpenSpec.upto fnExactDecNewSpec)

/-- 'laws.FnExactCellOk', WHERE WHAT IT READS IS OF BULK AT MOST 1048576: true; the input reads as it did. -/
def fnExactCellOkUptoRow : OpenClaim := { program := "ytfbogcecphnjeaa", sum := "485a120e0160632ff45b05f21c2d1bc208a944e90cf0dc5a08349d3db2006cf5", func := "loop.example/g00475/laws.FnExactCellOk", spec := "fnExactCellOk", apart := false, narrowed := true }
def FnExactCellOkUptoSaid : Prop := fnExactCellOkUptoRow.holds Try.pinned (OpenSpec.upto fnExactCellOkSpec)

/-- 'laws.FnExactPutText', WHERE WHAT IT READS IS OF BULK AT MOST 1048576: true; the input reads as it did. -/
def fnExactPutTextUptoRow : OpenClaim := { program := "ytfbogcecphnjeaa", sum := "485a120e0160632ff45b05f21c2d1bc208a944e90cf0dc5a08349d3db2006cf5", func := "loop.example/g00475/laws.FnExactPutText", spec := "fnExactPutText", apart := false, narrowed := true }
def FnExactPutTextUptoSaid : Prop := fnExactPutTextUptoRow.holds Try.pinned (OpenSpec.upto fnExactPutTextSpec)

/-- 'laws.FnExactEucSign', WHERE WHAT IT READS IS OF BULK AT MOST 1048576: true; the input reads as it did. -/
def fnExactEucSignUptoRow : OpenClaim := { program := "ytfbogcecphnjeaa", sum := "485a120e0160632ff45b05f21c2d1bc208a944e90cf0dc5a08349d3db2006cf5", func := "loop.example/g00475/laws.FnExactEucSign", spec := "fnExactEucSign", apart := false, narrowed := true }
def FnExactEucSignUptoSaid : Prop := fnExactEucSignUptoRow.holds Try.pinned (OpenSpec.upto fnExactEucSignSpec)

/-- 'laws.FnExactPutEuc', WHERE WHAT IT READS IS OF BULK AT MOST 1048576: true; the input reads as it did. -/
def fnExactPutEucUptoRow : OpenClaim := { program := "ytfbogcecphnjeaa", sum := "485a120e0160632ff45b05f21c2d1bc208a944e90cf0dc5a08349d3db2006cf5", func := "loop.example/g00475/laws.FnExactPutEuc", spec := "fnExactPutEuc", apart := false, narrowed := true }
def FnExactPutEucUptoSaid : Prop := fnExactPutEucUptoRow.holds Try.pinned (OpenSpec.upto fnExactPutEucSpec)

/-- 'laws.FnWords', WHERE WHAT IT READS IS OF BULK AT MOST 1048576: true; the input reads as it did. -/
def fnWordsUptoRow : OpenClaim := { program := "ytfbogcecphnjeaa", sum := "485a120e0160632ff45b05f21c2d1bc208a944e90cf0dc5a08349d3db2006cf5", func := "loop.example/g00475/laws.FnWords", spec := "fnWords", apart := false, narrowed := true }
def FnWordsUptoSaid : Prop := fnWordsUptoRow.holds Try.pinned (OpenSpec.upto fnWordsSpec)

end Rows
end Go.Proofs.Ytfbogcecphnjeaa
