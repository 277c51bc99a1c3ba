/-
  No cell of these rows narrows 'for every input' (looked for: loops, veiled, ifaces, maps, wideKeys, modest, calm, conditions, laid).
  DERIVED. THE GIVEN ROWS OF THIS SEAT. 12 by the template 'for every input the law returns true; each argument reads behind the call as it read before'; 0 by the template 'total and deterministic' (their statements: YtajcddlhifhefaaTotals.lean).
  GIVEN WITH THE SEED: the statements are not yours to turn. If you find one false, say at which input.
  Laid BY PROGRAM, IN A SANDBOX (cutbox-rows.mjs): the forced cells as the released guide's own fill.sh prints them over the translation 3886e05e2a48ae44… (all of the seat's roots in one cut). By AI agents, Wed Nov 11 2026. No macro, syntax, notation, axiom, sorry.
-/
import Derived.Test.YtajcddlhifhefaaChecked
import GoSem.Claim
import GoSem.ClaimJoined
import GoSem.ClaimMapViews
import Derived.JoinedTies
import Derived.KernelRfl
namespace Go.Proofs.Ytajcddlhifhefaa
/- THE CELL 'sum', in the pinned program and in every row, IS THE sha256 OF THE DUMP (.gsa) THAT YtajcddlhifhefaaProg.lean LOADS. Nothing in Lean hashes anything: it is a label: what it is worth is what the hold of that sum in a sandbox is worth. -/
noncomputable def Try.pinned : Pinned := { name := "ytajcddlhifhefaa", sum := "3886e05e2a48ae44302c44f79e7ea93502618ab7acc3d0404a566a5cfed1c82f", checked := Try.checked }
namespace Rows
def none {H : Type} : Left H := { results := [], args := [] }

/-- 'laws.FnExactConstants': WHATEVER THE INPUT: true; the input reads as it did. -/
def fnExactConstantsSpec : ChangeSpec := { name := "fnExactConstants", fn := fun _ => fun
  | [] => { results := [.lit (.bool true)], args := [] }
  | _ => none }
def fnExactConstantsRow : OpenClaim := { program := "ytajcddlhifhefaa", sum := "3886e05e2a48ae44302c44f79e7ea93502618ab7acc3d0404a566a5cfed1c82f", func := "loop.example/g00475/laws.FnExactConstants", spec := "fnExactConstants", apart := false }
def FnExactConstantsSaid : Prop := fnExactConstantsRow.holds Try.pinned (OpenSpec.ofChange fnExactConstantsSpec)

/-- ITS FALSE NEIGHBOUR: 'it returns false'. Refute it at one input. -/
def fnExactConstantsWrong : ChangeSpec := { name := "fnExactConstants", fn := fun _ => fun
  | [] => { results := [.lit (.bool false)], args := [] }
  | _ => none }
def FnExactConstantsWrongFalsely : Prop := fnExactConstantsRow.holds Try.pinned (OpenSpec.ofChange fnExactConstantsWrong)

/-- 'laws.FnExactSignOk': WHATEVER THE INPUT: true; the input reads as it did. -/
def fnExactSignOkSpec : ChangeSpec := { name := "fnExactSignOk", fn := fun _ => fun
  | [d] => { results := [.lit (.bool true)], args := [d] }
  | _ => none }
def fnExactSignOkRow : OpenClaim := { program := "ytajcddlhifhefaa", sum := "3886e05e2a48ae44302c44f79e7ea93502618ab7acc3d0404a566a5cfed1c82f", func := "loop.example/g00475/laws.FnExactSignOk", spec := "fnExactSignOk", apart := false }
def FnExactSignOkSaid : Prop := fnExactSignOkRow.holds Try.pinned (OpenSpec.ofChange fnExactSignOkSpec)

/-- ITS FALSE NEIGHBOUR: 'it returns false'. Refute it at one input. -/
def fnExactSignOkWrong : ChangeSpec := { name := "fnExactSignOk", fn := fun _ => fun
  | [d] => { results := [.lit (.bool false)], args := [d] }
  | _ => none }
def FnExactSignOkWrongFalsely : Prop := fnExactSignOkRow.holds Try.pinned (OpenSpec.ofChange fnExactSignOkWrong)

/-- 'laws.FnExactCsName': WHATEVER THE INPUT: true; the input reads as it did. -/
def fnExactCsNameSpec : ChangeSpec := { name := "fnExactCsName", fn := fun _ => fun
  | [d] => { results := [.lit (.bool true)], args := [d] }
  | _ => none }
def fnExactCsNameRow : OpenClaim := { program := "ytajcddlhifhefaa", sum := "3886e05e2a48ae44302c44f79e7ea93502618ab7acc3d0404a566a5cfed1c82f", func := "loop.example/g00475/laws.FnExactCsName", spec := "fnExactCsName", apart := false }
def FnExactCsNameSaid : Prop := fnExactCsNameRow.holds Try.pinned (OpenSpec.ofChange fnExactCsNameSpec)

/-- ITS FALSE NEIGHBOUR: 'it returns false'. Refute it at one input. -/
def fnExactCsNameWrong : ChangeSpec := { name := "fnExactCsName", fn := fun _ => fun
  | [d] => { results := [.lit (.bool false)], args := [d] }
  | _ => none }
def FnExactCsNameWrongFalsely : Prop := fnExactCsNameRow.holds Try.pinned (OpenSpec.ofChange fnExactCsNameWrong)

/-- 'laws.FnExactNameOk': WHATEVER THE INPUT: true; the input reads as it did. -/
def fnExactNameOkSpec : ChangeSpec := { name := "fnExactNameOk", fn := fun _ => fun
  | [d] => { results := [.lit (.bool true)], args := [d] }
  | _ => none }
def fnExactNameOkRow : OpenClaim := { program := "ytajcddlhifhefaa", sum := "3886e05e2a48ae44302c44f79e7ea93502618ab7acc3d0404a566a5cfed1c82f", func := "loop.example/g00475/laws.FnExactNameOk", spec := "fnExactNameOk", apart := false }
def FnExactNameOkSaid : Prop := fnExactNameOkRow.holds Try.pinned (OpenSpec.ofChange fnExactNameOkSpec)

/-- ITS FALSE NEIGHBOUR: 'it returns false'. Refute it at one input. -/
def fnExactNameOkWrong : ChangeSpec := { name := "fnExactNameOk", fn := fun _ => fun
  | [d] => { results := [.lit (.bool false)], args := [d] }
  | _ => none }
def FnExactNameOkWrongFalsely : Prop := fnExactNameOkRow.holds Try.pinned (OpenSpec.ofChange fnExactNameOkWrong)

/-- 'laws.FnExactPairSign': WHATEVER THE INPUT: true; the input reads as it did. -/
def fnExactPairSignSpec : ChangeSpec := { name := "fnExactPairSign", fn := fun _ => fun
  | [d1, d2] => { results := [.lit (.bool true)], args := [d1, d2] }
  | _ => none }
def fnExactPairSignRow : OpenClaim := { program := "ytajcddlhifhefaa", sum := "3886e05e2a48ae44302c44f79e7ea93502618ab7acc3d0404a566a5cfed1c82f", func := "loop.example/g00475/laws.FnExactPairSign", spec := "fnExactPairSign", apart := false }
def FnExactPairSignSaid : Prop := fnExactPairSignRow.holds Try.pinned (OpenSpec.ofChange fnExactPairSignSpec)

/-- ITS FALSE NEIGHBOUR: 'it returns false'. Refute it at one input. -/
def fnExactPairSignWrong : ChangeSpec := { name := "fnExactPairSign", fn := fun _ => fun
  | [d1, d2] => { results := [.lit (.bool false)], args := [d1, d2] }
  | _ => none }
def FnExactPairSignWrongFalsely : Prop := fnExactPairSignRow.holds Try.pinned (OpenSpec.ofChange fnExactPairSignWrong)

/-- 'laws.FnExactSignPair': WHATEVER THE INPUT: true; the input reads as it did. -/
def fnExactSignPairSpec : ChangeSpec := { name := "fnExactSignPair", fn := fun _ => fun
  | [d] => { results := [.lit (.bool true)], args := [d] }
  | _ => none }
def fnExactSignPairRow : OpenClaim := { program := "ytajcddlhifhefaa", sum := "3886e05e2a48ae44302c44f79e7ea93502618ab7acc3d0404a566a5cfed1c82f", func := "loop.example/g00475/laws.FnExactSignPair", spec := "fnExactSignPair", apart := false }
def FnExactSignPairSaid : Prop := fnExactSignPairRow.holds Try.pinned (OpenSpec.ofChange fnExactSignPairSpec)

/-- ITS FALSE NEIGHBOUR: 'it returns false'. Refute it at one input. -/
def fnExactSignPairWrong : ChangeSpec := { name := "fnExactSignPair", fn := fun _ => fun
  | [d] => { results := [.lit (.bool false)], args := [d] }
  | _ => none }
def FnExactSignPairWrongFalsely : Prop := fnExactSignPairRow.holds Try.pinned (OpenSpec.ofChange fnExactSignPairWrong)

/-- 'laws.FnExactWeight': WHATEVER THE INPUT: true; the input reads as it did. -/
def fnExactWeightSpec : ChangeSpec := { name := "fnExactWeight", fn := fun _ => fun
  | [d] => { results := [.lit (.bool true)], args := [d] }
  | _ => none }
def fnExactWeightRow : OpenClaim := { program := "ytajcddlhifhefaa", sum := "3886e05e2a48ae44302c44f79e7ea93502618ab7acc3d0404a566a5cfed1c82f", func := "loop.example/g00475/laws.FnExactWeight", spec := "fnExactWeight", apart := false }
def FnExactWeightSaid : Prop := fnExactWeightRow.holds Try.pinned (OpenSpec.ofChange fnExactWeightSpec)

/-- ITS FALSE NEIGHBOUR: 'it returns false'. Refute it at one input. -/
def fnExactWeightWrong : ChangeSpec := { name := "fnExactWeight", fn := fun _ => fun
  | [d] => { results := [.lit (.bool false)], args := [d] }
  | _ => none }
def FnExactWeightWrongFalsely : Prop := fnExactWeightRow.holds Try.pinned (OpenSpec.ofChange fnExactWeightWrong)

/-- 'laws.FnExactGetW': WHATEVER THE INPUT: true; the input reads as it did. -/
def fnExactGetWSpec : ChangeSpec := { name := "fnExactGetW", fn := fun _ => fun
  | [d1, d2] => { results := [.lit (.bool true)], args := [d1, d2] }
  | _ => none }
def fnExactGetWRow : OpenClaim := { program := "ytajcddlhifhefaa", sum := "3886e05e2a48ae44302c44f79e7ea93502618ab7acc3d0404a566a5cfed1c82f", func := "loop.example/g00475/laws.FnExactGetW", spec := "fnExactGetW", apart := false }
def FnExactGetWSaid : Prop := fnExactGetWRow.holds Try.pinned (OpenSpec.ofChange fnExactGetWSpec)

/-- ITS FALSE NEIGHBOUR: 'it returns false'. Refute it at one input. -/
def fnExactGetWWrong : ChangeSpec := { name := "fnExactGetW", fn := fun _ => fun
  | [d1, d2] => { results := [.lit (.bool false)], args := [d1, d2] }
  | _ => none }
def FnExactGetWWrongFalsely : Prop := fnExactGetWRow.holds Try.pinned (OpenSpec.ofChange fnExactGetWWrong)

/-- 'laws.FnExactCsOf': WHATEVER THE INPUT: true; the input reads as it did. -/
def fnExactCsOfSpec : ChangeSpec := { name := "fnExactCsOf", fn := fun _ => fun
  | [d] => { results := [.lit (.bool true)], args := [d] }
  | _ => none }
def fnExactCsOfRow : OpenClaim := { program := "ytajcddlhifhefaa", sum := "3886e05e2a48ae44302c44f79e7ea93502618ab7acc3d0404a566a5cfed1c82f", func := "loop.example/g00475/laws.FnExactCsOf", spec := "fnExactCsOf", apart := false }
def FnExactCsOfSaid : Prop := fnExactCsOfRow.holds Try.pinned (OpenSpec.ofChange fnExactCsOfSpec)

/-- ITS FALSE NEIGHBOUR: 'it returns false'. Refute it at one input. -/
def fnExactCsOfWrong : ChangeSpec := { name := "fnExactCsOf", fn := fun _ => fun
  | [d] => { results := [.lit (.bool false)], args := [d] }
  | _ => none }
def FnExactCsOfWrongFalsely : Prop := fnExactCsOfRow.holds Try.pinned (OpenSpec.ofChange fnExactCsOfWrong)

/-- 'laws.FnExactSum': WHATEVER THE INPUT: true; the input reads as it did. -/
def fnExactSumSpec : ChangeSpec := { name := "fnExactSum", fn := fun _ => fun
  | [d] => { results := [.lit (.bool true)], args := [d] }
  | _ => none }
def fnExactSumRow : OpenClaim := { program := "ytajcddlhifhefaa", sum := "3886e05e2a48ae44302c44f79e7ea93502618ab7acc3d0404a566a5cfed1c82f", func := "loop.example/g00475/laws.FnExactSum", spec := "fnExactSum", apart := false }
def FnExactSumSaid : Prop := fnExactSumRow.holds Try.pinned (OpenSpec.ofChange fnExactSumSpec)

/-- ITS FALSE NEIGHBOUR: 'it returns false'. Refute it at one input. -/
def fnExactSumWrong : ChangeSpec := { name := "fnExactSum", fn := fun _ => fun
  | [d] => { results := [.lit (.bool false)], args := [d] }
  | _ => none }
def FnExactSumWrongFalsely : Prop := fnExactSumRow.holds Try.pinned (OpenSpec.ofChange fnExactSumWrong)

/-- 'laws.FnExactGetText': WHATEVER THE INPUT: true; the input reads as it did. -/
def fnExactGetTextSpec : ChangeSpec := { name := "fnExactGetText", fn := fun _ => fun
  | [d1, d2] => { results := [.lit (.bool true)], args := [d1, d2] }
  | _ => none }
def fnExactGetTextRow : OpenClaim := { program := "ytajcddlhifhefaa", sum := "3886e05e2a48ae44302c44f79e7ea93502618ab7acc3d0404a566a5cfed1c82f", func := "loop.example/g00475/laws.FnExactGetText", spec := "fnExactGetText", apart := false }
def FnExactGetTextSaid : Prop := fnExactGetTextRow.holds Try.pinned (OpenSpec.ofChange fnExactGetTextSpec)

/-- ITS FALSE NEIGHBOUR: 'it returns false'. Refute it at one input. -/
def fnExactGetTextWrong : ChangeSpec := { name := "fnExactGetText", fn := fun _ => fun
  | [d1, d2] => { results := [.lit (.bool false)], args := [d1, d2] }
  | _ => none }
def FnExactGetTextWrongFalsely : Prop := fnExactGetTextRow.holds Try.pinned (OpenSpec.ofChange fnExactGetTextWrong)

/-- 'laws.FnExactPutW': WHATEVER THE INPUT: true; the input reads as it did. -/
def fnExactPutWSpec : ChangeSpec := { name := "fnExactPutW", fn := fun _ => fun
  | [d1, d2] => { results := [.lit (.bool true)], args := [d1, d2] }
  | _ => none }
def fnExactPutWRow : OpenClaim := { program := "ytajcddlhifhefaa", sum := "3886e05e2a48ae44302c44f79e7ea93502618ab7acc3d0404a566a5cfed1c82f", func := "loop.example/g00475/laws.FnExactPutW", spec := "fnExactPutW", apart := false }
def FnExactPutWSaid : Prop := fnExactPutWRow.holds Try.pinned (OpenSpec.ofChange fnExactPutWSpec)

/-- ITS FALSE NEIGHBOUR: 'it returns false'. Refute it at one input. -/
def fnExactPutWWrong : ChangeSpec := { name := "fnExactPutW", fn := fun _ => fun
  | [d1, d2] => { results := [.lit (.bool false)], args := [d1, d2] }
  | _ => none }
def FnExactPutWWrongFalsely : Prop := fnExactPutWRow.holds Try.pinned (OpenSpec.ofChange fnExactPutWWrong)

/- THE SECOND FORM. 'bulk': how many values and letters a reading holds, each counted each time it is reached (what is shared counts as often as it is met; a slice's spare places count too). A statement '..UptoSaid' is the law's where the arguments, and the package variables that the reading takes, are together of bulk at most 1048576: NARROWER than '..Said'. Prove '..Said' where nothing that the law and all that it calls make is longer than what came in: it says more and counts as full. Else prove '..UptoSaid'. A law counts once. -/
mutual
def uptoBulk {H : Type} : DataW H → Nat
  | .lit (.string bytes) => bytes.length + 1
  | .lit _ => 1
  | .nil => 1
  | .ptr d => uptoBulk d + 1
  | .slice elems spare => uptoBulkAll elems + uptoBulkAll spare + 1
  | .agg parts => uptoBulkAll parts + 1
  | .iface _ d => uptoBulk d + 1
  | .map entries => uptoBulkEntries entries + 1
  | .held _ => 1
def uptoBulkAll {H : Type} : List (DataW H) → Nat
  | [] => 0
  | d :: r => uptoBulk d + uptoBulkAll r
def uptoBulkEntries {H : Type} : List (Lit × DataW H) → Nat
  | [] => 0
  | x :: r => uptoBulkEntry x + uptoBulkEntries r
def uptoBulkEntry {H : Type} : Lit × DataW H → Nat
  | (.string bytes, d) => bytes.length + uptoBulk d + 1
  | (_, d) => uptoBulk d + 1
 end
def uptoSmall : (H : Type) → List (DataW H) → Bool := fun _ ds => decide (uptoBulkAll ds ≤ 1048576)
def OpenSpec.upto (s : _root_.Go.ChangeSpec) : _root_.Go.OpenSpec := { _root_.Go.OpenSpec.ofChange s with cond := some uptoSmall }

/-- 'laws.FnExactConstants', WHERE WHAT IT READS IS OF BULK AT MOST 1048576: true; the input reads as it did. -/
def fnExactConstantsUptoRow : OpenClaim := { program := "ytajcddlhifhefaa", sum := "3886e05e2a48ae44302c44f79e7ea93502618ab7acc3d0404a566a5cfed1c82f", func := "loop.example/g00475/laws.FnExactConstants", spec := "fnExactConstants", apart := false, narrowed := true }
def FnExactConstantsUptoSaid : Prop := fnExactConstantsUptoRow.holds Try.pinned (OpenSpec.upto fnExactConstantsSpec)

/-- 'laws.FnExactSignOk', WHERE WHAT IT READS IS OF BULK AT MOST 1048576: true; the input reads as it did. -/
def fnExactSignOkUptoRow : OpenClaim := { program := "ytajcddlhifhefaa", sum := "3886e05e2a48ae44302c44f79e7ea93502618ab7acc3d0404a566a5cfed1c82f", func := "loop.example/g00475/laws.FnExactSignOk", spec := "fnExactSignOk", apart := false, narrowed := true }
def FnExactSignOkUptoSaid : Prop := fnExactSignOkUptoRow.holds Try.pinned (OpenSpec.upto fnExactSignOkSpec)

/-- 'laws.FnExactCsName', WHERE WHAT IT READS IS OF BULK AT MOST 1048576: true; the input reads as it did. -/
def fnExactCsNameUptoRow : OpenClaim := { program := "ytajcddlhifhefaa", sum := "3886e05e2a48ae44302c44f79e7ea93502618ab7acc3d0404a566a5cfed1c82f", func := "loop.example/g00475/laws.FnExactCsName", spec := "fnExactCsName", apart := false, narrowed := true }
def FnExactCsNameUptoSaid : Prop := fnExactCsNameUptoRow.holds Try.pinned (OpenSpec.upto fnExactCsNameSpec)

/-- 'laws.FnExactNameOk', WHERE WHAT IT READS IS OF BULK AT MOST 1048576: true; the input reads as it did. -/
def fnExactNameOkUptoRow : OpenClaim := { program := "ytajcddlhifhefaa", sum := "3886e05e2a48ae44302c44f79e7ea93502618ab7acc3d0404a566a5cfed1c82f", func := "loop.example/g00475/laws.FnExactNameOk", spec := "fnExactNameOk", apart := false, narrowed := true }
def FnExactNameOkUptoSaid : Prop := fnExactNameOkUptoRow.holds Try.pinned (OpenSpec.upto fnExactNameOkSpec)

/-- 'laws.FnExactPairSign', WHERE WHAT IT READS IS OF BULK AT MOST 1048576: true; the input reads as it did. -/
def fnExactPairSignUptoRow : OpenClaim := { program := "ytajcddlhifhefaa", sum := "3886e05e2a48ae44302c44f79e7ea93502618ab7acc3d0404a566a5cfed1c82f", func := "loop.example/g00475/laws.FnExactPairSign", spec := "fnExactPairSign", apart := false, narrowed := true }
def FnExactPairSignUptoSaid : Prop := fnExactPairSignUptoRow.holds Try.pinned (OpenSpec.upto fnExactPairSignSpec)

/-- 'laws.FnExactSignPair', WHERE WHAT IT READS IS OF BULK AT MOST 1048576: true; the input reads as it did. -/
def fnExactSignPairUptoRow : OpenClaim := { program := "ytajcddlhifhefaa", sum := "3886e05e2a48ae44302c44f79e7ea93502618ab7acc3d0404a566a5cfed1c82f", func := "loop.example/g00475/laws.FnExactSignPair", spec := "fnExactSignPair", apart := false, narrowed := true }
def FnExactSignPairUptoSaid : Prop := fnExactSignPairUptoRow.holds Try.pinned (OpenSpec.upto fnExactSignPairSpec)

/-- 'laws.FnExactWeight', WHERE WHAT IT READS IS OF BULK AT MOST 1048576: true; the input reads as it did. -/
def fnExactWeightUptoRow : OpenClaim := { program := "ytajcddlhifhefaa", sum := "3886e05e2a48ae44302c44f79e7ea93502618ab7acc3d0404a566a5cfed1c82f", func := "loop.example/g00475/laws.FnExactWeight", spec := "fnExactWeight", apart := false, narrowed := true }
def FnExactWeightUptoSaid : Prop := fnExactWeightUptoRow.holds Try.pinned (OpenSpec.upto fnExactWeightSpec)

/-- 'laws.FnExactGetW', WHERE WHAT IT READS IS OF BULK AT MOST 1048576: true; the input reads as it did. -/
def fnExactGetWUptoRow : OpenClaim := { program := "ytajcddlhifhefaa", sum := "3886e05e2a48ae44302c44f79e7ea93502618ab7acc3d0404a566a5cfed1c82f", func := "loop.example/g00475/laws.FnExactGetW", spec := "fnExactGetW", apart := false, narrowed := true }
def FnExactGetWUptoSaid : Prop := fnExactGetWUptoRow.holds Try.pinned (OpenSpec.upto fnExactGetWSpec)

/-- 'laws.FnExactCsOf', WHERE WHAT IT READS IS OF BULK AT MOST 1048576: true; the input reads as it did. -/
def fnExactCsOfUptoRow : OpenClaim := { program := "ytajcddlhifhefaa", sum := "3886e05e2a48ae44302c44f79e7ea93502618ab7acc3d0404a566a5cfed1c82f", func := "loop.example/g00475/laws.FnExactCsOf", spec := "fnExactCsOf", apart := false, narrowed := true }
def FnExactCsOfUptoSaid : Prop := fnExactCsOfUptoRow.holds Try.pinned (OpenSpec.upto fnExactCsOfSpec)

/-- 'laws.FnExactSum', WHERE WHAT IT READS IS OF BULK AT MOST 1048576: true; the input reads as it did. -/
def fnExactSumUptoRow : OpenClaim := { program := "ytajcddlhifhefaa", sum := "3886e05e2a48ae44302c44f79e7ea93502618ab7acc3d0404a566a5cfed1c82f", func := "loop.example/g00475/laws.FnExactSum", spec := "fnExactSum", apart := false, narrowed := true }
def FnExactSumUptoSaid : Prop := fnExactSumUptoRow.holds Try.pinned (OpenSpec.upto fnExactSumSpec)

/-- 'laws.FnExactGetText', WHERE WHAT IT READS IS OF BULK AT MOST 1048576: true; the input reads as it did. -/
def fnExactGetTextUptoRow : OpenClaim := { program := "ytajcddlhifhefaa", sum := "3886e05e2a48ae44302c44f79e7ea93502618ab7acc3d0404a566a5cfed1c82f", func := "loop.example/g00475/laws.FnExactGetText", spec := "fnExactGetText", apart := false, narrowed := true }
def FnExactGetTextUptoSaid : Prop := fnExactGetTextUptoRow.holds Try.pinned (OpenSpec.upto fnExactGetTextSpec)

/-- 'laws.FnExactPutW', WHERE WHAT IT READS IS OF BULK AT MOST 1048576: true; the input reads as it did. -/
def fnExactPutWUptoRow : OpenClaim := { program := "ytajcddlhifhefaa", sum := "3886e05e2a48ae44302c44f79e7ea93502618ab7acc3d0404a566a5cfed1c82f", func := "loop.example/g00475/laws.FnExactPutW", spec := "fnExactPutW", apart := false, narrowed := true }
def FnExactPutWUptoSaid : Prop := fnExactPutWUptoRow.holds Try.pinned (OpenSpec.upto fnExactPutWSpec)

end Rows
end Go.Proofs.Ytajcddlhifhefaa
