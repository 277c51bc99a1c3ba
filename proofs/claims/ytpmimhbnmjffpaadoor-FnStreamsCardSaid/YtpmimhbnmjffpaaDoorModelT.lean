/- How well bytes read in a set, and which set they are found to be of, in plain Lean; no program in sight, no condition beyond those that each lemma names. -/
import Derived.Test.YtpmimhbnmjffpaaDoorModelE
namespace Go.Proofs.YtpmimhbnmjffpaaDoor.Model
open Go.RowKit Go.Proofs.YtpmimhbnmjffpaaDoorW.PrintWords Go.Proofs.YtpmimhbnmjffpaaDoor.Base Go.Proofs.YtpmimhbnmjffpaaDoor.Xw
theorem encs_length (ns : List Int) : (ns.flatMap encOk).length ≤ 4 * ns.length := by
  induction ns with
  | nil => simp
  | cons n ns ih => have := encOk_length n; rw [List.flatMap_cons, List.length_append, List.length_cons]; omega
end Go.Proofs.YtpmimhbnmjffpaaDoor.Model
