/- How well bytes read in a set, and which set they are found to be of, in plain Lean; no program in sight, no condition beyond those that each lemma names. -/
import Derived.Test.YtpmimhbnmjffpaaDoorModelE
namespace Go.Proofs.YtpmimhbnmjffpaaDoor.Model
open Go.RowKit Go.Proofs.YtpmimhbnmjffpaaDoorW.PrintWords Go.Proofs.YtpmimhbnmjffpaaDoor.Base Go.Proofs.YtpmimhbnmjffpaaDoor.Xw

def sumW : Int → List Int → Int
  | x, [] => x
  | x, n :: ns => sumW (wrap64 (x + weight n)) ns
def score (cs : Int) (l : List Int) : Int × Bool := if (decodeAll cs l).2 = true then (sumW 0 (signs (numsOf (decodeAll cs l).1)).1, true) else (0, false)
def detFrom (l : List Int) : Nat → Int → Int → Int → Int
  | 0, _, at', _ => at'
  | d + 1, cs, at', best => if (score cs l).2 = true ∧ (at' = 0 ∨ (score cs l).1 > best) then detFrom l d (cs + 1) cs (score cs l).1 else detFrom l d (cs + 1) at' best
def bom (l : List Int) : Bool := decide (3 ≤ l.length) && (rd l 0 == 239) && (rd l 1 == 187) && (rd l 2 == 191)
def detect (l : List Int) : Int × Bool := if (decodeAll 0 l).2 = true ∨ bom l = true then (0, true) else (detFrom l 5 1 0 0, detFrom l 5 1 0 0 != 0)
theorem encs_length (ns : List Int) : (ns.flatMap encOk).length ≤ 4 * ns.length := by
  induction ns with
  | nil => simp
  | cons n ns ih => have := encOk_length n; rw [List.flatMap_cons, List.length_append, List.length_cons]; omega
theorem decodeAll_size (cs : Int) (l : List Int) : (decodeAll cs l).1.size ≤ 4 * l.length := by
  unfold decodeAll
  by_cases h : inR cs 0 5 = true
  · rw [if_pos h]
    cases hr : readAll (codeGet cs) l with
    | none => simp only; exact Nat.zero_le _
    | some ns =>
      have h1 := readN_length (code_reads cs) _ _ hr
      have h2 := encs_length ns
      simp only
      rw [strOfNums_size]; omega
  · rw [if_neg h]; exact Nat.zero_le _
end Go.Proofs.YtpmimhbnmjffpaaDoor.Model
