/- The law FnExactSignPair answers true at every whole number of 64 bits: the program's SignPair tells what the reference's tells. -/
import Derived.Test.YtajcddlhifhefaaPFnExactSignPairx1
import Derived.Test.YtajcddlhifhefaaModel
namespace Go.Proofs.Ytajcddlhifhefaa.Pure
open Go.RowKit Go.Proofs.Ytajcddlhifhefaa.PFnExactSignPair Go.Proofs.YtajcddlhifhefaaW.PrintWords Go.Proofs.YtajcddlhifhefaaW.PrintLast Go.Proofs.Ytajcddlhifhefaa.Base Go.Proofs.Ytajcddlhifhefaa.Model

theorem spec_l1In_eq (a b c : Int) : spec_l1In.f a b c = some (inR a b c) := by
  unfold spec_l1In.f inR; by_cases h : a ≥ b <;> simp [h]
theorem spec_SignPair_eq (n : Int) : spec_SignPair.f n = some (signPair n) := by
  unfold spec_SignPair.f signPair
  simp only [spec_l1In_eq, Option.bind_some, inR_true]
  by_cases h : 12353 ≤ n ∧ n ≤ 12435
  · rw [if_pos h, if_pos h, w64 (x := n - 12353) (by omega) (by omega), w64 (by omega) (by omega)]
  · rw [if_neg h, if_neg h]
    by_cases h2 : 12449 ≤ n ∧ n ≤ 12534
    · rw [if_pos h2, if_pos h2, w64 (x := n - 12449) (by omega) (by omega), w64 (by omega) (by omega)]
    · rw [if_neg h2, if_neg h2]
theorem impl_within_eq (a b c : Int) : impl_within.f a b c = some (inR a b c) := by
  unfold impl_within.f inR; by_cases h : a ≥ b <;> simp [h]
theorem impl_SignPair_eq (n : Int) : impl_SignPair.f n = some (signPair n) := by
  unfold impl_SignPair.f signPair
  simp only [impl_within_eq, Option.bind_some, inR_true]
  by_cases h : 12353 ≤ n ∧ n ≤ 12435
  · rw [if_pos h, if_pos h, w64 (x := n - 12353) (by omega) (by omega), w64 (by omega) (by omega)]
  · rw [if_neg h, if_neg h]
    by_cases h2 : 12449 ≤ n ∧ n ≤ 12534
    · rw [if_pos h2, if_pos h2, w64 (x := n - 12449) (by omega) (by omega), w64 (by omega) (by omega)]
    · rw [if_neg h2, if_neg h2]

theorem FnExactSignPair : laws_FnExactSignPair.Pure := by
  intro a _
  unfold laws_FnExactSignPair.f
  rw [spec_SignPair_eq, impl_SignPair_eq]; simp

end Go.Proofs.Ytajcddlhifhefaa.Pure
