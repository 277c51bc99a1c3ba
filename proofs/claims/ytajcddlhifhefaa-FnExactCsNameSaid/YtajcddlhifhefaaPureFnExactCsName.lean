/- The law FnExactCsName answers true at every whole number of 64 bits: the program's CsName tells what the reference's tells. -/
import Derived.Test.YtajcddlhifhefaaPFnExactCsNamex1
import Derived.Test.YtajcddlhifhefaaModel
namespace Go.Proofs.Ytajcddlhifhefaa.Pure
open Go.RowKit Go.Proofs.Ytajcddlhifhefaa.PFnExactCsName Go.Proofs.YtajcddlhifhefaaW.PrintWords Go.Proofs.YtajcddlhifhefaaW.PrintLast Go.Proofs.Ytajcddlhifhefaa.Base Go.Proofs.Ytajcddlhifhefaa.Model

theorem spec_l1In_eq (a b c : Int) : spec_l1In.f a b c = some (inR a b c) := by
  unfold spec_l1In.f inR; by_cases h : a ≥ b <;> simp [h]
theorem spec_CsName_eq (n : Int) : spec_CsName.f n = some (csName n) := by
  unfold spec_CsName.f csName
  simp only [spec_l1In_eq, Option.bind_some]
  by_cases h : 0 ≤ n ∧ n ≤ 5
  · rw [if_pos (inR_true.2 h), if_pos h, if_pos h.1, if_pos (by simp; omega)]; rfl
  · rw [if_neg (by rw [inR_true]; exact h), if_neg h]
theorem impl_within_eq (a b c : Int) : impl_within.f a b c = some (inR a b c) := by
  unfold impl_within.f inR; by_cases h : a ≥ b <;> simp [h]
theorem impl_isSet_eq (n : Int) : impl_isSet.f n = some (inR n 0 5) := by
  unfold impl_isSet.f; simp only [impl_within_eq, Option.bind_some]
theorem impl_CsName_eq (n : Int) : impl_CsName.f n = some (csName n) := by
  unfold impl_CsName.f csName
  simp only [impl_isSet_eq, Option.bind_some]
  by_cases h : 0 ≤ n ∧ n ≤ 5
  · rw [if_pos (inR_true.2 h), if_pos h, if_pos h.1, if_pos (by simp; omega)]; rfl
  · rw [if_neg (by rw [inR_true]; exact h), if_neg h]

theorem FnExactCsName : laws_FnExactCsName.Pure := by
  intro a _
  unfold laws_FnExactCsName.f
  rw [spec_CsName_eq, impl_CsName_eq]; simp

end Go.Proofs.Ytajcddlhifhefaa.Pure
