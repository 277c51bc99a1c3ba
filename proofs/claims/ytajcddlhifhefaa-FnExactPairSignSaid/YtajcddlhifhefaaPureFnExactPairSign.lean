/- The law FnExactPairSign answers true at every two whole numbers of 64 bits: the program's PairSign tells what the reference's tells. -/
import Derived.Test.YtajcddlhifhefaaPFnExactPairSignx1
import Derived.Test.YtajcddlhifhefaaModel
namespace Go.Proofs.Ytajcddlhifhefaa.Pure
open Go.RowKit Go.Proofs.Ytajcddlhifhefaa.PFnExactPairSign Go.Proofs.YtajcddlhifhefaaW.PrintWords Go.Proofs.YtajcddlhifhefaaW.PrintLast Go.Proofs.Ytajcddlhifhefaa.Base Go.Proofs.Ytajcddlhifhefaa.Model

theorem spec_l1In_eq (a b c : Int) : spec_l1In.f a b c = some (inR a b c) := by
  unfold spec_l1In.f inR; by_cases h : a ≥ b <;> simp [h]
theorem spec_PairSign_ev (a b : Int) : Ev (fun k => spec_PairSign.f k a b) (pairSign a b) := by
  refine ev_shift (ev_same fun k => ?_)
  simp only [spec_PairSign.f, spec_PairSign.j0, spec_l1In_eq, Option.bind_some, inR_true]
  unfold pairSign
  by_cases h : a = 164
  · by_cases h2 : 161 ≤ b ∧ b ≤ 243
    · rw [if_pos h, if_pos h2, if_pos ⟨h, h2.1, h2.2⟩, w64 (x := 12353 + b) (by omega) (by omega), w64 (by omega) (by omega)]
    · rw [if_pos h, if_neg h2, if_neg (c := a = 165) (by omega), if_neg (c := a = 164 ∧ 161 ≤ b ∧ b ≤ 243) (by omega), if_neg (c := a = 165 ∧ 161 ≤ b ∧ b ≤ 246) (by omega)]
  · rw [if_neg h, if_neg (by decide), if_neg (c := a = 164 ∧ 161 ≤ b ∧ b ≤ 243) (by omega)]
    by_cases h1 : a = 165
    · by_cases h2 : 161 ≤ b ∧ b ≤ 246
      · rw [if_pos h1, if_pos h2, if_pos ⟨h1, h2.1, h2.2⟩, w64 (x := 12449 + b) (by omega) (by omega), w64 (by omega) (by omega)]
      · rw [if_pos h1, if_neg h2, if_neg (c := a = 165 ∧ 161 ≤ b ∧ b ≤ 246) (by omega)]
    · rw [if_neg h1, if_neg (c := a = 165 ∧ 161 ≤ b ∧ b ≤ 246) (by omega)]
theorem impl_within_eq (a b c : Int) : impl_within.f a b c = some (inR a b c) := by
  unfold impl_within.f inR; by_cases h : a ≥ b <;> simp [h]
theorem impl_PairSign_ev (a b : Int) : Ev (fun k => impl_PairSign.f k a b) (pairSign a b) := by
  refine ev_shift (ev_same fun k => ?_)
  simp only [impl_PairSign.f, impl_PairSign.j0, impl_within_eq, Option.bind_some, inR_true]
  unfold pairSign
  by_cases h : a = 164
  · by_cases h2 : 161 ≤ b ∧ b ≤ 243
    · rw [if_pos h, if_pos h2, if_pos ⟨h, h2.1, h2.2⟩, w64 (x := 12353 + b) (by omega) (by omega), w64 (by omega) (by omega)]
    · rw [if_pos h, if_neg h2, if_neg (c := a = 165) (by omega), if_neg (c := a = 164 ∧ 161 ≤ b ∧ b ≤ 243) (by omega), if_neg (c := a = 165 ∧ 161 ≤ b ∧ b ≤ 246) (by omega)]
  · rw [if_neg h, if_neg (by decide), if_neg (c := a = 164 ∧ 161 ≤ b ∧ b ≤ 243) (by omega)]
    by_cases h1 : a = 165
    · by_cases h2 : 161 ≤ b ∧ b ≤ 246
      · rw [if_pos h1, if_pos h2, if_pos ⟨h1, h2.1, h2.2⟩, w64 (x := 12449 + b) (by omega) (by omega), w64 (by omega) (by omega)]
      · rw [if_pos h1, if_neg h2, if_neg (c := a = 165 ∧ 161 ≤ b ∧ b ≤ 246) (by omega)]
    · rw [if_neg h1, if_neg (c := a = 165 ∧ 161 ≤ b ∧ b ≤ 246) (by omega)]

theorem FnExactPairSign : laws_FnExactPairSign.Pure := by
  intro a b _ _
  apply Ev.rounds
  simp only [laws_FnExactPairSign.f]
  exact ev_bind (spec_PairSign_ev a b) (ev_bind (impl_PairSign_ev a b) (ev_pos rfl (ev_neg (by simp) (Ev.now _))))

end Go.Proofs.Ytajcddlhifhefaa.Pure
