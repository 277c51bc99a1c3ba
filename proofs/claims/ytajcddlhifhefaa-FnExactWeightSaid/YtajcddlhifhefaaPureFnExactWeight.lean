/- The law FnExactWeight answers true at every whole number of 64 bits: the program's Weight tells what the reference's tells. -/
import Derived.Test.YtajcddlhifhefaaPFnExactWeightx2
import Derived.Test.YtajcddlhifhefaaModel
namespace Go.Proofs.Ytajcddlhifhefaa.Pure
open Go.RowKit Go.Proofs.Ytajcddlhifhefaa.PFnExactWeight Go.Proofs.YtajcddlhifhefaaW.PrintWords Go.Proofs.YtajcddlhifhefaaW.PrintLast Go.Proofs.Ytajcddlhifhefaa.Base Go.Proofs.Ytajcddlhifhefaa.Model

theorem spec_l1In_eq (a b c : Int) : spec_l1In.f a b c = some (inR a b c) := by
  unfold spec_l1In.f inR; by_cases h : a ≥ b <;> simp [h]
theorem spec_Weight_j2 (k : Nat) (n : Int) (b : Bool) : spec_Weight.j2 (k + 1) n b = some (if b = true then 0 else if n < 32 ∨ (127 ≤ n ∧ n ≤ 159) then -5 else 0) := by
  simp only [spec_Weight.j2, spec_l1In_eq, Option.bind_some, inR_true]
  cases b
  · by_cases h : n < 32
    · simp [h]
    · by_cases h2 : 127 ≤ n ∧ n ≤ 159 <;> simp [h, h2]
  · simp
theorem spec_Weight_j1 (k : Nat) (n : Int) (b : Bool) : spec_Weight.j1 (k + 2) n b = some (if b = true then 2 else if n = 9 ∨ n = 10 ∨ n = 13 then 0 else if n < 32 ∨ (127 ≤ n ∧ n ≤ 159) then -5 else 0) := by
  rw [spec_Weight.j1]
  simp only [spec_Weight_j2]
  cases b
  · by_cases h : n = 9
    · simp [h]
    · by_cases h2 : n = 10
      · simp [h2]
      · by_cases h3 : n = 13 <;> simp [h, h2, h3]
  · simp
theorem spec_Weight_j0 (k : Nat) (n : Int) (b : Bool) : spec_Weight.j0 (k + 3) n b = some (if b = true then 3 else if (65 ≤ n ∧ n ≤ 90) ∨ (192 ≤ n ∧ n ≤ 591) ∨ (1024 ≤ n ∧ n ≤ 1119) ∨ (12353 ≤ n ∧ n ≤ 12543) then 2
  else if n = 9 ∨ n = 10 ∨ n = 13 then 0
  else if n < 32 ∨ (127 ≤ n ∧ n ≤ 159) then -5 else 0) := by
  rw [spec_Weight.j0]
  simp only [spec_Weight_j1, spec_l1In_eq, Option.bind_some, inR_true]
  cases b
  · by_cases h : 65 ≤ n ∧ n ≤ 90
    · simp [h]
    · by_cases h2 : 192 ≤ n ∧ n ≤ 591
      · simp [h, h2]
      · by_cases h3 : 1024 ≤ n ∧ n ≤ 1119
        · simp [h, h2, h3]
        · simp only [if_neg h, if_neg h2, if_neg h3]
          by_cases h4 : 12353 ≤ n ∧ n ≤ 12543 <;> simp [h, h2, h3, h4]
  · simp
theorem spec_Weight_ev (n : Int) : Ev (fun k => spec_Weight.f k n) (weight n) := by
  refine ev_shift (ev_shift (ev_shift (ev_same fun k => ?_)))
  simp only [spec_Weight.f, spec_Weight_j0, spec_l1In_eq, Option.bind_some]
  unfold weight
  by_cases h : n = 32
  · simp [h]
  · by_cases h2 : inR n 97 122 = true
    · have := inR_true.1 h2; simp [h, h2, this]
    · have g2 := h2; rw [inR_true] at g2
      simp only [if_neg h, if_neg h2]
      cases h3 : inR n 48 57
      · rw [inR_false] at h3
        rw [if_neg (by simp), if_neg (c := n = 32 ∨ (97 ≤ n ∧ n ≤ 122) ∨ (48 ≤ n ∧ n ≤ 57)) (by omega)]
      · rw [inR_true] at h3
        rw [if_pos rfl, if_pos (c := n = 32 ∨ (97 ≤ n ∧ n ≤ 122) ∨ (48 ≤ n ∧ n ≤ 57)) (by omega)]
theorem impl_within_eq (a b c : Int) : impl_within.f a b c = some (inR a b c) := by
  unfold impl_within.f inR; by_cases h : a ≥ b <;> simp [h]
theorem impl_Weight_j2 (k : Nat) (n : Int) (b : Bool) : impl_Weight.j2 (k + 1) n b = some (if b = true then 0 else if n < 32 ∨ (127 ≤ n ∧ n ≤ 159) then -5 else 0) := by
  simp only [impl_Weight.j2, impl_within_eq, Option.bind_some, inR_true]
  cases b
  · by_cases h : n < 32
    · simp [h]
    · by_cases h2 : 127 ≤ n ∧ n ≤ 159 <;> simp [h, h2]
  · simp
theorem impl_Weight_j1 (k : Nat) (n : Int) (b : Bool) : impl_Weight.j1 (k + 2) n b = some (if b = true then 2 else if n = 9 ∨ n = 10 ∨ n = 13 then 0 else if n < 32 ∨ (127 ≤ n ∧ n ≤ 159) then -5 else 0) := by
  rw [impl_Weight.j1]
  simp only [impl_Weight_j2]
  cases b
  · by_cases h : n = 9
    · simp [h]
    · by_cases h2 : n = 10
      · simp [h2]
      · by_cases h3 : n = 13 <;> simp [h, h2, h3]
  · simp
theorem impl_Weight_j0 (k : Nat) (n : Int) (b : Bool) : impl_Weight.j0 (k + 3) n b = some (if b = true then 3 else if (65 ≤ n ∧ n ≤ 90) ∨ (192 ≤ n ∧ n ≤ 591) ∨ (1024 ≤ n ∧ n ≤ 1119) ∨ (12353 ≤ n ∧ n ≤ 12543) then 2
  else if n = 9 ∨ n = 10 ∨ n = 13 then 0
  else if n < 32 ∨ (127 ≤ n ∧ n ≤ 159) then -5 else 0) := by
  rw [impl_Weight.j0]
  simp only [impl_Weight_j1, impl_within_eq, Option.bind_some, inR_true]
  cases b
  · by_cases h : 65 ≤ n ∧ n ≤ 90
    · simp [h]
    · by_cases h2 : 192 ≤ n ∧ n ≤ 591
      · simp [h, h2]
      · by_cases h3 : 1024 ≤ n ∧ n ≤ 1119
        · simp [h, h2, h3]
        · simp only [if_neg h, if_neg h2, if_neg h3]
          by_cases h4 : 12353 ≤ n ∧ n ≤ 12543 <;> simp [h, h2, h3, h4]
  · simp
theorem impl_Weight_ev (n : Int) : Ev (fun k => impl_Weight.f k n) (weight n) := by
  refine ev_shift (ev_shift (ev_shift (ev_same fun k => ?_)))
  simp only [impl_Weight.f, impl_Weight_j0, impl_within_eq, Option.bind_some]
  unfold weight
  by_cases h : n = 32
  · simp [h]
  · by_cases h2 : inR n 97 122 = true
    · have := inR_true.1 h2; simp [h, h2, this]
    · have g2 := h2; rw [inR_true] at g2
      simp only [if_neg h, if_neg h2]
      cases h3 : inR n 48 57
      · rw [inR_false] at h3
        rw [if_neg (by simp), if_neg (c := n = 32 ∨ (97 ≤ n ∧ n ≤ 122) ∨ (48 ≤ n ∧ n ≤ 57)) (by omega)]
      · rw [inR_true] at h3
        rw [if_pos rfl, if_pos (c := n = 32 ∨ (97 ≤ n ∧ n ≤ 122) ∨ (48 ≤ n ∧ n ≤ 57)) (by omega)]

theorem FnExactWeight : laws_FnExactWeight.Pure := by
  intro a _
  apply Ev.rounds
  simp only [laws_FnExactWeight.f]
  exact ev_bind (spec_Weight_ev a) (ev_bind (impl_Weight_ev a) (ev_pos rfl (Ev.now _)))

end Go.Proofs.Ytajcddlhifhefaa.Pure
