/- The law FnExactCsOf answers true at every text of at most 140737488351232 bytes: the program's CsOf tells what the reference's tells. -/
import Derived.Test.YtajcddlhifhefaaPFnExactCsOfx1
import Derived.Test.YtajcddlhifhefaaModel
namespace Go.Proofs.Ytajcddlhifhefaa.Pure
open Go.RowKit Go.Proofs.Ytajcddlhifhefaa.PFnExactCsOf Go.Proofs.YtajcddlhifhefaaW.PrintWords Go.Proofs.YtajcddlhifhefaaW.PrintLast Go.Proofs.Ytajcddlhifhefaa.Base Go.Proofs.Ytajcddlhifhefaa.Model

theorem spec_l1In_eq (a b c : Int) : spec_l1In.f a b c = some (inR a b c) := by
  unfold spec_l1In.f inR; by_cases h : a ≥ b <;> simp [h]
theorem spec_CsName_eq (n : Int) : spec_CsName.f n = some (csName n) := by
  unfold spec_CsName.f csName
  simp only [spec_l1In_eq, Option.bind_some]
  by_cases h : 0 ≤ n ∧ n ≤ 5
  · rw [if_pos (inR_true.2 h), if_pos h, if_pos h.1, if_pos (by simp; omega)]; rfl
  · rw [if_neg (by rw [inR_true]; exact h), if_neg h]
theorem spec_CsOf_l0 (s : ByteArray) (d : Nat) : ∀ i : Int, 0 ≤ i → i + d = 6 → Ev (fun k => spec_CsOf.l0 k s i) (csOfFrom s.toList d i) := by
  induction d with
  | zero =>
    intro i h0 h
    refine ev_shift ?_
    simp only [spec_CsOf.l0]
    exact ev_neg (by omega) (Ev.now _)
  | succ d ih =>
    intro i h0 h
    refine ev_shift ?_
    simp only [spec_CsOf.l0]
    refine ev_pos (by omega) (ev_call (spec_CsName_eq i) ?_)
    unfold csOfFrom
    by_cases e : (csName i).toList = s.toList
    · rw [if_pos e]; exact ev_pos e (Ev.now _)
    · rw [if_neg e, w64 (by omega) (by omega)]; exact ev_neg e (ih (i + 1) (by omega) (by omega))
theorem spec_CsOf_ev (s : ByteArray) : Ev (fun k => spec_CsOf.f k s) (csOf s) := spec_CsOf_l0 s 6 0 (by omega) (by omega)
theorem impl_within_eq (a b c : Int) : impl_within.f a b c = some (inR a b c) := by
  unfold impl_within.f inR; by_cases h : a ≥ b <;> simp [h]
theorem impl_isSet_eq (n : Int) : impl_isSet.f n = some (inR n 0 5) := by
  unfold impl_isSet.f; simp only [impl_within_eq, Option.bind_some]
theorem impl_CsName_eq (n : Int) : impl_CsName.f n = some (csName n) := by
  unfold impl_CsName.f csName
  simp only [impl_isSet_eq, Option.bind_some]
  by_cases h : 0 ≤ n ∧ n ≤ 5
  · rw [if_pos (inR_true.2 h), if_pos h, if_pos h.1, if_pos (by simp; omega)]; rfl
  · rw [if_neg (by rw [inR_true]; exact h), if_neg h]
theorem impl_CsOf_l0 (s : ByteArray) (d : Nat) : ∀ i : Int, 0 ≤ i → i + d = 6 → Ev (fun k => impl_CsOf.l0 k s i) (csOfFrom s.toList d i) := by
  induction d with
  | zero =>
    intro i h0 h
    refine ev_shift ?_
    simp only [impl_CsOf.l0]
    exact ev_neg (by omega) (Ev.now _)
  | succ d ih =>
    intro i h0 h
    refine ev_shift ?_
    simp only [impl_CsOf.l0]
    refine ev_pos (by omega) (ev_call (impl_CsName_eq i) ?_)
    unfold csOfFrom
    by_cases e : (csName i).toList = s.toList
    · rw [if_pos e]; exact ev_pos e (Ev.now _)
    · rw [if_neg e, w64 (by omega) (by omega)]; exact ev_neg e (ih (i + 1) (by omega) (by omega))
theorem impl_CsOf_ev (s : ByteArray) : Ev (fun k => impl_CsOf.f k s) (csOf s) := impl_CsOf_l0 s 6 0 (by omega) (by omega)

theorem FnExactCsOf : laws_FnExactCsOf.Pure := by
  intro s _
  apply Ev.rounds
  simp only [laws_FnExactCsOf.f]
  by_cases h : (s.size : Int) > 1048576
  · exact ev_pos h (Ev.now _)
  · exact ev_neg h (ev_bind (spec_CsOf_ev s) (ev_bind (impl_CsOf_ev s) (ev_pos rfl (Ev.now _))))

end Go.Proofs.Ytajcddlhifhefaa.Pure
