/- The law FnExactNameOk answers true at every text of at most 140737488351232 bytes: the program's NameOk tells what the reference's tells. -/
import Derived.Test.YtajcddlhifhefaaPFnExactNameOkx1
import Derived.Test.YtajcddlhifhefaaModel
namespace Go.Proofs.Ytajcddlhifhefaa.Pure
open Go.RowKit Go.Proofs.Ytajcddlhifhefaa.PFnExactNameOk Go.Proofs.YtajcddlhifhefaaW.PrintWords Go.Proofs.YtajcddlhifhefaaW.PrintLast Go.Proofs.Ytajcddlhifhefaa.Base Go.Proofs.Ytajcddlhifhefaa.Model

theorem spec_l1In_eq (a b c : Int) : spec_l1In.f a b c = some (inR a b c) := by
  unfold spec_l1In.f inR; by_cases h : a ≥ b <;> simp [h]
theorem spec_NameOk_l0 (s : ByteArray) (hs : s.size ≤ 140737488351232) (d : Nat) : ∀ i : Nat, i + d = s.size → Ev (fun k => spec_NameOk.l0 k s (i : Int)) (nameFrom s d i) := by
  induction d with
  | zero =>
    intro i h
    refine ev_shift ?_
    simp only [spec_NameOk.l0, spec_l1In_eq, Option.bind_some]
    exact ev_neg (by omega) (Ev.now _)
  | succ d ih =>
    intro i h
    refine ev_shift ?_
    have hb := bt_range s (i : Int)
    have hw : wrap64 (bt s (i : Int)) = bt s (i : Int) := w64 (by omega) (by omega)
    simp only [spec_NameOk.l0, spec_l1In_eq, Option.bind_some, hw, next_nat i (by omega)]
    refine ev_pos (by omega) (ev_pos (by omega) ?_)
    unfold nameFrom
    by_cases e : inR (bt s (i : Int)) 97 122 = true
    · rw [if_pos (Or.inl e)]; exact ev_pos e (ih (i + 1) (by omega))
    · by_cases e2 : inR (bt s (i : Int)) 48 57 = true
      · rw [if_pos (Or.inr e2)]; exact ev_neg e (ev_pos e2 (ih (i + 1) (by omega)))
      · rw [if_neg (by simp [e, e2])]; exact ev_neg e (ev_neg e2 (Ev.now _))
theorem spec_NameOk_ev (s : ByteArray) (hs : s.size ≤ 140737488351232) : Ev (fun k => spec_NameOk.f k s) (nameOk s) := spec_NameOk_l0 s hs s.size 0 (by omega)
theorem impl_within_eq (a b c : Int) : impl_within.f a b c = some (inR a b c) := by
  unfold impl_within.f inR; by_cases h : a ≥ b <;> simp [h]
theorem impl_NameOk_l0 (s : ByteArray) (hs : s.size ≤ 140737488351232) (d : Nat) : ∀ i : Nat, i + d = s.size → Ev (fun k => impl_NameOk.l0 k s (i : Int)) (nameFrom s d i) := by
  induction d with
  | zero =>
    intro i h
    refine ev_shift ?_
    simp only [impl_NameOk.l0, impl_within_eq, Option.bind_some]
    exact ev_neg (by omega) (Ev.now _)
  | succ d ih =>
    intro i h
    refine ev_shift ?_
    have hb := bt_range s (i : Int)
    have hw : wrap64 (bt s (i : Int)) = bt s (i : Int) := w64 (by omega) (by omega)
    simp only [impl_NameOk.l0, impl_within_eq, Option.bind_some, hw, next_nat i (by omega)]
    refine ev_pos (by omega) (ev_pos (by omega) ?_)
    unfold nameFrom
    by_cases e : inR (bt s (i : Int)) 97 122 = true
    · rw [if_pos (Or.inl e)]; exact ev_pos e (ih (i + 1) (by omega))
    · by_cases e2 : inR (bt s (i : Int)) 48 57 = true
      · rw [if_pos (Or.inr e2)]; exact ev_neg e (ev_pos e2 (ih (i + 1) (by omega)))
      · rw [if_neg (by simp [e, e2])]; exact ev_neg e (ev_neg e2 (Ev.now _))
theorem impl_NameOk_ev (s : ByteArray) (hs : s.size ≤ 140737488351232) : Ev (fun k => impl_NameOk.f k s) (nameOk s) := impl_NameOk_l0 s hs s.size 0 (by omega)

theorem FnExactNameOk : laws_FnExactNameOk.Pure := by
  intro s hs
  apply Ev.rounds
  simp only [laws_FnExactNameOk.f]
  by_cases h : (s.size : Int) > 1048576
  · exact ev_pos h (Ev.now _)
  · exact ev_neg h (ev_bind (spec_NameOk_ev s hs) (ev_bind (impl_NameOk_ev s hs) (ev_neg (by simp) (Ev.now _))))

end Go.Proofs.Ytajcddlhifhefaa.Pure
