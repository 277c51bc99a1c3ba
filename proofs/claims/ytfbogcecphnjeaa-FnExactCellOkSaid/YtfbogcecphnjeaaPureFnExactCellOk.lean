/- The law FnExactCellOk answers true at every cell: the program's CellOk tells what the reference's tells, and leaves the cell as it was. -/
import Derived.Test.YtfbogcecphnjeaaQFnExactCellOkx2
import Derived.Test.YtfbogcecphnjeaaModel
import Derived.Test.YtfbogcecphnjeaaModelA
import Derived.Test.YtfbogcecphnjeaaModelC
import Derived.Test.YtfbogcecphnjeaaModelD
import Derived.Test.YtfbogcecphnjeaaModelE
import Derived.Test.YtfbogcecphnjeaaModelS
import Derived.Test.YtfbogcecphnjeaaModelT
import Derived.Test.YtfbogcecphnjeaaModelU
namespace Go.Proofs.Ytfbogcecphnjeaa.Pure
open Go.RowKit Go.Proofs.Ytfbogcecphnjeaa.QFnExactCellOk Go.Proofs.YtfbogcecphnjeaaW.PrintWords Go.Proofs.YtfbogcecphnjeaaW.PrintLast Go.Proofs.Ytfbogcecphnjeaa.Ext Go.Proofs.Ytfbogcecphnjeaa.Xw Go.Proofs.Ytfbogcecphnjeaa.Base Go.Proofs.Ytfbogcecphnjeaa.Model

theorem szByteS_eq (l : List Int) (a : Int) (h0 : 0 ≤ a) (h1 : a ≤ 1048576) (hl : (l.length : Int) ≤ 9223372036854775807) : laws_szByteS.f l a = some (if (l.length : Int) > a then (-1 : Int) else a - (l.length : Int)) := by
  unfold laws_szByteS.f
  rw [w64 (by omega) (by omega)]
  by_cases h : (l.length : Int) > a
  · rw [if_pos (by omega), if_pos h]
  · rw [if_neg (by omega), if_neg h]
theorem szCell_eq (t : Int) (l : List Int) (hl : (l.length : Int) ≤ 9223372036854775807) : laws_szCell.f t l 1048576 = some (if (l.length : Int) > 1048576 then (-1 : Int) else 1048576 - (l.length : Int)) := by
  unfold laws_szCell.f
  rw [szByteS_eq l _ (by omega) (by omega) hl]
  simp only [Option.bind_some]
  by_cases h : (l.length : Int) > 1048576
  · rw [if_pos h, if_pos (by omega)]
  · rw [if_neg h, if_neg (by omega)]
theorem spec_l1In_eq (a b c : Int) : spec_l1In.f a b c = some (inR a b c) := by
  unfold spec_l1In.f inR; by_cases h : a ≥ b <;> simp [h]
theorem spec_l5Cs_eq (n : Int) : spec_l5Cs.f n = some (inR n 0 5) := by
  unfold spec_l5Cs.f; rw [spec_l1In_eq]; rfl
theorem spec_CellOk_eq (t : Int) (l : List Int) : spec_CellOk.f t l = some (inR t 0 5 && decide ((l.length : Int) ≤ 20)) := by
  unfold spec_CellOk.f
  rw [spec_l5Cs_eq]
  simp only [Option.bind_some]
  by_cases h : inR t 0 5 = true
  · rw [if_pos h, h, Bool.true_and]
  · rw [if_neg h, Bool.eq_false_iff.2 h, Bool.false_and]
theorem toByteS_l0 (l : List Int) (hl : l.length ≤ 140737488355328) (d : Nat) : ∀ (i : Nat) (x : List Int), i + d = l.length → x.length = l.length → (∀ j, j < i → x[j]? = l[j]?) → Ev (fun k => laws_toByteS.l0 k l x (i : Int)) l := by
  induction d with
  | zero =>
    intro i x h hx hj
    refine ev_shift ?_
    simp only [laws_toByteS.l0]
    refine ev_neg (by omega) (ev_is (Ev.now _) (List.ext_getElem? fun j => ?_))
    by_cases hji : j < i
    · exact hj j hji
    · rw [List.getElem?_eq_none (by omega), List.getElem?_eq_none (by omega)]
  | succ d ih =>
    intro i x h hx hj
    refine ev_shift ?_
    simp only [laws_toByteS.l0, next_nat i (by omega)]
    refine ev_pos (by omega) (ev_pos (by omega) (ev_pos (by omega) (ih (i + 1) _ (by omega) (by simpa using hx) fun j hji => ?_)))
    have hi : i < l.length := by omega
    rw [rd_lt l i hi, Int.toNat_natCast]
    by_cases e : j = i
    · subst e; rw [List.getElem?_set_self (by omega), List.getElem?_eq_getElem hi]
    · rw [List.getElem?_set_ne (by omega)]; exact hj j (by omega)
theorem toByteS_ev (l : List Int) (hl : l.length ≤ 140737488355328) : Ev (fun k => laws_toByteS.f k l) l := by
  simp only [laws_toByteS.f]
  exact ev_pos (by omega) (ev_pos (by omega) (toByteS_l0 l hl l.length 0 _ (by omega) (by simp) fun j hj => by omega))
theorem toCell_ev (t : Int) (l : List Int) (hl : l.length ≤ 140737488355328) : Ev (fun k => laws_toCell.f k t l) (t, l) := by
  simp only [laws_toCell.f]
  exact ev_bind (toByteS_ev l hl) (Ev.now _)
theorem impl_within_eq (a b c : Int) : impl_within.f a b c = some (inR a b c) := by
  unfold impl_within.f inR; by_cases h : a ≥ b <;> simp [h]
theorem impl_isSet_eq (n : Int) : impl_isSet.f n = some (inR n 0 5) := by
  unfold impl_isSet.f; simp only [impl_within_eq, Option.bind_some]
theorem impl_CellOk_eq (t : Int) (l : List Int) : impl_CellOk.f t l = some (inR t 0 5 && decide ((l.length : Int) ≤ 20)) := by
  unfold impl_CellOk.f
  rw [impl_isSet_eq]
  simp only [Option.bind_some]
  by_cases h : inR t 0 5 = true
  · rw [if_pos h, h, Bool.true_and]
  · rw [if_neg h, Bool.eq_false_iff.2 h, Bool.false_and]
theorem eqByteS_l0 (a b : List Int) (hl : a.length ≤ 4611686018427387904) (hab : a.length = b.length) (d : Nat) : ∀ (i : Nat), i + d = a.length → (∀ j, j < i → a[j]? = b[j]?) → Ev (fun k => laws_eqByteS.l0 k a b (i : Int)) (decide (a = b)) := by
  induction d with
  | zero =>
    intro i h hj
    refine ev_shift ?_
    simp only [laws_eqByteS.l0]
    refine ev_neg (by omega) (ev_is (Ev.now _) ?_)
    rw [eq_comm, decide_eq_true_eq]
    refine List.ext_getElem? fun j => ?_
    by_cases hji : j < i
    · exact hj j hji
    · rw [List.getElem?_eq_none (by omega), List.getElem?_eq_none (by omega)]
  | succ d ih =>
    intro i h hj
    refine ev_shift ?_
    simp only [laws_eqByteS.l0, next_nat i (by omega)]
    have hi : i < a.length := by omega
    have hi2 : i < b.length := by omega
    refine ev_pos (by omega) (ev_pos (by omega) (ev_pos (by omega) ?_))
    by_cases e : rd a (i : Int) = rd b (i : Int)
    · refine ev_pos e (ih (i + 1) (by omega) fun j hji => ?_)
      by_cases e2 : j = i
      · subst e2; rw [rd_lt a j hi, rd_lt b j hi2] at e; rw [List.getElem?_eq_getElem hi, List.getElem?_eq_getElem hi2, e]
      · exact hj j (by omega)
    · refine ev_neg e (ev_is (Ev.now _) ?_)
      rw [eq_comm, decide_eq_false_iff_not]
      intro hE; subst hE; exact e rfl
theorem eqByteS_ev (a b : List Int) (hl : a.length ≤ 4611686018427387904) : Ev (fun k => laws_eqByteS.f k a b) (decide (a = b)) := by
  simp only [laws_eqByteS.f]
  by_cases e : (a.length : Int) = (b.length : Int)
  · exact ev_pos e (eqByteS_l0 a b hl (by omega) a.length 0 (by omega) fun j hj => by omega)
  · refine ev_neg e (ev_is (Ev.now _) ?_)
    rw [eq_comm, decide_eq_false_iff_not]
    intro hE; subst hE; exact e rfl
theorem eqByteS_self (a : List Int) (hl : a.length ≤ 4611686018427387904) : Ev (fun k => laws_eqByteS.f k a a) true := ev_is (eqByteS_ev a a hl) (by simp)
theorem eqCell_self (t : Int) (l : List Int) (hl : l.length ≤ 4611686018427387904) : Ev (fun k => laws_eqCell.f k t l t l) true := by
  simp only [laws_eqCell.f]
  exact ev_pos trivial (ev_bind (eqByteS_self l hl) (ev_pos rfl (Ev.now _)))

theorem FnExactCellOk : ∀ (a0 : Int) (l0 : List Int), (Lit.int .i64 a0).wf = true → l0.length ≤ maxLen → (∀ x ∈ l0, (Lit.int .u8 x).wf = true) → ∃ k, laws_FnExactCellOk.f k a0 l0 = some true := by
  intro t l _ hm _
  have hmi : (l.length : Int) ≤ 9223372036854775807 := by unfold maxLen at hm; omega
  apply Ev.rounds
  simp only [laws_FnExactCellOk.f]
  refine ev_call (szCell_eq t l hmi) ?_
  by_cases h : (l.length : Int) > 1048576
  · rw [if_pos h]; exact ev_pos (by omega) (Ev.now _)
  · rw [if_neg h]
    refine ev_neg (by omega) (ev_bind (toCell_ev t l (by omega)) (ev_call (spec_CellOk_eq t l) (ev_bind (toCell_ev t l (by omega)) (ev_call (impl_CellOk_eq t l) (ev_neg (by simp) ?_)))))
    exact ev_bind (toCell_ev t l (by omega)) (ev_bind (eqCell_self t l (by omega)) (ev_pos rfl (Ev.now _)))

end Go.Proofs.Ytfbogcecphnjeaa.Pure
