/- The law FnExactGetText answers true at every row of bytes that memory holds and every place: the program's GetText tells what the reference's tells, and leaves the row as it was. -/
import Derived.Test.YtajcddlhifhefaaQFnExactGetTextx1
import Derived.Test.YtajcddlhifhefaaModel
import Derived.Test.YtajcddlhifhefaaModelC
import Derived.Test.YtajcddlhifhefaaModelU
namespace Go.Proofs.Ytajcddlhifhefaa.Pure
open Go.RowKit Go.Proofs.Ytajcddlhifhefaa.QFnExactGetText Go.Proofs.YtajcddlhifhefaaW.PrintWords Go.Proofs.YtajcddlhifhefaaW.PrintLast Go.Proofs.Ytajcddlhifhefaa.Base Go.Proofs.Ytajcddlhifhefaa.Model

theorem toByteS_l0 (l : List Int) (hl : l.length ≤ 140737488355328) (d : Nat) : ∀ (i : Nat) (x : List Int), i + d = l.length → x.length = l.length → (∀ j, j < i → x[j]? = l[j]?) → Ev (fun k => laws_toByteS.l0 k l x (i : Int)) l := by
  induction d with
  | zero =>
    intro i x h hx hj
    refine ev_shift ?_
    simp only [laws_toByteS.l0]
    refine ev_neg (by omega) (ev_is (Ev.now _) (List.ext_getElem? fun j => ?_))
    by_cases hji : j < i
    · exact hj j hji
    · rw [List.getElem?_eq_none (by omega), List.getElem?_eq_none (by omega)]
  | succ d ih =>
    intro i x h hx hj
    refine ev_shift ?_
    simp only [laws_toByteS.l0, next_nat i (by omega)]
    refine ev_pos (by omega) (ev_pos (by omega) (ev_pos (by omega) (ih (i + 1) _ (by omega) (by simpa using hx) fun j hji => ?_)))
    have hi : i < l.length := by omega
    rw [rd_lt l i hi, Int.toNat_natCast]
    by_cases e : j = i
    · subst e; rw [List.getElem?_set_self (by omega), List.getElem?_eq_getElem hi]
    · rw [List.getElem?_set_ne (by omega)]; exact hj j (by omega)
theorem toByteS_ev (l : List Int) (hl : l.length ≤ 140737488355328) : Ev (fun k => laws_toByteS.f k l) l := by
  simp only [laws_toByteS.f]
  exact ev_pos (by omega) (ev_pos (by omega) (toByteS_l0 l hl l.length 0 _ (by omega) (by simp) fun j hj => by omega))
theorem eqByteS_l0 (a b : List Int) (hl : a.length ≤ 4611686018427387904) (hab : a.length = b.length) (d : Nat) : ∀ (i : Nat), i + d = a.length → (∀ j, j < i → a[j]? = b[j]?) → Ev (fun k => laws_eqByteS.l0 k a b (i : Int)) (decide (a = b)) := by
  induction d with
  | zero =>
    intro i h hj
    refine ev_shift ?_
    simp only [laws_eqByteS.l0]
    refine ev_neg (by omega) (ev_is (Ev.now _) ?_)
    rw [eq_comm, decide_eq_true_eq]
    refine List.ext_getElem? fun j => ?_
    by_cases hji : j < i
    · exact hj j hji
    · rw [List.getElem?_eq_none (by omega), List.getElem?_eq_none (by omega)]
  | succ d ih =>
    intro i h hj
    refine ev_shift ?_
    simp only [laws_eqByteS.l0, next_nat i (by omega)]
    have hi : i < a.length := by omega
    have hi2 : i < b.length := by omega
    refine ev_pos (by omega) (ev_pos (by omega) (ev_pos (by omega) ?_))
    by_cases e : rd a (i : Int) = rd b (i : Int)
    · refine ev_pos e (ih (i + 1) (by omega) fun j hji => ?_)
      by_cases e2 : j = i
      · subst e2; rw [rd_lt a j hi, rd_lt b j hi2] at e; rw [List.getElem?_eq_getElem hi, List.getElem?_eq_getElem hi2, e]
      · exact hj j (by omega)
    · refine ev_neg e (ev_is (Ev.now _) ?_)
      rw [eq_comm, decide_eq_false_iff_not]
      intro hE; subst hE; exact e rfl
theorem eqByteS_ev (a b : List Int) (hl : a.length ≤ 4611686018427387904) : Ev (fun k => laws_eqByteS.f k a b) (decide (a = b)) := by
  simp only [laws_eqByteS.f]
  by_cases e : (a.length : Int) = (b.length : Int)
  · exact ev_pos e (eqByteS_l0 a b hl (by omega) a.length 0 (by omega) fun j hj => by omega)
  · refine ev_neg e (ev_is (Ev.now _) ?_)
    rw [eq_comm, decide_eq_false_iff_not]
    intro hE; subst hE; exact e rfl
theorem eqByteS_self (a : List Int) (hl : a.length ≤ 4611686018427387904) : Ev (fun k => laws_eqByteS.f k a a) true := ev_is (eqByteS_ev a a hl) (by simp)
theorem spec_l1In_eq (a b c : Int) : spec_l1In.f a b c = some (inR a b c) := by
  unfold spec_l1In.f inR; by_cases h : a ≥ b <;> simp [h]
theorem spec_GetW_eq (b : List Int) (p : Int) (hb : Bytes b) (hl : b.length ≤ 4611686018427387904) : spec_GetW.f b p = some (getW b p) := by
  unfold spec_GetW.f getW
  have r0 := hb.rd p
  have r1 := hb.rd (p + 1)
  simp only [spec_l1In_eq, Option.bind_some, inR_true]
  rw [w64 (x := (b.length : Int) - 2) (by omega) (by omega)]
  by_cases h : 0 ≤ p ∧ p + 2 ≤ b.length
  · rw [if_pos (by omega), if_pos h.1, if_pos (by omega), w64 (x := p + 1) (by omega) (by omega), w64 (x := p + 2) (by omega) (by omega), w64 (x := rd b p) (by omega) (by omega),
      w64 (x := rd b (p + 1)) (by omega) (by omega), w64 (by omega) (by omega), if_pos (by omega), if_pos (by omega), if_pos h, or_byte r0.1 r0.2 r1.1 r1.2]
  · rw [if_neg (by omega), if_neg h]
theorem spec_GetText_eq (b : List Int) (p : Int) (hb : Bytes b) (hl : b.length ≤ 4611686018427387904) : spec_GetText.f b p = some (getText b p) := by
  unfold spec_GetText.f getText
  rw [spec_GetW_eq b p hb hl]
  simp only [Option.bind_some]
  have r0 := hb.rd p
  have r1 := hb.rd (p + 1)
  by_cases h : 0 ≤ p ∧ p + 2 ≤ b.length
  · have e : getW b p = (rd b p * 256 + rd b (p + 1), p + 2, true) := by unfold getW; rw [if_pos h]
    rw [e]; simp only [if_true]
    by_cases h1 : rd b p * 256 + rd b (p + 1) > 60
    · rw [if_pos h1, if_neg (by omega)]
    · rw [if_neg h1, w64 (x := (b.length : Int) - (p + 2)) (by omega) (by omega)]
      by_cases h2 : rd b p * 256 + rd b (p + 1) > (b.length : Int) - (p + 2)
      · rw [if_pos h2, if_neg (by omega)]
      · rw [if_neg h2, if_pos (by omega), w64 (x := p + 2 + (rd b p * 256 + rd b (p + 1))) (by omega) (by omega), if_pos (by omega), if_pos (by omega), if_pos ⟨trivial, by omega, by omega⟩]
  · have e : getW b p = (0, 0, false) := by unfold getW; rw [if_neg h]
    rw [e]; simp
theorem impl_GetW_eq (b : List Int) (p : Int) (hb : Bytes b) (hl : b.length ≤ 4611686018427387904) : impl_GetW.f b p = some (getW b p) := by
  unfold impl_GetW.f getW
  have r0 := hb.rd p
  have r1 := hb.rd (p + 1)
  rw [w64 (x := (b.length : Int) - 2) (by omega) (by omega)]
  by_cases h : 0 ≤ p ∧ p + 2 ≤ b.length
  · rw [if_neg (by omega), if_neg (by omega), if_pos h.1, if_pos (by omega), w64 (x := p + 1) (by omega) (by omega), w64 (x := p + 2) (by omega) (by omega), w64 (x := rd b p) (by omega) (by omega),
      w64 (x := rd b (p + 1)) (by omega) (by omega), w64 (by omega) (by omega), if_pos (by omega), if_pos (by omega), if_pos h, or_byte r0.1 r0.2 r1.1 r1.2]
  · rw [if_neg h]
    by_cases h0 : p < 0
    · rw [if_pos h0]
    · rw [if_neg h0, if_pos (by omega)]
theorem impl_GetText_eq (b : List Int) (p : Int) (hb : Bytes b) (hl : b.length ≤ 4611686018427387904) : impl_GetText.f b p = some (getText b p) := by
  unfold impl_GetText.f getText
  rw [impl_GetW_eq b p hb hl]
  simp only [Option.bind_some]
  have r0 := hb.rd p
  have r1 := hb.rd (p + 1)
  by_cases h : 0 ≤ p ∧ p + 2 ≤ b.length
  · have e : getW b p = (rd b p * 256 + rd b (p + 1), p + 2, true) := by unfold getW; rw [if_pos h]
    rw [e]; simp only [if_true]
    by_cases h1 : rd b p * 256 + rd b (p + 1) > 60
    · rw [if_pos h1, if_neg (by omega)]
    · rw [if_neg h1, w64 (x := (b.length : Int) - (p + 2)) (by omega) (by omega)]
      by_cases h2 : rd b p * 256 + rd b (p + 1) > (b.length : Int) - (p + 2)
      · rw [if_pos h2, if_neg (by omega)]
      · rw [if_neg h2, if_pos (by omega), w64 (x := p + 2 + (rd b p * 256 + rd b (p + 1))) (by omega) (by omega), if_pos (by omega), if_pos (by omega), if_pos ⟨trivial, by omega, by omega⟩]
  · have e : getW b p = (0, 0, false) := by unfold getW; rw [if_neg h]
    rw [e]; simp

theorem FnExactGetText : laws_FnExactGetText.Pure := by
  intro l p hm _ hb0 _
  have hb := Bytes.of hb0
  apply Ev.rounds
  simp only [laws_FnExactGetText.f]
  by_cases h : (l.length : Int) > 1048576
  · exact ev_pos h (Ev.now _)
  · refine ev_neg h (ev_bind (toByteS_ev l (by omega)) (ev_call (spec_GetText_eq l p hb (by omega)) (ev_bind (toByteS_ev l (by omega)) (ev_call (impl_GetText_eq l p hb (by omega)) (ev_pos rfl (ev_pos rfl ?_))))))
    refine ev_shift ?_
    simp only [laws_FnExactGetText.j0]
    exact ev_neg (by simp) (ev_bind (toByteS_ev l (by omega)) (ev_bind (eqByteS_self l (by omega)) (ev_pos rfl (Ev.now _))))

end Go.Proofs.Ytajcddlhifhefaa.Pure
