/- The law FnExactEucSign answers true at every row of bytes that memory holds and every place: the program's EucSign tells what the reference's tells, and leaves the row as it was. -/
import Derived.Test.YtfbogcecphnjeaaPFnExactEucSignx2
import Derived.Test.YtfbogcecphnjeaaModel
import Derived.Test.YtfbogcecphnjeaaModelC
import Derived.Test.YtfbogcecphnjeaaModelU
namespace Go.Proofs.Ytfbogcecphnjeaa.Pure
open Go.RowKit Go.Proofs.Ytfbogcecphnjeaa.PFnExactEucSign Go.Proofs.YtfbogcecphnjeaaW.PrintWords Go.Proofs.YtfbogcecphnjeaaW.PrintLast Go.Proofs.Ytfbogcecphnjeaa.Base Go.Proofs.Ytfbogcecphnjeaa.Model

theorem toByteS_l0 (l : List Int) (hl : l.length ≤ 140737488355328) (d : Nat) : ∀ (i : Nat) (x : List Int), i + d = l.length → x.length = l.length → (∀ j, j < i → x[j]? = l[j]?) → Ev (fun k => laws_toByteS.l0 k l x (i : Int)) l := by
  induction d with
  | zero =>
    intro i x h hx hj
    refine ev_shift ?_
    simp only [laws_toByteS.l0]
    refine ev_neg (by omega) (ev_is (Ev.now _) (List.ext_getElem? fun j => ?_))
    by_cases hji : j < i
    · exact hj j hji
    · rw [List.getElem?_eq_none (by omega), List.getElem?_eq_none (by omega)]
  | succ d ih =>
    intro i x h hx hj
    refine ev_shift ?_
    simp only [laws_toByteS.l0, next_nat i (by omega)]
    refine ev_pos (by omega) (ev_pos (by omega) (ev_pos (by omega) (ih (i + 1) _ (by omega) (by simpa using hx) fun j hji => ?_)))
    have hi : i < l.length := by omega
    rw [rd_lt l i hi, Int.toNat_natCast]
    by_cases e : j = i
    · subst e; rw [List.getElem?_set_self (by omega), List.getElem?_eq_getElem hi]
    · rw [List.getElem?_set_ne (by omega)]; exact hj j (by omega)
theorem toByteS_ev (l : List Int) (hl : l.length ≤ 140737488355328) : Ev (fun k => laws_toByteS.f k l) l := by
  simp only [laws_toByteS.f]
  exact ev_pos (by omega) (ev_pos (by omega) (toByteS_l0 l hl l.length 0 _ (by omega) (by simp) fun j hj => by omega))
theorem eqByteS_l0 (a b : List Int) (hl : a.length ≤ 4611686018427387904) (hab : a.length = b.length) (d : Nat) : ∀ (i : Nat), i + d = a.length → (∀ j, j < i → a[j]? = b[j]?) → Ev (fun k => laws_eqByteS.l0 k a b (i : Int)) (decide (a = b)) := by
  induction d with
  | zero =>
    intro i h hj
    refine ev_shift ?_
    simp only [laws_eqByteS.l0]
    refine ev_neg (by omega) (ev_is (Ev.now _) ?_)
    rw [eq_comm, decide_eq_true_eq]
    refine List.ext_getElem? fun j => ?_
    by_cases hji : j < i
    · exact hj j hji
    · rw [List.getElem?_eq_none (by omega), List.getElem?_eq_none (by omega)]
  | succ d ih =>
    intro i h hj
    refine ev_shift ?_
    simp only [laws_eqByteS.l0, next_nat i (by omega)]
    have hi : i < a.length := by omega
    have hi2 : i < b.length := by omega
    refine ev_pos (by omega) (ev_pos (by omega) (ev_pos (by omega) ?_))
    by_cases e : rd a (i : Int) = rd b (i : Int)
    · refine ev_pos e (ih (i + 1) (by omega) fun j hji => ?_)
      by_cases e2 : j = i
      · subst e2; rw [rd_lt a j hi, rd_lt b j hi2] at e; rw [List.getElem?_eq_getElem hi, List.getElem?_eq_getElem hi2, e]
      · exact hj j (by omega)
    · refine ev_neg e (ev_is (Ev.now _) ?_)
      rw [eq_comm, decide_eq_false_iff_not]
      intro hE; subst hE; exact e rfl
theorem eqByteS_ev (a b : List Int) (hl : a.length ≤ 4611686018427387904) : Ev (fun k => laws_eqByteS.f k a b) (decide (a = b)) := by
  simp only [laws_eqByteS.f]
  by_cases e : (a.length : Int) = (b.length : Int)
  · exact ev_pos e (eqByteS_l0 a b hl (by omega) a.length 0 (by omega) fun j hj => by omega)
  · refine ev_neg e (ev_is (Ev.now _) ?_)
    rw [eq_comm, decide_eq_false_iff_not]
    intro hE; subst hE; exact e rfl
theorem eqByteS_self (a : List Int) (hl : a.length ≤ 4611686018427387904) : Ev (fun k => laws_eqByteS.f k a a) true := ev_is (eqByteS_ev a a hl) (by simp)
theorem spec_l1In_eq (a b c : Int) : spec_l1In.f a b c = some (inR a b c) := by
  unfold spec_l1In.f inR; by_cases h : a ≥ b <;> simp [h]
theorem spec_PairSign_ev (a b : Int) : Ev (fun k => spec_PairSign.f k a b) (pairSign a b) := by
  refine ev_shift (ev_same fun k => ?_)
  simp only [spec_PairSign.f, spec_PairSign.j0, spec_l1In_eq, Option.bind_some, inR_true]
  unfold pairSign
  by_cases h : a = 164
  · by_cases h2 : 161 ≤ b ∧ b ≤ 243
    · rw [if_pos h, if_pos h2, if_pos ⟨h, h2.1, h2.2⟩, w64 (x := 12353 + b) (by omega) (by omega), w64 (by omega) (by omega)]
    · rw [if_pos h, if_neg h2, if_neg (c := a = 165) (by omega), if_neg (c := a = 164 ∧ 161 ≤ b ∧ b ≤ 243) (by omega), if_neg (c := a = 165 ∧ 161 ≤ b ∧ b ≤ 246) (by omega)]
  · rw [if_neg h, if_neg (by decide), if_neg (c := a = 164 ∧ 161 ≤ b ∧ b ≤ 243) (by omega)]
    by_cases h1 : a = 165
    · by_cases h2 : 161 ≤ b ∧ b ≤ 246
      · rw [if_pos h1, if_pos h2, if_pos ⟨h1, h2.1, h2.2⟩, w64 (x := 12449 + b) (by omega) (by omega), w64 (by omega) (by omega)]
      · rw [if_pos h1, if_neg h2, if_neg (c := a = 165 ∧ 161 ≤ b ∧ b ≤ 246) (by omega)]
    · rw [if_neg h1, if_neg (c := a = 165 ∧ 161 ≤ b ∧ b ≤ 246) (by omega)]
theorem spec_EucSign_ev (b : List Int) (p : Int) (hb : Bytes b) (hl : b.length ≤ 4611686018427387904) : Ev (fun k => spec_EucSign.f k b p) (eucSign b p) := by
  have r0 := hb.rd p
  have r1 := hb.rd (p + 1)
  have e1 : wrap64 ((b.length : Int) - 1) = (b.length : Int) - 1 := w64 (by omega) (by omega)
  have e2 : wrap64 (rd b p) = rd b p := w64 (by omega) (by omega)
  have e3 : wrap64 (rd b (p + 1)) = rd b (p + 1) := w64 (by omega) (by omega)
  unfold eucSign
  simp only [spec_EucSign.f, spec_l1In_eq, Option.bind_some, inR_true, e1, e2]
  by_cases h : 0 ≤ p ∧ p < b.length
  · have e4 : wrap64 (p + 1) = p + 1 := w64 (by omega) (by omega)
    have e5 : wrap64 (p + 2) = p + 2 := w64 (by omega) (by omega)
    rw [if_pos h]
    simp only [e4, e5, e3]
    refine ev_pos (by omega) (ev_pos h.1 (ev_pos h.2 ?_))
    by_cases h1 : rd b p ≤ 127
    · rw [if_pos h1]; exact ev_pos (by omega) (Ev.now _)
    · rw [if_neg h1]
      refine ev_neg (by omega) ?_
      by_cases h2 : p + 1 < b.length
      · refine ev_neg (by omega) (ev_pos (by omega) (ev_pos h2 (ev_bind (spec_PairSign_ev _ _) ?_)))
        by_cases h3 : (pairSign (rd b p) (rd b (p + 1))).2 = true
        · rw [if_pos (c := p + 1 < (b.length : Int) ∧ (pairSign (rd b p) (rd b (p + 1))).2 = true) ⟨h2, h3⟩]; exact ev_pos h3 (Ev.now _)
        · rw [if_neg (c := p + 1 < (b.length : Int) ∧ (pairSign (rd b p) (rd b (p + 1))).2 = true) (fun z => h3 z.2)]; exact ev_neg h3 (Ev.now _)
      · rw [if_neg (c := p + 1 < (b.length : Int) ∧ (pairSign (rd b p) (rd b (p + 1))).2 = true) (fun z => h2 z.1)]; exact ev_pos (by omega) (Ev.now _)
  · rw [if_neg h]; exact ev_neg (by omega) (Ev.now _)
theorem impl_within_eq (a b c : Int) : impl_within.f a b c = some (inR a b c) := by
  unfold impl_within.f inR; by_cases h : a ≥ b <;> simp [h]
theorem impl_PairSign_ev (a b : Int) : Ev (fun k => impl_PairSign.f k a b) (pairSign a b) := by
  refine ev_shift (ev_same fun k => ?_)
  simp only [impl_PairSign.f, impl_PairSign.j0, impl_within_eq, Option.bind_some, inR_true]
  unfold pairSign
  by_cases h : a = 164
  · by_cases h2 : 161 ≤ b ∧ b ≤ 243
    · rw [if_pos h, if_pos h2, if_pos ⟨h, h2.1, h2.2⟩, w64 (x := 12353 + b) (by omega) (by omega), w64 (by omega) (by omega)]
    · rw [if_pos h, if_neg h2, if_neg (c := a = 165) (by omega), if_neg (c := a = 164 ∧ 161 ≤ b ∧ b ≤ 243) (by omega), if_neg (c := a = 165 ∧ 161 ≤ b ∧ b ≤ 246) (by omega)]
  · rw [if_neg h, if_neg (by decide), if_neg (c := a = 164 ∧ 161 ≤ b ∧ b ≤ 243) (by omega)]
    by_cases h1 : a = 165
    · by_cases h2 : 161 ≤ b ∧ b ≤ 246
      · rw [if_pos h1, if_pos h2, if_pos ⟨h1, h2.1, h2.2⟩, w64 (x := 12449 + b) (by omega) (by omega), w64 (by omega) (by omega)]
      · rw [if_pos h1, if_neg h2, if_neg (c := a = 165 ∧ 161 ≤ b ∧ b ≤ 246) (by omega)]
    · rw [if_neg h1, if_neg (c := a = 165 ∧ 161 ≤ b ∧ b ≤ 246) (by omega)]
theorem impl_EucSign_ev (b : List Int) (p : Int) (hb : Bytes b) (hl : b.length ≤ 4611686018427387904) : Ev (fun k => impl_EucSign.f k b p) (eucSign b p) := by
  have r0 := hb.rd p
  have r1 := hb.rd (p + 1)
  have e2 : wrap64 (rd b p) = rd b p := w64 (by omega) (by omega)
  have e3 : wrap64 (rd b (p + 1)) = rd b (p + 1) := w64 (by omega) (by omega)
  unfold eucSign
  refine ev_shift ?_
  simp only [impl_EucSign.f, impl_EucSign.j0, e2]
  by_cases h : 0 ≤ p ∧ p < b.length
  · have e4 : wrap64 (p + 1) = p + 1 := w64 (by omega) (by omega)
    have e5 : wrap64 (p + 2) = p + 2 := w64 (by omega) (by omega)
    rw [if_pos h]
    simp only [e4, e5, e3]
    refine ev_neg (by omega) (ev_neg (by simp; omega) (ev_pos h.1 (ev_pos h.2 ?_)))
    by_cases h1 : rd b p ≤ 127
    · rw [if_pos h1]; exact ev_pos h1 (Ev.now _)
    · rw [if_neg h1]
      refine ev_neg h1 ?_
      by_cases h2 : p + 1 < b.length
      · refine ev_neg (by omega) (ev_pos (by omega) (ev_pos h2 ?_))
        refine ev_bind (impl_PairSign_ev (rd b p) (rd b (p + 1))) ?_
        by_cases h3 : (pairSign (rd b p) (rd b (p + 1))).2 = true
        · rw [if_pos (c := p + 1 < (b.length : Int) ∧ (pairSign (rd b p) (rd b (p + 1))).2 = true) ⟨h2, h3⟩]; exact ev_pos h3 (Ev.now _)
        · rw [if_neg (c := p + 1 < (b.length : Int) ∧ (pairSign (rd b p) (rd b (p + 1))).2 = true) (fun z => h3 z.2)]; exact ev_neg h3 (Ev.now _)
      · rw [if_neg (c := p + 1 < (b.length : Int) ∧ (pairSign (rd b p) (rd b (p + 1))).2 = true) (fun z => h2 z.1)]; exact ev_pos (by omega) (Ev.now _)
  · rw [if_neg h]
    by_cases h0 : p < 0
    · exact ev_pos h0 (ev_pos (by simp) (Ev.now _))
    · exact ev_neg h0 (ev_pos (by simp; omega) (Ev.now _))

theorem FnExactEucSign : laws_FnExactEucSign.Pure := by
  intro l p hm _ hb0 _
  have hb := Bytes.of hb0
  apply Ev.rounds
  simp only [laws_FnExactEucSign.f]
  by_cases h : (l.length : Int) > 1048576
  · exact ev_pos h (Ev.now _)
  · refine ev_neg h (ev_bind (toByteS_ev l (by omega)) (ev_bind (spec_EucSign_ev l p hb (by omega)) (ev_bind (toByteS_ev l (by omega)) (ev_bind (impl_EucSign_ev l p hb (by omega)) (ev_pos rfl (ev_pos rfl ?_))))))
    refine ev_shift ?_
    simp only [laws_FnExactEucSign.j0]
    exact ev_neg (by simp) (ev_bind (toByteS_ev l (by omega)) (ev_bind (eqByteS_self l (by omega)) (ev_pos rfl (Ev.now _))))

end Go.Proofs.Ytfbogcecphnjeaa.Pure
