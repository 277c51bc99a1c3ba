/- The law FnExactDecNew answers true at every whole number of 64 bits: the program's DecNew tells what the reference's tells, in memory of its own. -/
import Derived.Test.YtfbogcecphnjeaaPFnExactDecNewx1
import Derived.Test.YtfbogcecphnjeaaModel
import Derived.Test.YtfbogcecphnjeaaModelC
import Derived.Test.YtfbogcecphnjeaaModelU
namespace Go.Proofs.Ytfbogcecphnjeaa.Pure
open Go.RowKit Go.Proofs.Ytfbogcecphnjeaa.PFnExactDecNew Go.Proofs.YtfbogcecphnjeaaW.PrintWords Go.Proofs.YtfbogcecphnjeaaW.PrintLast Go.Proofs.Ytfbogcecphnjeaa.Base Go.Proofs.Ytfbogcecphnjeaa.Model

theorem spec_DecNew_eq (n : Int) : spec_DecNew.f n = some (n, [], false) := rfl
theorem impl_DecNew_eq (n : Int) : impl_DecNew.f n = some (n, [], false) := rfl
theorem eqByteS_l0 (a b : List Int) (hl : a.length ≤ 4611686018427387904) (hab : a.length = b.length) (d : Nat) : ∀ (i : Nat), i + d = a.length → (∀ j, j < i → a[j]? = b[j]?) → Ev (fun k => laws_eqByteS.l0 k a b (i : Int)) (decide (a = b)) := by
  induction d with
  | zero =>
    intro i h hj
    refine ev_shift ?_
    simp only [laws_eqByteS.l0]
    refine ev_neg (by omega) (ev_is (Ev.now _) ?_)
    rw [eq_comm, decide_eq_true_eq]
    refine List.ext_getElem? fun j => ?_
    by_cases hji : j < i
    · exact hj j hji
    · rw [List.getElem?_eq_none (by omega), List.getElem?_eq_none (by omega)]
  | succ d ih =>
    intro i h hj
    refine ev_shift ?_
    simp only [laws_eqByteS.l0, next_nat i (by omega)]
    have hi : i < a.length := by omega
    have hi2 : i < b.length := by omega
    refine ev_pos (by omega) (ev_pos (by omega) (ev_pos (by omega) ?_))
    by_cases e : rd a (i : Int) = rd b (i : Int)
    · refine ev_pos e (ih (i + 1) (by omega) fun j hji => ?_)
      by_cases e2 : j = i
      · subst e2; rw [rd_lt a j hi, rd_lt b j hi2] at e; rw [List.getElem?_eq_getElem hi, List.getElem?_eq_getElem hi2, e]
      · exact hj j (by omega)
    · refine ev_neg e (ev_is (Ev.now _) ?_)
      rw [eq_comm, decide_eq_false_iff_not]
      intro hE; subst hE; exact e rfl
theorem eqByteS_ev (a b : List Int) (hl : a.length ≤ 4611686018427387904) : Ev (fun k => laws_eqByteS.f k a b) (decide (a = b)) := by
  simp only [laws_eqByteS.f]
  by_cases e : (a.length : Int) = (b.length : Int)
  · exact ev_pos e (eqByteS_l0 a b hl (by omega) a.length 0 (by omega) fun j hj => by omega)
  · refine ev_neg e (ev_is (Ev.now _) ?_)
    rw [eq_comm, decide_eq_false_iff_not]
    intro hE; subst hE; exact e rfl
theorem eqByteS_self (a : List Int) (hl : a.length ≤ 4611686018427387904) : Ev (fun k => laws_eqByteS.f k a a) true := ev_is (eqByteS_ev a a hl) (by simp)
theorem eqDec_ev (a : Int) (l : List Int) (c : Bool) (a' : Int) (l' : List Int) (c' : Bool) (hl : l.length ≤ 4611686018427387904) : Ev (fun k => laws_eqDec.f k a l c a' l' c') (decide ((a, l, c) = (a', l', c'))) := by
  simp only [laws_eqDec.f]
  by_cases h : a = a'
  · refine ev_pos h (ev_bind (eqByteS_ev l l' hl) ?_)
    by_cases h2 : l = l'
    · refine ev_pos (by simpa using h2) ?_
      by_cases h3 : c = c'
      · exact ev_neg (by simp [h3]) (ev_is (Ev.now _) (by simp [h, h2, h3]))
      · exact ev_pos (by simpa using h3) (ev_is (Ev.now _) (by simp [h3]))
    · exact ev_neg (by simpa using h2) (ev_is (Ev.now _) (by simp [h2]))
  · exact ev_neg h (ev_is (Ev.now _) (by simp [h]))
theorem eqDec_self (a : Int) (l : List Int) (c : Bool) (hl : l.length ≤ 4611686018427387904) : Ev (fun k => laws_eqDec.f k a l c a l c) true := ev_is (eqDec_ev a l c a l c hl) (by simp)
theorem markByteS_l0 (m : Int) (n : Nat) (hm : 0 ≤ m) (hn : m + n ≤ 4611686018427387904) (d : Nat) : ∀ (i : Nat) (x : List Int), i + d = n → x.length = n → (∀ j, j < i → x[j]? = (marks m n)[j]?) → Ev (fun k => laws_markByteS.l0 k x (m + (i : Int)) (i : Int)) (m + (n : Int), marks m n) := by
  induction d with
  | zero =>
    intro i x h hx hj
    refine ev_shift ?_
    simp only [laws_markByteS.l0]
    refine ev_neg (by omega) (ev_is (Ev.now _) ?_)
    have : x = marks m n := List.ext_getElem? fun j => by
      by_cases hji : j < i
      · exact hj j hji
      · rw [List.getElem?_eq_none (by omega), List.getElem?_eq_none (by rw [marks_length]; omega)]
    rw [this, show i = n by omega]
  | succ d ih =>
    intro i x h hx hj
    refine ev_shift ?_
    simp only [laws_markByteS.l0, next_nat i (by omega)]
    have e : wrap64 (m + (i : Int) + 1) = m + ((i + 1 : Nat) : Int) := by rw [w64 (by omega) (by omega)]; omega
    rw [e]
    refine ev_pos (by omega) (ev_pos (by omega) (ih (i + 1) _ (by omega) (by simpa using hx) fun j hji => ?_))
    rw [Int.toNat_natCast]
    by_cases e : j = i
    · subst e; rw [List.getElem?_set_self (by omega), marks_get m n j (by omega)]
    · rw [List.getElem?_set_ne (by omega)]; exact hj j (by omega)
theorem markByteS_ev (l : List Int) (m : Int) (hm : 0 ≤ m) (hn : m + l.length ≤ 4611686018427387904) : Ev (fun k => laws_markByteS.f k l m) (m + (l.length : Int), marks m l.length) := by
  have h := markByteS_l0 m l.length hm hn l.length 0 l (by omega) rfl (fun j hj => by omega)
  simp only [laws_markByteS.f]
  simpa using h
theorem markDec_ev (a : Int) (l : List Int) (c : Bool) (m : Int) (hm : 0 ≤ m) (hn : m + l.length ≤ 4611686018427387904) : Ev (fun k => laws_markDec.f k a l c m) (m + (l.length : Int), marks m l.length) := by
  simp only [laws_markDec.f]
  exact ev_bind (markByteS_ev l m hm hn) (Ev.now _)
theorem heldByteS_l0 (m : Int) (n : Nat) (hm : 0 ≤ m) (hn : m + n ≤ 4611686018427387904) (d : Nat) : ∀ (i : Nat), i + d = n → Ev (fun k => laws_heldByteS.l0 k (marks m n) (m + (i : Int)) (i : Int)) (m + (n : Int)) := by
  induction d with
  | zero =>
    intro i h
    refine ev_shift ?_
    simp only [laws_heldByteS.l0, marks_length]
    exact ev_neg (by omega) (ev_is (Ev.now _) (by omega))
  | succ d ih =>
    intro i h
    refine ev_shift ?_
    simp only [laws_heldByteS.l0, next_nat i (by omega), marks_length]
    have e : wrap64 (m + (i : Int) + 1) = m + ((i + 1 : Nat) : Int) := by rw [w64 (by omega) (by omega)]; omega
    rw [e]
    have hi : i < (marks m n).length := by rw [marks_length]; omega
    have g : rd (marks m n) (i : Int) = (m + (i : Int)) % 256 := by
      have := marks_get m n i (by omega)
      rw [List.getElem?_eq_getElem hi] at this
      rw [rd_lt _ i hi]; exact Option.some.inj this
    exact ev_pos (by omega) (ev_pos (by omega) (ev_pos g (ih (i + 1) (by omega))))
theorem heldByteS_ev (m : Int) (n : Nat) (hm : 0 ≤ m) (hn : m + n ≤ 4611686018427387904) : Ev (fun k => laws_heldByteS.f k (marks m n) m) (m + (n : Int)) := by
  have h := heldByteS_l0 m n hm hn n 0 (by omega)
  simp only [laws_heldByteS.f]
  simpa using h
theorem heldDec_ev (a : Int) (m : Int) (n : Nat) (c : Bool) (hm : 0 ≤ m) (hn : m + n ≤ 4611686018427387904) : Ev (fun k => laws_heldDec.f k a (marks m n) c m) (m + (n : Int)) := by
  simp only [laws_heldDec.f]
  exact ev_bind (heldByteS_ev m n hm hn) (ev_neg (by omega) (Ev.now _))

theorem FnExactDecNew : laws_FnExactDecNew.Pure := by
  intro n _
  apply Ev.rounds
  simp only [laws_FnExactDecNew.f]
  have h0 : ([] : List Int) = marks 1 0 := rfl
  refine ev_call (spec_DecNew_eq n) (ev_call (impl_DecNew_eq n) (ev_bind (eqDec_self n [] false (by simp)) (ev_pos rfl ?_)))
  refine ev_bind (markDec_ev n [] false 1 (by omega) (by simp)) (ev_bind (heldDec_ev n 1 0 false (by omega) (by omega)) (ev_neg (by omega) (ev_pos rfl ?_)))
  refine ev_call (impl_DecNew_eq n) (ev_bind (eqDec_self n [] false (by simp)) (ev_pos rfl ?_))
  exact ev_bind (heldDec_ev n 1 0 false (by omega) (by omega)) (ev_neg (by omega) (ev_pos rfl (Ev.now _)))

end Go.Proofs.Ytfbogcecphnjeaa.Pure
