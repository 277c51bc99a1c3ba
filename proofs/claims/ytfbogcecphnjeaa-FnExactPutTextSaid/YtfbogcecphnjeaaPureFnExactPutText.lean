/- The law FnExactPutText answers true at every row of bytes that memory holds and every text: the program's PutText tells what the reference's tells, in memory of its own, and leaves the row as it was. -/
import Derived.Test.YtfbogcecphnjeaaQFnExactPutTextx2
import Derived.Test.YtfbogcecphnjeaaModel
import Derived.Test.YtfbogcecphnjeaaModelC
import Derived.Test.YtfbogcecphnjeaaModelS
import Derived.Test.YtfbogcecphnjeaaModelU
namespace Go.Proofs.Ytfbogcecphnjeaa.Pure
open Go.RowKit Go.Proofs.Ytfbogcecphnjeaa.QFnExactPutText Go.Proofs.YtfbogcecphnjeaaW.PrintWords Go.Proofs.YtfbogcecphnjeaaW.PrintLast Go.Proofs.Ytfbogcecphnjeaa.Ext Go.Proofs.Ytfbogcecphnjeaa.Xw Go.Proofs.Ytfbogcecphnjeaa.Base Go.Proofs.Ytfbogcecphnjeaa.Model

theorem toByteS_l0 (l : List Int) (hl : l.length ≤ 140737488355328) (d : Nat) : ∀ (i : Nat) (x : List Int), i + d = l.length → x.length = l.length → (∀ j, j < i → x[j]? = l[j]?) → Ev (fun k => laws_toByteS.l0 k l x (i : Int)) l := by
  induction d with
  | zero =>
    intro i x h hx hj
    refine ev_shift ?_
    simp only [laws_toByteS.l0]
    refine ev_neg (by omega) (ev_is (Ev.now _) (List.ext_getElem? fun j => ?_))
    by_cases hji : j < i
    · exact hj j hji
    · rw [List.getElem?_eq_none (by omega), List.getElem?_eq_none (by omega)]
  | succ d ih =>
    intro i x h hx hj
    refine ev_shift ?_
    simp only [laws_toByteS.l0, next_nat i (by omega)]
    refine ev_pos (by omega) (ev_pos (by omega) (ev_pos (by omega) (ih (i + 1) _ (by omega) (by simpa using hx) fun j hji => ?_)))
    have hi : i < l.length := by omega
    rw [rd_lt l i hi, Int.toNat_natCast]
    by_cases e : j = i
    · subst e; rw [List.getElem?_set_self (by omega), List.getElem?_eq_getElem hi]
    · rw [List.getElem?_set_ne (by omega)]; exact hj j (by omega)
theorem toByteS_ev (l : List Int) (hl : l.length ≤ 140737488355328) : Ev (fun k => laws_toByteS.f k l) l := by
  simp only [laws_toByteS.f]
  exact ev_pos (by omega) (ev_pos (by omega) (toByteS_l0 l hl l.length 0 _ (by omega) (by simp) fun j hj => by omega))
theorem eqByteS_l0 (a b : List Int) (hl : a.length ≤ 4611686018427387904) (hab : a.length = b.length) (d : Nat) : ∀ (i : Nat), i + d = a.length → (∀ j, j < i → a[j]? = b[j]?) → Ev (fun k => laws_eqByteS.l0 k a b (i : Int)) (decide (a = b)) := by
  induction d with
  | zero =>
    intro i h hj
    refine ev_shift ?_
    simp only [laws_eqByteS.l0]
    refine ev_neg (by omega) (ev_is (Ev.now _) ?_)
    rw [eq_comm, decide_eq_true_eq]
    refine List.ext_getElem? fun j => ?_
    by_cases hji : j < i
    · exact hj j hji
    · rw [List.getElem?_eq_none (by omega), List.getElem?_eq_none (by omega)]
  | succ d ih =>
    intro i h hj
    refine ev_shift ?_
    simp only [laws_eqByteS.l0, next_nat i (by omega)]
    have hi : i < a.length := by omega
    have hi2 : i < b.length := by omega
    refine ev_pos (by omega) (ev_pos (by omega) (ev_pos (by omega) ?_))
    by_cases e : rd a (i : Int) = rd b (i : Int)
    · refine ev_pos e (ih (i + 1) (by omega) fun j hji => ?_)
      by_cases e2 : j = i
      · subst e2; rw [rd_lt a j hi, rd_lt b j hi2] at e; rw [List.getElem?_eq_getElem hi, List.getElem?_eq_getElem hi2, e]
      · exact hj j (by omega)
    · refine ev_neg e (ev_is (Ev.now _) ?_)
      rw [eq_comm, decide_eq_false_iff_not]
      intro hE; subst hE; exact e rfl
theorem eqByteS_ev (a b : List Int) (hl : a.length ≤ 4611686018427387904) : Ev (fun k => laws_eqByteS.f k a b) (decide (a = b)) := by
  simp only [laws_eqByteS.f]
  by_cases e : (a.length : Int) = (b.length : Int)
  · exact ev_pos e (eqByteS_l0 a b hl (by omega) a.length 0 (by omega) fun j hj => by omega)
  · refine ev_neg e (ev_is (Ev.now _) ?_)
    rw [eq_comm, decide_eq_false_iff_not]
    intro hE; subst hE; exact e rfl
theorem eqByteS_self (a : List Int) (hl : a.length ≤ 4611686018427387904) : Ev (fun k => laws_eqByteS.f k a a) true := ev_is (eqByteS_ev a a hl) (by simp)
theorem markByteS_l0 (m : Int) (n : Nat) (hm : 0 ≤ m) (hn : m + n ≤ 4611686018427387904) (d : Nat) : ∀ (i : Nat) (x : List Int), i + d = n → x.length = n → (∀ j, j < i → x[j]? = (marks m n)[j]?) → Ev (fun k => laws_markByteS.l0 k x (m + (i : Int)) (i : Int)) (m + (n : Int), marks m n) := by
  induction d with
  | zero =>
    intro i x h hx hj
    refine ev_shift ?_
    simp only [laws_markByteS.l0]
    refine ev_neg (by omega) (ev_is (Ev.now _) ?_)
    have : x = marks m n := List.ext_getElem? fun j => by
      by_cases hji : j < i
      · exact hj j hji
      · rw [List.getElem?_eq_none (by omega), List.getElem?_eq_none (by rw [marks_length]; omega)]
    rw [this, show i = n by omega]
  | succ d ih =>
    intro i x h hx hj
    refine ev_shift ?_
    simp only [laws_markByteS.l0, next_nat i (by omega)]
    have e : wrap64 (m + (i : Int) + 1) = m + ((i + 1 : Nat) : Int) := by rw [w64 (by omega) (by omega)]; omega
    rw [e]
    refine ev_pos (by omega) (ev_pos (by omega) (ih (i + 1) _ (by omega) (by simpa using hx) fun j hji => ?_))
    rw [Int.toNat_natCast]
    by_cases e : j = i
    · subst e; rw [List.getElem?_set_self (by omega), marks_get m n j (by omega)]
    · rw [List.getElem?_set_ne (by omega)]; exact hj j (by omega)
theorem markByteS_ev (l : List Int) (m : Int) (hm : 0 ≤ m) (hn : m + l.length ≤ 4611686018427387904) : Ev (fun k => laws_markByteS.f k l m) (m + (l.length : Int), marks m l.length) := by
  have h := markByteS_l0 m l.length hm hn l.length 0 l (by omega) rfl (fun j hj => by omega)
  simp only [laws_markByteS.f]
  simpa using h
theorem heldByteS_l0 (m : Int) (n : Nat) (hm : 0 ≤ m) (hn : m + n ≤ 4611686018427387904) (d : Nat) : ∀ (i : Nat), i + d = n → Ev (fun k => laws_heldByteS.l0 k (marks m n) (m + (i : Int)) (i : Int)) (m + (n : Int)) := by
  induction d with
  | zero =>
    intro i h
    refine ev_shift ?_
    simp only [laws_heldByteS.l0, marks_length]
    exact ev_neg (by omega) (ev_is (Ev.now _) (by omega))
  | succ d ih =>
    intro i h
    refine ev_shift ?_
    simp only [laws_heldByteS.l0, next_nat i (by omega), marks_length]
    have e : wrap64 (m + (i : Int) + 1) = m + ((i + 1 : Nat) : Int) := by rw [w64 (by omega) (by omega)]; omega
    rw [e]
    have hi : i < (marks m n).length := by rw [marks_length]; omega
    have g : rd (marks m n) (i : Int) = (m + (i : Int)) % 256 := by
      have := marks_get m n i (by omega)
      rw [List.getElem?_eq_getElem hi] at this
      rw [rd_lt _ i hi]; exact Option.some.inj this
    exact ev_pos (by omega) (ev_pos (by omega) (ev_pos g (ih (i + 1) (by omega))))
theorem heldByteS_ev (m : Int) (n : Nat) (hm : 0 ≤ m) (hn : m + n ≤ 4611686018427387904) : Ev (fun k => laws_heldByteS.f k (marks m n) m) (m + (n : Int)) := by
  have h := heldByteS_l0 m n hm hn n 0 (by omega)
  simp only [laws_heldByteS.f]
  simpa using h
theorem spec_PutW_eq (b : List Int) (n : Int) (h : b.length + 2 < 140737488355328) : spec_PutW.f b n = some (b ++ word n) := by
  unfold spec_PutW.f word
  have hb : b.length < 140737488355328 := by omega
  simp [hb, h]
def putText (b : List Int) (s : ByteArray) : List Int := if s.size > 60 then b else b ++ word (s.size : Int) ++ numsOf s
theorem putText_length (b : List Int) (s : ByteArray) : (putText b s).length ≤ b.length + 62 := by
  unfold putText
  by_cases h : s.size > 60
  · rw [if_pos h]; omega
  · rw [if_neg h, List.length_append, List.length_append, numsOf_length]; show b.length + 2 + s.size ≤ _; omega
theorem spec_PutText_eq (b : List Int) (s : ByteArray) (h : b.length + 100 < 140737488355328) : spec_PutText.f b s = some (putText b s) := by
  unfold spec_PutText.f putText
  by_cases h1 : s.size > 60
  · rw [if_pos (by omega), if_pos h1]
    simp
    omega
  · rw [if_neg (by omega), if_neg h1, spec_PutW_eq b _ (by omega)]
    simp only [Option.bind_some]
    rw [if_pos (by rw [List.length_append]; show b.length + 2 + s.size < _; omega)]
    rfl
theorem impl_joined_1 (a : List Int) (h : a.length < 140737488355328) : Ev (fun k => impl_joined.f k [a]) a := by
  refine ev_shift (ev_shift (ev_same fun k => ?_))
  simp only [impl_joined.f, impl_joined.l0]
  simp [rd_L1, wrap64, h]
theorem impl_joined_2 (a b : List Int) (h : a.length + b.length < 140737488355328) : Ev (fun k => impl_joined.f k [a, b]) (a ++ b) := by
  refine ev_shift (ev_shift (ev_shift (ev_same fun k => ?_)))
  have ha : a.length < 140737488355328 := by omega
  simp only [impl_joined.f, impl_joined.l0]
  simp [rd_L1, wrap64, h, ha]
theorem impl_PutW_ev (b : List Int) (n : Int) (h : b.length + 2 < 140737488355328) : Ev (fun k => impl_PutW.f k b n) (b ++ word n) := by
  have e : [(Go.bits .and .i64 (n / 256) 255) % 256, (Go.bits .and .i64 n 255) % 256] = word n := by
    unfold word; rw [and_255, and_255]; simp
  simp only [impl_PutW.f, e]
  exact ev_bind (impl_joined_2 b (word n) (by simpa [word] using h)) (Ev.now _)
theorem impl_PutText_ev (b : List Int) (s : ByteArray) (h : b.length + 100 < 140737488355328) : Ev (fun k => impl_PutText.f k b s) (if s.size > 60 then b else b ++ word (s.size : Int) ++ numsOf s) := by
  simp only [impl_PutText.f]
  by_cases h1 : s.size > 60
  · rw [if_pos h1]
    exact ev_pos (by omega) (ev_bind (impl_joined_1 b (by omega)) (Ev.now _))
  · rw [if_neg h1]
    exact ev_neg (by omega) (ev_bind (impl_PutW_ev b _ (by omega)) (ev_pos (by omega) (ev_bind (impl_joined_2 _ _ (by rw [List.length_append, numsOf_length]; show b.length + 2 + s.size < _; omega)) (Ev.now _))))

theorem FnExactPutText : laws_FnExactPutText.Pure := by
  intro l s hm _ hb0 _
  apply Ev.rounds
  simp only [laws_FnExactPutText.f]
  by_cases h : (l.length : Int) > 1048576
  · exact ev_pos h (Ev.now _)
  · by_cases h2 : (s.size : Int) > 1048576
    · exact ev_neg h (ev_pos h2 (Ev.now _))
    · have hw := putText_length l s
      have hi : Ev (fun k => impl_PutText.f k l s) (putText l s) := impl_PutText_ev l s (by omega)
      refine ev_neg h (ev_neg h2 (ev_bind (toByteS_ev l (by omega)) (ev_call (spec_PutText_eq l s (by omega)) (ev_bind (toByteS_ev l (by omega)) (ev_bind hi (ev_bind (eqByteS_self _ (by omega)) (ev_pos rfl ?_)))))))
      refine ev_bind (toByteS_ev l (by omega)) (ev_bind (eqByteS_self _ (by omega)) (ev_pos rfl (ev_bind (markByteS_ev l 1 (by omega) (by omega)) (ev_neg (by simp only []; omega) ?_))))
      refine ev_bind (eqByteS_self _ (by omega)) (ev_shift ?_)
      simp only [laws_FnExactPutText.j0]
      refine ev_neg (by simp) (ev_bind (markByteS_ev _ 1 (by omega) (by omega)) (ev_bind (heldByteS_ev 1 _ (by omega) (by omega)) (ev_neg (by omega) (ev_pos rfl ?_))))
      refine ev_bind (toByteS_ev l (by omega)) (ev_bind hi (ev_bind (eqByteS_self _ (by omega)) (ev_pos rfl ?_)))
      exact ev_bind (heldByteS_ev 1 _ (by omega) (by omega)) (ev_neg (by omega) (ev_pos rfl (Ev.now _)))

end Go.Proofs.Ytfbogcecphnjeaa.Pure
