/- The law FnExactSum answers true at every row of bytes that memory holds: the program's Sum tells what the reference's tells, and leaves the row as it was. -/
import Derived.Test.YtajcddlhifhefaaPFnExactSumx1
import Derived.Test.YtajcddlhifhefaaModel
namespace Go.Proofs.Ytajcddlhifhefaa.Pure
open Go.RowKit Go.Proofs.Ytajcddlhifhefaa.PFnExactSum Go.Proofs.YtajcddlhifhefaaW.PrintWords Go.Proofs.YtajcddlhifhefaaW.PrintLast Go.Proofs.Ytajcddlhifhefaa.Base Go.Proofs.Ytajcddlhifhefaa.Model

theorem toByteS_l0 (l : List Int) (hl : l.length ≤ 140737488355328) (d : Nat) : ∀ (i : Nat) (x : List Int), i + d = l.length → x.length = l.length → (∀ j, j < i → x[j]? = l[j]?) → Ev (fun k => laws_toByteS.l0 k l x (i : Int)) l := by
  induction d with
  | zero =>
    intro i x h hx hj
    refine ev_shift ?_
    simp only [laws_toByteS.l0]
    refine ev_neg (by omega) (ev_is (Ev.now _) (List.ext_getElem? fun j => ?_))
    by_cases hji : j < i
    · exact hj j hji
    · rw [List.getElem?_eq_none (by omega), List.getElem?_eq_none (by omega)]
  | succ d ih =>
    intro i x h hx hj
    refine ev_shift ?_
    simp only [laws_toByteS.l0, next_nat i (by omega)]
    refine ev_pos (by omega) (ev_pos (by omega) (ev_pos (by omega) (ih (i + 1) _ (by omega) (by simpa using hx) fun j hji => ?_)))
    have hi : i < l.length := by omega
    rw [rd_lt l i hi, Int.toNat_natCast]
    by_cases e : j = i
    · subst e; rw [List.getElem?_set_self (by omega), List.getElem?_eq_getElem hi]
    · rw [List.getElem?_set_ne (by omega)]; exact hj j (by omega)
theorem toByteS_ev (l : List Int) (hl : l.length ≤ 140737488355328) : Ev (fun k => laws_toByteS.f k l) l := by
  simp only [laws_toByteS.f]
  exact ev_pos (by omega) (ev_pos (by omega) (toByteS_l0 l hl l.length 0 _ (by omega) (by simp) fun j hj => by omega))
theorem eqByteS_l0 (a b : List Int) (hl : a.length ≤ 4611686018427387904) (hab : a.length = b.length) (d : Nat) : ∀ (i : Nat), i + d = a.length → (∀ j, j < i → a[j]? = b[j]?) → Ev (fun k => laws_eqByteS.l0 k a b (i : Int)) (decide (a = b)) := by
  induction d with
  | zero =>
    intro i h hj
    refine ev_shift ?_
    simp only [laws_eqByteS.l0]
    refine ev_neg (by omega) (ev_is (Ev.now _) ?_)
    rw [eq_comm, decide_eq_true_eq]
    refine List.ext_getElem? fun j => ?_
    by_cases hji : j < i
    · exact hj j hji
    · rw [List.getElem?_eq_none (by omega), List.getElem?_eq_none (by omega)]
  | succ d ih =>
    intro i h hj
    refine ev_shift ?_
    simp only [laws_eqByteS.l0, next_nat i (by omega)]
    have hi : i < a.length := by omega
    have hi2 : i < b.length := by omega
    refine ev_pos (by omega) (ev_pos (by omega) (ev_pos (by omega) ?_))
    by_cases e : rd a (i : Int) = rd b (i : Int)
    · refine ev_pos e (ih (i + 1) (by omega) fun j hji => ?_)
      by_cases e2 : j = i
      · subst e2; rw [rd_lt a j hi, rd_lt b j hi2] at e; rw [List.getElem?_eq_getElem hi, List.getElem?_eq_getElem hi2, e]
      · exact hj j (by omega)
    · refine ev_neg e (ev_is (Ev.now _) ?_)
      rw [eq_comm, decide_eq_false_iff_not]
      intro hE; subst hE; exact e rfl
theorem eqByteS_ev (a b : List Int) (hl : a.length ≤ 4611686018427387904) : Ev (fun k => laws_eqByteS.f k a b) (decide (a = b)) := by
  simp only [laws_eqByteS.f]
  by_cases e : (a.length : Int) = (b.length : Int)
  · exact ev_pos e (eqByteS_l0 a b hl (by omega) a.length 0 (by omega) fun j hj => by omega)
  · refine ev_neg e (ev_is (Ev.now _) ?_)
    rw [eq_comm, decide_eq_false_iff_not]
    intro hE; subst hE; exact e rfl
theorem eqByteS_self (a : List Int) (hl : a.length ≤ 4611686018427387904) : Ev (fun k => laws_eqByteS.f k a a) true := ev_is (eqByteS_ev a a hl) (by simp)
theorem spec_Sum_l1 (l : List Int) (p : Int) (r : Int) (d : Nat) : ∀ (i : Nat) (x : Nat), i + d = 8 → x ≤ 65535 → Ev (fun k => spec_Sum.l0 k l (sumBits d x : Nat) (wrap64 (p + 1))) r → Ev (fun k => spec_Sum.l1 k l (x : Int) p (i : Int)) r := by
  induction d with
  | zero =>
    intro i x h hx hr
    refine ev_shift ?_
    simp only [spec_Sum.l1]
    exact ev_neg (by omega) hr
  | succ d ih =>
    intro i x h hx hr
    refine ev_shift ?_
    simp only [spec_Sum.l1, next_nat i (by omega)]
    have e : wrap64 ((x : Int) * 2) = ((x * 2 : Nat) : Int) := by rw [w64 (by omega) (by omega)]; omega
    rw [e]
    refine ev_pos (by omega) ?_
    have hb := sumBit_le x hx
    by_cases h1 : x * 2 > 65535
    · refine ev_pos (by omega) ?_
      have e2 : Go.bits .xor .i64 ((x * 2 : Nat) : Int) 69665 = ((sumBit x : Nat) : Int) := by
        rw [sumBit, if_pos h1]; exact xor_nat (x * 2) 69665 (by omega) (by decide)
      rw [e2]
      exact ih (i + 1) _ (by omega) hb hr
    · refine ev_neg (by omega) ?_
      have e2 : x * 2 = sumBit x := by rw [sumBit, if_neg h1]
      rw [e2]
      exact ih (i + 1) _ (by omega) hb hr
theorem spec_Sum_l0 (l : List Int) (hl : l.length ≤ 4611686018427387904) (hb : Bytes l) (d : Nat) : ∀ (i : Nat) (x : Nat), i + d = l.length → x ≤ 65535 → Ev (fun k => spec_Sum.l0 k l (x : Int) (i : Int)) ((sumFrom x (l.drop i) : Nat) : Int) := by
  induction d with
  | zero =>
    intro i x h hx
    refine ev_shift ?_
    simp only [spec_Sum.l0]
    rw [List.drop_of_length_le (by omega), and_65535]
    have e : (x : Int) % 65536 = (x : Int) := by omega
    rw [e]
    exact ev_neg (by omega) (Ev.now _)
  | succ d ih =>
    intro i x h hx
    refine ev_shift ?_
    have hi : i < l.length := by omega
    have hr := hb.rd (i : Int)
    have hw : wrap64 (wrap64 (rd l (i : Int)) * 256) = (((rd l (i : Int)).toNat * 256 : Nat) : Int) := by
      rw [w64 (x := rd l (i : Int)) (by omega) (by omega), w64 (by omega) (by omega)]; omega
    simp only [spec_Sum.l0, hw]
    rw [xor_nat _ _ (by omega) (by omega)]
    refine ev_pos (by omega) (ev_pos (by omega) ?_)
    have e0 : (0 : Int) = ((0 : Nat) : Int) := rfl
    rw [e0]
    refine spec_Sum_l1 l i _ 8 0 _ (by omega) (xor_byte_le x _ hx hr.1 hr.2) ?_
    have e3 : sumBits 8 (x ^^^ ((rd l (i : Int)).toNat * 256)) = sumByte x (rd l (i : Int)) := rfl
    have e4 : sumFrom x (rd l (i : Int) :: l.drop (i + 1)) = sumFrom (sumByte x (rd l (i : Int))) (l.drop (i + 1)) := sumFrom_cons _ _ _
    rw [next_nat i (by omega), List.drop_eq_getElem_cons hi, ← rd_lt l i hi, e3, e4]
    exact ih (i + 1) _ (by omega) (sumByte_le x _ hx hr.1 hr.2)
theorem spec_Sum_ev (l : List Int) (hl : l.length ≤ 4611686018427387904) (hb : Bytes l) : Ev (fun k => spec_Sum.f k l) (sum l) := by
  have h := spec_Sum_l0 l hl hb l.length 0 65535 (by omega) (by omega)
  rw [List.drop_zero] at h
  simp only [spec_Sum.f, sum]
  exact h
theorem impl_Sum_l1 (l : List Int) (n p : Int) (r : Int) (d : Nat) : ∀ (i : Nat) (x : Nat), i + d = 8 → x ≤ 65535 → Ev (fun k => impl_Sum.l0 k (sumBits d x : Nat) l n (wrap64 (p + 1))) r → Ev (fun k => impl_Sum.l1 k (x : Int) l n p (i : Int)) r := by
  induction d with
  | zero =>
    intro i x h hx hr
    refine ev_shift ?_
    simp only [impl_Sum.l1]
    exact ev_neg (by omega) hr
  | succ d ih =>
    intro i x h hx hr
    refine ev_shift ?_
    simp only [impl_Sum.l1, next_nat i (by omega)]
    have e : wrap64 ((x : Int) * 2) = ((x * 2 : Nat) : Int) := by rw [w64 (by omega) (by omega)]; omega
    rw [e]
    refine ev_pos (by omega) ?_
    have hb := sumBit_le x hx
    by_cases h1 : x * 2 > 65535
    · refine ev_pos (by omega) ?_
      have e2 : Go.bits .xor .i64 ((x * 2 : Nat) : Int) 69665 = ((sumBit x : Nat) : Int) := by
        rw [sumBit, if_pos h1]; exact xor_nat (x * 2) 69665 (by omega) (by decide)
      rw [e2]
      exact ih (i + 1) _ (by omega) hb hr
    · refine ev_neg (by omega) ?_
      have e2 : x * 2 = sumBit x := by rw [sumBit, if_neg h1]
      rw [e2]
      exact ih (i + 1) _ (by omega) hb hr
theorem impl_Sum_l0 (l : List Int) (hl : l.length ≤ 4611686018427387904) (hb : Bytes l) (d : Nat) : ∀ (i : Nat) (x : Nat), i + d = l.length → x ≤ 65535 → Ev (fun k => impl_Sum.l0 k (x : Int) l (l.length : Int) (i : Int)) ((sumFrom x (l.drop i) : Nat) : Int) := by
  induction d with
  | zero =>
    intro i x h hx
    refine ev_shift ?_
    simp only [impl_Sum.l0]
    rw [List.drop_of_length_le (by omega), and_65535]
    have e : (x : Int) % 65536 = (x : Int) := by omega
    rw [e]
    exact ev_neg (by omega) (Ev.now _)
  | succ d ih =>
    intro i x h hx
    refine ev_shift ?_
    have hi : i < l.length := by omega
    have hr := hb.rd (i : Int)
    have hw : wrap64 (256 * wrap64 (rd l (i : Int))) = (((rd l (i : Int)).toNat * 256 : Nat) : Int) := by
      rw [w64 (x := rd l (i : Int)) (by omega) (by omega), w64 (by omega) (by omega)]; omega
    simp only [impl_Sum.l0, hw]
    rw [xor_nat _ _ (by omega) (by omega)]
    refine ev_pos (by omega) (ev_pos (by omega) (ev_pos (by omega) ?_))
    have e0 : (0 : Int) = ((0 : Nat) : Int) := rfl
    rw [e0]
    refine impl_Sum_l1 l l.length i _ 8 0 _ (by omega) (xor_byte_le x _ hx hr.1 hr.2) ?_
    have e3 : sumBits 8 (x ^^^ ((rd l (i : Int)).toNat * 256)) = sumByte x (rd l (i : Int)) := rfl
    have e4 : sumFrom x (rd l (i : Int) :: l.drop (i + 1)) = sumFrom (sumByte x (rd l (i : Int))) (l.drop (i + 1)) := sumFrom_cons _ _ _
    rw [next_nat i (by omega), List.drop_eq_getElem_cons hi, ← rd_lt l i hi, e3, e4]
    exact ih (i + 1) _ (by omega) (sumByte_le x _ hx hr.1 hr.2)
theorem impl_Sum_ev (l : List Int) (hl : l.length ≤ 4611686018427387904) (hb : Bytes l) : Ev (fun k => impl_Sum.f k l) (sum l) := by
  have h := impl_Sum_l0 l hl hb l.length 0 65535 (by omega) (by omega)
  rw [List.drop_zero] at h
  simp only [impl_Sum.f, sum]
  exact h

theorem FnExactSum : laws_FnExactSum.Pure := by
  intro l hm _ hb0
  have hb := Bytes.of hb0
  apply Ev.rounds
  simp only [laws_FnExactSum.f]
  by_cases h : (l.length : Int) > 1048576
  · exact ev_pos h (Ev.now _)
  · exact ev_neg h (ev_bind (toByteS_ev l (by omega)) (ev_bind (spec_Sum_ev l (by omega) hb) (ev_bind (toByteS_ev l (by omega)) (ev_bind (impl_Sum_ev l (by omega) hb) (ev_pos rfl
      (ev_bind (toByteS_ev l (by omega)) (ev_bind (eqByteS_self l (by omega)) (ev_pos rfl (Ev.now _)))))))))

end Go.Proofs.Ytajcddlhifhefaa.Pure
