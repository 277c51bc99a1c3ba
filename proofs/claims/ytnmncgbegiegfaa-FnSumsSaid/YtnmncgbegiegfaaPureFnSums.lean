/- The law FnSums answers true at every row of bytes that memory holds: a byte of drawn ones that is turned turns the sum. -/
import Derived.Test.YtnmncgbegiegfaaQFnSumsx2
import Derived.Test.YtnmncgbegiegfaaModel
import Derived.Test.YtnmncgbegiegfaaModelC
import Derived.Test.YtnmncgbegiegfaaModelU
namespace Go.Proofs.Ytnmncgbegiegfaa.Pure
open Go.RowKit Go.Proofs.Ytnmncgbegiegfaa.QFnSums Go.Proofs.YtnmncgbegiegfaaW.PrintWords Go.Proofs.YtnmncgbegiegfaaW.PrintLast Go.Proofs.Ytnmncgbegiegfaa.Ext Go.Proofs.Ytnmncgbegiegfaa.Base Go.Proofs.Ytnmncgbegiegfaa.Model

theorem laws_big_eq (c : List Int) : laws_big.f c = some (decide ((c.length : Int) > 1048576)) := rfl
theorem l1New_l0 (c : List Int) (_hl : c.length ≤ 4611686018427387904) (d : Nat) : ∀ (i : Nat) (h : Int), i + d = c.length → ∃ h', Ev (fun k => spec_l1New.l0 k c h (i : Int)) (c, 0, h') := by
  induction d with
  | zero =>
    intro i h hi
    refine ⟨h, ev_shift ?_⟩
    simp only [spec_l1New.l0]
    exact ev_neg (by omega) (Ev.now _)
  | succ d ih =>
    intro i h hi
    by_cases h4 : (i : Int) < 4000
    · obtain ⟨h', e⟩ := ih (i + 1) (Go.bits .and .i64 (wrap64 ((wrap64 ((wrap64 (h * 137)) + (wrap64 (rd c (i : Int))))) + 11)) 1073741823) (by omega)
      refine ⟨h', ev_shift ?_⟩
      simp only [spec_l1New.l0, next_nat i (by omega)]
      exact ev_pos (by omega) (ev_pos h4 (ev_pos (by omega) e))
    · refine ⟨h, ev_shift ?_⟩
      simp only [spec_l1New.l0]
      exact ev_pos (by omega) (ev_neg h4 (Ev.now _))
theorem l1New_ev (c : List Int) (hl : c.length ≤ 4611686018427387904) : ∃ h, Ev (fun k => spec_l1New.f k c) (c, 0, h) := l1New_l0 c hl c.length 0 _ (by omega)
theorem l1Byte_ok (c : List Int) (i h : Int) (hi : 0 ≤ i) (hl : c.length ≤ 4611686018427387904) : ∃ x i' h', spec_l1Byte.f c i h = some (x, i', h') ∧ 0 ≤ i' ∧ 0 ≤ x ∧ x ≤ 255 := by
  unfold spec_l1Byte.f
  by_cases h1 : i < (c.length : Int)
  · rw [if_pos h1, if_pos hi, and_255, w64 (x := i + 1) (by omega) (by omega)]
    exact ⟨_, _, _, rfl, by omega, by omega, by omega⟩
  · rw [if_neg h1, and_255]
    exact ⟨_, _, _, rfl, hi, by omega, by omega⟩
theorem l1Bytes_l0 (c : List Int) (hl : c.length ≤ 4611686018427387904) (n : Int) (hn : n ≤ 1099511627776) (d : Nat) : ∀ (j : Int) (out : List Int) (i h : Int), 0 ≤ j → j + d = n → (out.length : Int) = j → Bytes out → 0 ≤ i →
    ∃ l i' h', Ev (fun k => spec_l1Bytes.l0 k n out j c i h) (l, i', h') ∧ 0 ≤ i' ∧ Bytes l ∧ (l.length : Int) = n := by
  induction d with
  | zero =>
    intro j out i h h0 hj ho hb hi
    refine ⟨out, i, h, ev_shift ?_, hi, hb, by omega⟩
    simp only [spec_l1Bytes.l0]
    exact ev_neg (by omega) (Ev.now _)
  | succ d ih =>
    intro j out i h h0 hj ho hb hi
    obtain ⟨x, i1, g1, e1, p1, q1, r1⟩ := l1Byte_ok c i h hi hl
    obtain ⟨l, i2, g2, e2, p2, q2, r2⟩ := ih (j + 1) (out ++ [x % 256]) i1 g1 (by omega) (by omega) (by simp; omega) (hb.append (.cons (by omega) (by omega) .nil)) p1
    refine ⟨l, i2, g2, ev_shift ?_, p2, q2, r2⟩
    simp only [spec_l1Bytes.l0]
    rw [w64 (x := j + 1) (by omega) (by omega)]
    exact ev_pos (by omega) (ev_call e1 (ev_pos (by omega) e2))
theorem l1Bytes_ev (c : List Int) (i h n : Int) (hi : 0 ≤ i) (hl : c.length ≤ 4611686018427387904) (h0 : 0 ≤ n) (hn : n ≤ 1099511627776) :
    ∃ l i' h', Ev (fun k => spec_l1Bytes.f k c i h n) (l, i', h') ∧ 0 ≤ i' ∧ Bytes l ∧ (l.length : Int) = n := l1Bytes_l0 c hl n hn n.toNat 0 [] i h (by omega) (by omega) rfl Bytes.nil hi
theorem l1Below_ok (c : List Int) (i h n : Int) (hi : 0 ≤ i) (hl : c.length ≤ 4611686018427387904) : ∃ x i' h', spec_l1Below.f c i h n = some (x, i', h') ∧ 0 ≤ i' ∧ 0 ≤ x ∧ (n ≤ 0 → x = 0) ∧ (0 < n → x < n) := by
  unfold spec_l1Below.f
  by_cases h1 : n ≤ 0
  · rw [if_pos h1]; exact ⟨0, i, h, rfl, hi, by omega, fun _ => rfl, fun z => by omega⟩
  · rw [if_neg h1]
    obtain ⟨x, i1, g1, e1, p1, q1, r1⟩ := l1Byte_ok c i h hi hl
    rw [e1]; simp only [Option.bind_some]
    by_cases h2 : n ≤ 256
    · rw [if_pos h2, if_neg (by omega), Int.tmod_eq_emod_of_nonneg q1]
      exact ⟨_, _, _, rfl, p1, Int.emod_nonneg _ (by omega), fun z => absurd z h1, fun z => Int.emod_lt_of_pos _ z⟩
    · rw [if_neg h2]
      obtain ⟨y, i2, g2, e2, p2, q2, r2⟩ := l1Byte_ok c i1 g1 p1 hl
      rw [e2]; simp only [Option.bind_some]
      obtain ⟨z, i3, g3, e3, p3, q3, r3⟩ := l1Byte_ok c i2 g2 p2 hl
      rw [e3]; simp only [Option.bind_some]
      rw [if_neg (by omega), w64 (x := x * 65536) (by omega) (by omega), w64 (x := y * 256) (by omega) (by omega), w64 (x := x * 65536 + y * 256) (by omega) (by omega), w64 (x := x * 65536 + y * 256 + z) (by omega) (by omega), Int.tmod_eq_emod_of_nonneg (by omega)]
      exact ⟨_, _, _, rfl, p3, Int.emod_nonneg _ (by omega), fun z => absurd z h1, fun z => Int.emod_lt_of_pos _ z⟩
theorem DrawSum_ev (c : List Int) (hl : c.length ≤ 4611686018427387904) : ∃ b, Ev (fun k => spec_DrawSum.f k c) b ∧ Bytes b ∧ b.length ≤ 1000 := by
  obtain ⟨h, hN⟩ := l1New_ev c hl
  obtain ⟨x, i1, g1, e1, p1, q1, _, r1⟩ := l1Below_ok c 0 h 20 (by omega) hl
  have r2 := r1 (by omega)
  obtain ⟨b, i2, g2, e2, p2, q2, r2⟩ := l1Bytes_ev c i1 g1 x p1 hl q1 (by omega)
  refine ⟨b, ?_, q2, by omega⟩
  simp only [spec_DrawSum.f]
  exact ev_bind hN (ev_call e1 (ev_bind e2 (Ev.now _)))
theorem impl_Sum_l1 (l : List Int) (n p : Int) (r : Int) (d : Nat) : ∀ (i : Nat) (x : Nat), i + d = 8 → x ≤ 65535 → Ev (fun k => impl_Sum.l0 k (sumBits d x : Nat) l n (wrap64 (p + 1))) r → Ev (fun k => impl_Sum.l1 k (x : Int) l n p (i : Int)) r := by
  induction d with
  | zero =>
    intro i x h hx hr
    refine ev_shift ?_
    simp only [impl_Sum.l1]
    exact ev_neg (by omega) hr
  | succ d ih =>
    intro i x h hx hr
    refine ev_shift ?_
    simp only [impl_Sum.l1, next_nat i (by omega)]
    have e : wrap64 ((x : Int) * 2) = ((x * 2 : Nat) : Int) := by rw [w64 (by omega) (by omega)]; omega
    rw [e]
    refine ev_pos (by omega) ?_
    have hb := sumBit_le x hx
    by_cases h1 : x * 2 > 65535
    · refine ev_pos (by omega) ?_
      have e2 : Go.bits .xor .i64 ((x * 2 : Nat) : Int) 69665 = ((sumBit x : Nat) : Int) := by
        rw [sumBit, if_pos h1]; exact xor_nat (x * 2) 69665 (by omega) (by decide)
      rw [e2]
      exact ih (i + 1) _ (by omega) hb hr
    · refine ev_neg (by omega) ?_
      have e2 : x * 2 = sumBit x := by rw [sumBit, if_neg h1]
      rw [e2]
      exact ih (i + 1) _ (by omega) hb hr
theorem impl_Sum_l0 (l : List Int) (hl : l.length ≤ 4611686018427387904) (hb : Bytes l) (d : Nat) : ∀ (i : Nat) (x : Nat), i + d = l.length → x ≤ 65535 → Ev (fun k => impl_Sum.l0 k (x : Int) l (l.length : Int) (i : Int)) ((sumFrom x (l.drop i) : Nat) : Int) := by
  induction d with
  | zero =>
    intro i x h hx
    refine ev_shift ?_
    simp only [impl_Sum.l0]
    rw [List.drop_of_length_le (by omega), and_65535]
    have e : (x : Int) % 65536 = (x : Int) := by omega
    rw [e]
    exact ev_neg (by omega) (Ev.now _)
  | succ d ih =>
    intro i x h hx
    refine ev_shift ?_
    have hi : i < l.length := by omega
    have hr := hb.rd (i : Int)
    have hw : wrap64 (256 * wrap64 (rd l (i : Int))) = (((rd l (i : Int)).toNat * 256 : Nat) : Int) := by
      rw [w64 (x := rd l (i : Int)) (by omega) (by omega), w64 (by omega) (by omega)]; omega
    simp only [impl_Sum.l0, hw]
    rw [xor_nat _ _ (by omega) (by omega)]
    refine ev_pos (by omega) (ev_pos (by omega) (ev_pos (by omega) ?_))
    have e0 : (0 : Int) = ((0 : Nat) : Int) := rfl
    rw [e0]
    refine impl_Sum_l1 l l.length i _ 8 0 _ (by omega) (xor_byte_le x _ hx hr.1 hr.2) ?_
    have e3 : sumBits 8 (x ^^^ ((rd l (i : Int)).toNat * 256)) = sumByte x (rd l (i : Int)) := rfl
    have e4 : sumFrom x (rd l (i : Int) :: l.drop (i + 1)) = sumFrom (sumByte x (rd l (i : Int))) (l.drop (i + 1)) := sumFrom_cons _ _ _
    rw [next_nat i (by omega), List.drop_eq_getElem_cons hi, ← rd_lt l i hi, e3, e4]
    exact ih (i + 1) _ (by omega) (sumByte_le x _ hx hr.1 hr.2)
theorem impl_Sum_ev (l : List Int) (hl : l.length ≤ 4611686018427387904) (hb : Bytes l) : Ev (fun k => impl_Sum.f k l) (sum l) := by
  have h := impl_Sum_l0 l hl hb l.length 0 65535 (by omega) (by omega)
  rw [List.drop_zero] at h
  simp only [impl_Sum.f, sum]
  exact h
theorem spec_Sum_l1 (l : List Int) (p : Int) (r : Int) (d : Nat) : ∀ (i : Nat) (x : Nat), i + d = 8 → x ≤ 65535 → Ev (fun k => spec_Sum.l0 k l (sumBits d x : Nat) (wrap64 (p + 1))) r → Ev (fun k => spec_Sum.l1 k l (x : Int) p (i : Int)) r := by
  induction d with
  | zero =>
    intro i x h hx hr
    refine ev_shift ?_
    simp only [spec_Sum.l1]
    exact ev_neg (by omega) hr
  | succ d ih =>
    intro i x h hx hr
    refine ev_shift ?_
    simp only [spec_Sum.l1, next_nat i (by omega)]
    have e : wrap64 ((x : Int) * 2) = ((x * 2 : Nat) : Int) := by rw [w64 (by omega) (by omega)]; omega
    rw [e]
    refine ev_pos (by omega) ?_
    have hb := sumBit_le x hx
    by_cases h1 : x * 2 > 65535
    · refine ev_pos (by omega) ?_
      have e2 : Go.bits .xor .i64 ((x * 2 : Nat) : Int) 69665 = ((sumBit x : Nat) : Int) := by
        rw [sumBit, if_pos h1]; exact xor_nat (x * 2) 69665 (by omega) (by decide)
      rw [e2]
      exact ih (i + 1) _ (by omega) hb hr
    · refine ev_neg (by omega) ?_
      have e2 : x * 2 = sumBit x := by rw [sumBit, if_neg h1]
      rw [e2]
      exact ih (i + 1) _ (by omega) hb hr
theorem spec_Sum_l0 (l : List Int) (hl : l.length ≤ 4611686018427387904) (hb : Bytes l) (d : Nat) : ∀ (i : Nat) (x : Nat), i + d = l.length → x ≤ 65535 → Ev (fun k => spec_Sum.l0 k l (x : Int) (i : Int)) ((sumFrom x (l.drop i) : Nat) : Int) := by
  induction d with
  | zero =>
    intro i x h hx
    refine ev_shift ?_
    simp only [spec_Sum.l0]
    rw [List.drop_of_length_le (by omega), and_65535]
    have e : (x : Int) % 65536 = (x : Int) := by omega
    rw [e]
    exact ev_neg (by omega) (Ev.now _)
  | succ d ih =>
    intro i x h hx
    refine ev_shift ?_
    have hi : i < l.length := by omega
    have hr := hb.rd (i : Int)
    have hw : wrap64 (wrap64 (rd l (i : Int)) * 256) = (((rd l (i : Int)).toNat * 256 : Nat) : Int) := by
      rw [w64 (x := rd l (i : Int)) (by omega) (by omega), w64 (by omega) (by omega)]; omega
    simp only [spec_Sum.l0, hw]
    rw [xor_nat _ _ (by omega) (by omega)]
    refine ev_pos (by omega) (ev_pos (by omega) ?_)
    have e0 : (0 : Int) = ((0 : Nat) : Int) := rfl
    rw [e0]
    refine spec_Sum_l1 l i _ 8 0 _ (by omega) (xor_byte_le x _ hx hr.1 hr.2) ?_
    have e3 : sumBits 8 (x ^^^ ((rd l (i : Int)).toNat * 256)) = sumByte x (rd l (i : Int)) := rfl
    have e4 : sumFrom x (rd l (i : Int) :: l.drop (i + 1)) = sumFrom (sumByte x (rd l (i : Int))) (l.drop (i + 1)) := sumFrom_cons _ _ _
    rw [next_nat i (by omega), List.drop_eq_getElem_cons hi, ← rd_lt l i hi, e3, e4]
    exact ih (i + 1) _ (by omega) (sumByte_le x _ hx hr.1 hr.2)
theorem spec_Sum_ev (l : List Int) (hl : l.length ≤ 4611686018427387904) (hb : Bytes l) : Ev (fun k => spec_Sum.f k l) (sum l) := by
  have h := spec_Sum_l0 l hl hb l.length 0 65535 (by omega) (by omega)
  rw [List.drop_zero] at h
  simp only [spec_Sum.f, sum]
  exact h
theorem laws_at_ok (c : List Int) (j : Int) (hb : Bytes c) (h0 : 0 ≤ j) (h1 : j ≤ 1000) (hl : c.length ≤ 1048576) : ∃ x, laws_at.f c j = some x ∧ 0 ≤ x ∧ x ≤ 255 := by
  unfold laws_at.f
  have hr := hb.rd j
  by_cases h : j < (c.length : Int)
  · rw [if_pos h, if_pos h0, w64 (by omega) (by omega)]; exact ⟨_, rfl, hr.1, hr.2⟩
  · rw [if_neg h, w64 (x := j * 31) (by omega) (by omega), w64 (x := (c.length : Int) * 7) (by omega) (by omega), w64 (by omega) (by omega), Int.tmod_eq_emod_of_nonneg (by omega)]
    exact ⟨_, rfl, by omega, by omega⟩

theorem shift_bit (x : Nat) (_h : x ≤ 65535) : (sumBit x) % 2 = (if x * 2 > 65535 then 1 else 0) ∧ (x * 2) = (if x * 2 > 65535 then (sumBit x) ^^^ 69665 else sumBit x) := by
  unfold sumBit
  by_cases h1 : x * 2 > 65535
  · rw [if_pos h1, if_pos h1, if_pos h1]
    refine ⟨?_, by rw [Nat.xor_assoc, Nat.xor_self, Nat.xor_zero]⟩
    have e := Nat.xor_mod_two_pow (a := x * 2) (b := 69665) (n := 1)
    rw [Nat.pow_one] at e
    rw [e, show x * 2 % 2 = 0 by omega]; rfl
  · rw [if_neg h1, if_neg h1, if_neg h1]; exact ⟨by omega, rfl⟩
/-- One turn loses nothing. -/
theorem sumBit_inj {x y : Nat} (hx : x ≤ 65535) (hy : y ≤ 65535) (h : sumBit x = sumBit y) : x = y := by
  obtain ⟨a1, a2⟩ := shift_bit x hx
  obtain ⟨b1, b2⟩ := shift_bit y hy
  rw [h] at a1 a2
  rw [a1] at b1
  by_cases c1 : x * 2 > 65535
  · by_cases c2 : y * 2 > 65535
    · rw [if_pos c1] at a2; rw [if_pos c2] at b2; omega
    · rw [if_pos c1, if_neg c2] at b1; omega
  · by_cases c2 : y * 2 > 65535
    · rw [if_neg c1, if_pos c2] at b1; omega
    · rw [if_neg c1] at a2; rw [if_neg c2] at b2; omega
theorem sumBits_inj (n : Nat) : ∀ x y : Nat, x ≤ 65535 → y ≤ 65535 → sumBits n x = sumBits n y → x = y := by
  induction n with
  | zero => intro x y _ _ h; exact h
  | succ n ih => intro x y hx hy h; exact sumBit_inj hx hy (ih _ _ (sumBit_le x hx) (sumBit_le y hy) h)
theorem xor_cancel {a b c : Nat} (h : a ^^^ b = a ^^^ c) : b = c := by
  have := congrArg (a ^^^ ·) h
  simpa [← Nat.xor_assoc] using this
theorem sumByte_inj {x y : Nat} {a b : Int} (hx : x ≤ 65535) (hy : y ≤ 65535) (ha : 0 ≤ a ∧ a ≤ 255) (hb : 0 ≤ b ∧ b ≤ 255) (h : sumByte x a = sumByte y b) : x ^^^ (a.toNat * 256) = y ^^^ (b.toNat * 256) :=
  sumBits_inj 8 _ _ (xor_byte_le x a hx ha.1 ha.2) (xor_byte_le y b hy hb.1 hb.2) h
theorem sumFrom_le (l : List Int) : ∀ x : Nat, x ≤ 65535 → Bytes l → sumFrom x l ≤ 65535 := by
  induction l with
  | nil => intro x h _; exact h
  | cons b l ih =>
    intro x h hb
    have := hb b (by simp)
    rw [sumFrom_cons]
    exact ih _ (sumByte_le x b h this.1 this.2) (fun y hy => hb y (by simp [hy]))
/-- Other sums ahead, other sums behind. -/
theorem sumFrom_ne (l : List Int) : ∀ x y : Nat, x ≤ 65535 → y ≤ 65535 → Bytes l → x ≠ y → sumFrom x l ≠ sumFrom y l := by
  induction l with
  | nil => intro x y _ _ _ h; exact h
  | cons b l ih =>
    intro x y hx hy hb h
    have h0 := hb b (by simp)
    rw [sumFrom_cons, sumFrom_cons]
    refine ih _ _ (sumByte_le x b hx h0.1 h0.2) (sumByte_le y b hy h0.1 h0.2) (fun z hz => hb z (by simp [hz])) fun e => h ?_
    have := sumByte_inj hx hy h0 h0 e
    rw [Nat.xor_comm x, Nat.xor_comm y] at this
    exact xor_cancel this
/-- Another byte, another sum. -/
theorem sumFrom_set (l : List Int) : ∀ (x j : Nat) (v : Int), x ≤ 65535 → Bytes l → j < l.length → 0 ≤ v → v ≤ 255 → v ≠ l.getD j 0 → sumFrom x (l.set j v) ≠ sumFrom x l := by
  induction l with
  | nil => intro x j v _ _ h; simp at h
  | cons b l ih =>
    intro x j v hx hb hj v0 v1 hv
    have h0 := hb b (by simp)
    have hbl : Bytes l := fun y hy => hb y (by simp [hy])
    cases j with
    | zero =>
      simp only [List.getD_cons_zero] at hv
      rw [List.set_cons_zero, sumFrom_cons, sumFrom_cons]
      refine sumFrom_ne l _ _ (sumByte_le x v hx v0 v1) (sumByte_le x b hx h0.1 h0.2) hbl fun e => hv ?_
      have := xor_cancel (sumByte_inj hx hx ⟨v0, v1⟩ h0 e)
      omega
    | succ j =>
      simp only [List.getD_cons_succ] at hv
      rw [List.set_cons_succ, sumFrom_cons, sumFrom_cons]
      exact ih _ j v (sumByte_le x b hx h0.1 h0.2) hbl (by simpa using hj) v0 v1 hv
set_option maxRecDepth 100000 in
theorem u8_xor_ne : ∀ a b : Fin 256, b.val ≠ 0 → Go.bits .xor .u8 ((a.val : Nat) : Int) ((b.val : Nat) : Int) ≠ ((a.val : Nat) : Int) := by decide +kernel
theorem xor_byte_ne {a b : Int} (ha : 0 ≤ a ∧ a ≤ 255) (hb : 1 ≤ b ∧ b ≤ 255) : Go.bits .xor .u8 a b ≠ a := by
  obtain ⟨x, rfl⟩ := Int.eq_ofNat_of_zero_le ha.1
  obtain ⟨y, rfl⟩ := Int.eq_ofNat_of_zero_le (show 0 ≤ b by omega)
  exact u8_xor_ne ⟨x, by omega⟩ ⟨y, by omega⟩ (by simp only; omega)
theorem xor_byte_range (a b : Int) : 0 ≤ Go.bits .xor .u8 a b ∧ Go.bits .xor .u8 a b ≤ 255 := by
  have h : ∀ n : Int, 0 ≤ IntKind.u8.wrap n ∧ IntKind.u8.wrap n ≤ 255 := fun n => by rw [IntKind.wrap_u8]; omega
  exact h _
theorem FnSums : laws_FnSums.Pure := by
  intro l hm _ hb0
  have hlb := Bytes.of hb0
  apply Ev.rounds
  simp only [laws_FnSums.f]
  by_cases h : (l.length : Int) > 1048576
  · exact ev_call (laws_big_eq l) (ev_pos (decide_eq_true h) (Ev.now _))
  refine ev_call (laws_big_eq l) (ev_neg (by simpa using h) ?_)
  have hl : l.length ≤ 4611686018427387904 := by omega
  obtain ⟨b, d1, bb, bl⟩ := DrawSum_ev l hl
  have hle := sumFrom_le b 65535 (by omega) bb
  have hs : sum b = ((sumFrom 65535 b : Nat) : Int) := rfl
  refine ev_bind d1 (ev_bind (impl_Sum_ev b (by omega) bb) (ev_bind (spec_Sum_ev b (by omega) bb) (ev_pos rfl (ev_neg (by rw [hs]; omega) (ev_shift ?_)))))
  simp only [laws_FnSums.j0]
  refine ev_neg (by rw [decide_eq_true_eq, hs]; omega) ?_
  by_cases h0 : (b.length : Int) = 0
  · refine ev_pos h0 (ev_is (Ev.now _) ?_)
    obtain rfl := List.eq_nil_of_length_eq_zero (show b.length = 0 by omega)
    rfl
  · refine ev_neg h0 ?_
    simp only [Option.bind_some, List.length_nil, Nat.zero_add, List.nil_append]
    obtain ⟨x, a1, x0, x1⟩ := laws_at_ok l 2 hlb (by omega) (by omega) (by omega)
    obtain ⟨y, a2, y0, y1⟩ := laws_at_ok l 3 hlb (by omega) (by omega) (by omega)
    rw [a1, a2]
    simp only [Option.bind_some]
    rw [Int.tmod_eq_emod_of_nonneg x0, Int.tmod_eq_emod_of_nonneg y0, w64 (x := 1 + y % 255) (by omega) (by omega)]
    have hp : 0 < (b.length : Int) := by omega
    obtain ⟨j, hj⟩ := Int.eq_ofNat_of_zero_le (Int.emod_nonneg x (show (b.length : Int) ≠ 0 by omega))
    have hjl := Int.emod_lt_of_pos x hp
    rw [hj] at hjl ⊢
    have hjn : j < b.length := by omega
    have hv := xor_byte_range (rd b (j : Int)) ((1 + y % 255) % 256)
    have hne : Go.bits .xor .u8 (rd b (j : Int)) ((1 + y % 255) % 256) ≠ b.getD j 0 := by
      rw [← rd_nat]; exact xor_byte_ne (bb.rd _) (by omega)
    have hset : Bytes (b.set j (Go.bits .xor .u8 (rd b (j : Int)) ((1 + y % 255) % 256))) := fun z hz => by
      rcases List.mem_or_eq_of_mem_set hz with h | h
      · exact bb z h
      · subst h; exact hv
    refine ev_pos (by omega) (ev_pos (by omega) (ev_pos (by omega) (ev_bind (impl_Sum_ev _ (by rw [List.length_set]; omega) (by rw [Int.toNat_natCast]; exact hset)) (ev_is (Ev.now _) ?_))))
    rw [Int.toNat_natCast, bne_iff_ne]
    have := sumFrom_set b 65535 j _ (by omega) bb hjn hv.1 hv.2 hne
    intro e
    rw [hs] at e
    exact this (Int.ofNat.inj e)

end Go.Proofs.Ytnmncgbegiegfaa.Pure
