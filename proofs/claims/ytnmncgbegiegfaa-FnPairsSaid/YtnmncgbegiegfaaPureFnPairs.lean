/- The law FnPairs answers true at every row of bytes that memory holds: two bytes that stand for a sign come back of it. -/
import Derived.Test.YtnmncgbegiegfaaQFnPairsx5
import Derived.Test.YtnmncgbegiegfaaModel
import Derived.Test.YtnmncgbegiegfaaModelA
import Derived.Test.YtnmncgbegiegfaaModelC
import Derived.Test.YtnmncgbegiegfaaModelD
import Derived.Test.YtnmncgbegiegfaaModelE
import Derived.Test.YtnmncgbegiegfaaModelF
import Derived.Test.YtnmncgbegiegfaaModelG
import Derived.Test.YtnmncgbegiegfaaModelS
import Derived.Test.YtnmncgbegiegfaaModelT
import Derived.Test.YtnmncgbegiegfaaModelU
namespace Go.Proofs.Ytnmncgbegiegfaa.Pure
open Go.RowKit Go.Proofs.Ytnmncgbegiegfaa.QFnPairs Go.Proofs.YtnmncgbegiegfaaW.PrintWords Go.Proofs.YtnmncgbegiegfaaW.PrintLast Go.Proofs.Ytnmncgbegiegfaa.Xw Go.Proofs.Ytnmncgbegiegfaa.Base Go.Proofs.Ytnmncgbegiegfaa.Model

theorem laws_big_eq (c : List Int) : laws_big.f c = some (decide ((c.length : Int) > 1048576)) := rfl
theorem l1New_l0 (c : List Int) (_hl : c.length ≤ 4611686018427387904) (d : Nat) : ∀ (i : Nat) (h : Int), i + d = c.length → ∃ h', Ev (fun k => spec_l1New.l0 k c h (i : Int)) (c, 0, h') := by
  induction d with
  | zero =>
    intro i h hi
    refine ⟨h, ev_shift ?_⟩
    simp only [spec_l1New.l0]
    exact ev_neg (by omega) (Ev.now _)
  | succ d ih =>
    intro i h hi
    by_cases h4 : (i : Int) < 4000
    · obtain ⟨h', e⟩ := ih (i + 1) (Go.bits .and .i64 (wrap64 ((wrap64 ((wrap64 (h * 137)) + (wrap64 (rd c (i : Int))))) + 11)) 1073741823) (by omega)
      refine ⟨h', ev_shift ?_⟩
      simp only [spec_l1New.l0, next_nat i (by omega)]
      exact ev_pos (by omega) (ev_pos h4 (ev_pos (by omega) e))
    · refine ⟨h, ev_shift ?_⟩
      simp only [spec_l1New.l0]
      exact ev_pos (by omega) (ev_neg h4 (Ev.now _))
theorem l1New_ev (c : List Int) (hl : c.length ≤ 4611686018427387904) : ∃ h, Ev (fun k => spec_l1New.f k c) (c, 0, h) := l1New_l0 c hl c.length 0 _ (by omega)
theorem l1Byte_ok (c : List Int) (i h : Int) (hi : 0 ≤ i) (hl : c.length ≤ 4611686018427387904) : ∃ x i' h', spec_l1Byte.f c i h = some (x, i', h') ∧ 0 ≤ i' ∧ 0 ≤ x ∧ x ≤ 255 := by
  unfold spec_l1Byte.f
  by_cases h1 : i < (c.length : Int)
  · rw [if_pos h1, if_pos hi, and_255, w64 (x := i + 1) (by omega) (by omega)]
    exact ⟨_, _, _, rfl, by omega, by omega, by omega⟩
  · rw [if_neg h1, and_255]
    exact ⟨_, _, _, rfl, hi, by omega, by omega⟩
theorem l1Below_ok (c : List Int) (i h n : Int) (hi : 0 ≤ i) (hl : c.length ≤ 4611686018427387904) : ∃ x i' h', spec_l1Below.f c i h n = some (x, i', h') ∧ 0 ≤ i' ∧ 0 ≤ x ∧ (n ≤ 0 → x = 0) ∧ (0 < n → x < n) := by
  unfold spec_l1Below.f
  by_cases h1 : n ≤ 0
  · rw [if_pos h1]; exact ⟨0, i, h, rfl, hi, by omega, fun _ => rfl, fun z => by omega⟩
  · rw [if_neg h1]
    obtain ⟨x, i1, g1, e1, p1, q1, r1⟩ := l1Byte_ok c i h hi hl
    rw [e1]; simp only [Option.bind_some]
    by_cases h2 : n ≤ 256
    · rw [if_pos h2, if_neg (by omega), Int.tmod_eq_emod_of_nonneg q1]
      exact ⟨_, _, _, rfl, p1, Int.emod_nonneg _ (by omega), fun z => absurd z h1, fun z => Int.emod_lt_of_pos _ z⟩
    · rw [if_neg h2]
      obtain ⟨y, i2, g2, e2, p2, q2, r2⟩ := l1Byte_ok c i1 g1 p1 hl
      rw [e2]; simp only [Option.bind_some]
      obtain ⟨z, i3, g3, e3, p3, q3, r3⟩ := l1Byte_ok c i2 g2 p2 hl
      rw [e3]; simp only [Option.bind_some]
      rw [if_neg (by omega), w64 (x := x * 65536) (by omega) (by omega), w64 (x := y * 256) (by omega) (by omega), w64 (x := x * 65536 + y * 256) (by omega) (by omega), w64 (x := x * 65536 + y * 256 + z) (by omega) (by omega), Int.tmod_eq_emod_of_nonneg (by omega)]
      exact ⟨_, _, _, rfl, p3, Int.emod_nonneg _ (by omega), fun z => absurd z h1, fun z => Int.emod_lt_of_pos _ z⟩
theorem l1Int_ok (c : List Int) (i h : Int) (l : List Int) (hi : 0 ≤ i) (hl : c.length ≤ 4611686018427387904) (hn : l ≠ []) : ∃ x i' h', spec_l1Int.f c i h l = some (x, i', h') ∧ 0 ≤ i' ∧ x ∈ l := by
  have h1 : 0 < l.length := List.length_pos_iff.2 hn
  unfold spec_l1Int.f
  obtain ⟨x, i1, g1, e1, p1, q1, _, r1⟩ := l1Below_ok c i h l.length hi hl
  have r2 := r1 (by omega)
  rw [e1]; simp only [Option.bind_some]
  rw [if_pos q1, if_pos r2]
  obtain ⟨m, rfl⟩ := Int.eq_ofNat_of_zero_le q1
  rw [rd_lt l m (by omega)]
  exact ⟨_, _, _, rfl, p1, List.getElem_mem _⟩
theorem DrawPairSign_ev (c : List Int) (hl : c.length ≤ 4611686018427387904) : ∃ a b, Ev (fun k => spec_DrawPairSign.f k c) (a, b) := by
  obtain ⟨h, hN⟩ := l1New_ev c hl
  obtain ⟨a, i1, g1, e1, p1, _⟩ := l1Int_ok c 0 h [164, 165, 163, 166, 65] (by omega) hl (by simp)
  obtain ⟨b, i2, g2, e2, p2, _⟩ := l1Int_ok c i1 g1 [161, 160, 243, 244, 246, 247, 192, 65] p1 hl (by simp)
  refine ⟨a, b, ?_⟩
  simp only [spec_DrawPairSign.f]
  exact ev_bind hN (ev_call e1 (ev_call e2 (Ev.now _)))
theorem impl_within_eq (a b c : Int) : impl_within.f a b c = some (inR a b c) := by
  unfold impl_within.f inR; by_cases h : a ≥ b <;> simp [h]
theorem impl_PairSign_ev (a b : Int) : Ev (fun k => impl_PairSign.f k a b) (pairSign a b) := by
  refine ev_shift (ev_same fun k => ?_)
  simp only [impl_PairSign.f, impl_PairSign.j0, impl_within_eq, Option.bind_some, inR_true]
  unfold pairSign
  by_cases h : a = 164
  · by_cases h2 : 161 ≤ b ∧ b ≤ 243
    · rw [if_pos h, if_pos h2, if_pos ⟨h, h2.1, h2.2⟩, w64 (x := 12353 + b) (by omega) (by omega), w64 (by omega) (by omega)]
    · rw [if_pos h, if_neg h2, if_neg (c := a = 165) (by omega), if_neg (c := a = 164 ∧ 161 ≤ b ∧ b ≤ 243) (by omega), if_neg (c := a = 165 ∧ 161 ≤ b ∧ b ≤ 246) (by omega)]
  · rw [if_neg h, if_neg (by decide), if_neg (c := a = 164 ∧ 161 ≤ b ∧ b ≤ 243) (by omega)]
    by_cases h1 : a = 165
    · by_cases h2 : 161 ≤ b ∧ b ≤ 246
      · rw [if_pos h1, if_pos h2, if_pos ⟨h1, h2.1, h2.2⟩, w64 (x := 12449 + b) (by omega) (by omega), w64 (by omega) (by omega)]
      · rw [if_pos h1, if_neg h2, if_neg (c := a = 165 ∧ 161 ≤ b ∧ b ≤ 246) (by omega)]
    · rw [if_neg h1, if_neg (c := a = 165 ∧ 161 ≤ b ∧ b ≤ 246) (by omega)]
theorem spec_l1In_eq (a b c : Int) : spec_l1In.f a b c = some (inR a b c) := by
  unfold spec_l1In.f inR; by_cases h : a ≥ b <;> simp [h]
theorem spec_PairSign_ev (a b : Int) : Ev (fun k => spec_PairSign.f k a b) (pairSign a b) := by
  refine ev_shift (ev_same fun k => ?_)
  simp only [spec_PairSign.f, spec_PairSign.j0, spec_l1In_eq, Option.bind_some, inR_true]
  unfold pairSign
  by_cases h : a = 164
  · by_cases h2 : 161 ≤ b ∧ b ≤ 243
    · rw [if_pos h, if_pos h2, if_pos ⟨h, h2.1, h2.2⟩, w64 (x := 12353 + b) (by omega) (by omega), w64 (by omega) (by omega)]
    · rw [if_pos h, if_neg h2, if_neg (c := a = 165) (by omega), if_neg (c := a = 164 ∧ 161 ≤ b ∧ b ≤ 243) (by omega), if_neg (c := a = 165 ∧ 161 ≤ b ∧ b ≤ 246) (by omega)]
  · rw [if_neg h, if_neg (by decide), if_neg (c := a = 164 ∧ 161 ≤ b ∧ b ≤ 243) (by omega)]
    by_cases h1 : a = 165
    · by_cases h2 : 161 ≤ b ∧ b ≤ 246
      · rw [if_pos h1, if_pos h2, if_pos ⟨h1, h2.1, h2.2⟩, w64 (x := 12449 + b) (by omega) (by omega), w64 (by omega) (by omega)]
      · rw [if_pos h1, if_neg h2, if_neg (c := a = 165 ∧ 161 ≤ b ∧ b ≤ 246) (by omega)]
    · rw [if_neg h1, if_neg (c := a = 165 ∧ 161 ≤ b ∧ b ≤ 246) (by omega)]
theorem DrawSignPair_ev (c : List Int) (hl : c.length ≤ 4611686018427387904) : ∃ a, Ev (fun k => spec_DrawSignPair.f k c) a := by
  obtain ⟨h, hN⟩ := l1New_ev c hl
  obtain ⟨a, i1, g1, e1, p1, _⟩ := l1Int_ok c 0 h [12353, 12352, 12435, 12436, 12449, 12448, 12534, 12535, 12354, 65, (-1)] (by omega) hl (by simp)
  refine ⟨a, ?_⟩
  simp only [spec_DrawSignPair.f]
  exact ev_bind hN (ev_call e1 (Ev.now _))
theorem impl_SignPair_eq (n : Int) : impl_SignPair.f n = some (signPair n) := by
  unfold impl_SignPair.f signPair
  simp only [impl_within_eq, Option.bind_some, inR_true]
  by_cases h : 12353 ≤ n ∧ n ≤ 12435
  · rw [if_pos h, if_pos h, w64 (x := n - 12353) (by omega) (by omega), w64 (by omega) (by omega)]
  · rw [if_neg h, if_neg h]
    by_cases h2 : 12449 ≤ n ∧ n ≤ 12534
    · rw [if_pos h2, if_pos h2, w64 (x := n - 12449) (by omega) (by omega), w64 (by omega) (by omega)]
    · rw [if_neg h2, if_neg h2]
theorem spec_SignPair_eq (n : Int) : spec_SignPair.f n = some (signPair n) := by
  unfold spec_SignPair.f signPair
  simp only [spec_l1In_eq, Option.bind_some, inR_true]
  by_cases h : 12353 ≤ n ∧ n ≤ 12435
  · rw [if_pos h, if_pos h, w64 (x := n - 12353) (by omega) (by omega), w64 (by omega) (by omega)]
  · rw [if_neg h, if_neg h]
    by_cases h2 : 12449 ≤ n ∧ n ≤ 12534
    · rw [if_pos h2, if_pos h2, w64 (x := n - 12449) (by omega) (by omega), w64 (by omega) (by omega)]
    · rw [if_neg h2, if_neg h2]
theorem u8_xor_range (a b : Int) : 0 ≤ Go.bits .xor .u8 a b ∧ Go.bits .xor .u8 a b ≤ 255 := by
  have h : ∀ n : Int, 0 ≤ IntKind.u8.wrap n ∧ IntKind.u8.wrap n ≤ 255 := fun n => by rw [IntKind.wrap_u8]; omega
  exact h _
theorem Bytes_set {l : List Int} (hb : Bytes l) (j : Nat) (x : Int) (h0 : 0 ≤ x) (h1 : x ≤ 255) : Bytes (l.set j x) := fun y hy => by
  rcases List.mem_or_eq_of_mem_set hy with h | h
  · exact hb y h
  · subst h; exact ⟨h0, h1⟩
theorem l1Bend_ok (c : List Int) (i h : Int) (l : List Int) (hi : 0 ≤ i) (hl : c.length ≤ 4611686018427387904) (hb : Bytes l) (hll : l.length < 140737488355328) :
    ∃ x i' h', spec_l1Bend.f c i h l = some (x, i', h') ∧ 0 ≤ i' ∧ Bytes x ∧ x.length ≤ l.length := by
  unfold spec_l1Bend.f
  simp only [Option.bind_some, List.length_nil, Nat.zero_add, List.nil_append, if_pos hll]
  obtain ⟨x, i1, g1, e1, p1, q1, _⟩ := l1Below_ok c i h 5 hi hl
  rw [e1]; simp only [Option.bind_some]
  by_cases h0 : x = 0
  · rw [if_pos h0, w64 (x := (l.length : Int) + 1) (by omega) (by omega)]
    obtain ⟨y, i2, g2, e2, p2, q2, _, r2⟩ := l1Below_ok c i1 g1 ((l.length : Int) + 1) p1 hl
    have := r2 (by omega)
    rw [e2]; simp only [Option.bind_some]
    rw [if_pos q2, if_pos (by omega)]
    exact ⟨_, _, _, rfl, p2, hb.take _, by rw [List.length_take]; omega⟩
  · rw [if_neg h0]
    by_cases h1 : x = 1
    · rw [if_pos h1]
      by_cases h2 : (l.length : Int) > 0
      · rw [if_pos h2]
        obtain ⟨y, i2, g2, e2, p2, q2, _, r2⟩ := l1Below_ok c i1 g1 (l.length : Int) p1 hl
        have := r2 (by omega)
        rw [e2]; simp only [Option.bind_some]
        rw [if_pos q2, if_pos (by omega)]
        obtain ⟨z, i3, g3, e3, p3, q3, _⟩ := l1Below_ok c i2 g2 255 p2 hl
        rw [e3]; simp only [Option.bind_some]
        have hx := u8_xor_range (rd l y) (wrap64 (1 + z) % 256)
        exact ⟨_, _, _, rfl, p3, Bytes_set hb _ _ hx.1 hx.2, by rw [List.length_set]; exact Nat.le_refl _⟩
      · rw [if_neg h2]; exact ⟨_, _, _, rfl, p1, hb, Nat.le_refl _⟩
    · rw [if_neg h1]; exact ⟨_, _, _, rfl, p1, hb, Nat.le_refl _⟩
theorem spec_PutEuc_eq (b : List Int) (n : Int) (h : b.length + 2 < 140737488355328) : spec_PutEuc.f b n = some (b ++ (eucOf n).1, (eucOf n).2) := by
  have hb : b.length < 140737488355328 := by omega
  unfold spec_PutEuc.f eucOf
  simp only [Option.bind_some, List.length_nil, Nat.zero_add, List.nil_append, if_pos hb, spec_l1In_eq, spec_SignPair_eq, inR_true]
  by_cases h1 : 0 ≤ n ∧ n ≤ 127
  · rw [if_pos h1, if_pos h1]; simp only []; rw [show n % 256 = n by omega]
  · rw [if_neg h1, if_neg h1]
    by_cases h2 : (signPair n).2.2 = true
    · have e : (signPair n).1 % 256 = (signPair n).1 ∧ (signPair n).2.1 % 256 = (signPair n).2.1 := signPair_mod n
      rw [if_pos h2, if_pos h2, e.1, e.2]
      simp only [List.length_cons, List.length_nil]
      rw [if_pos (by omega)]
    · rw [if_neg h2, if_neg h2]; simp
theorem eucOf_bytes (n : Int) : Bytes (eucOf n).1 := by
  unfold eucOf
  have hm := signPair_mod n
  by_cases h1 : 0 ≤ n ∧ n ≤ 127
  · rw [if_pos h1]; exact .cons (by omega) (by omega) .nil
  · by_cases h2 : (signPair n).2.2 = true
    · rw [if_neg h1, if_pos h2]; exact .cons (by omega) (by omega) (.cons (by omega) (by omega) .nil)
    · rw [if_neg h1, if_neg h2]; exact .nil
theorem l4Euc_l0 (c : List Int) (hl : c.length ≤ 4611686018427387904) (d : Nat) : ∀ (b : List Int) (i h : Int), Bytes b → b.length + 2 * d ≤ 1000 → 0 ≤ i →
    ∃ l i' h', Ev (fun k => spec_l4Euc.l0 k b (d : Int) c i h) (l, i', h') ∧ 0 ≤ i' ∧ Bytes l ∧ l.length ≤ 1000 := by
  induction d with
  | zero =>
    intro b i h hb hlen hi
    refine ⟨b, i, h, ev_shift ?_, hi, hb, by omega⟩
    simp only [spec_l4Euc.l0]
    exact ev_neg (by omega) (Ev.now _)
  | succ d ih =>
    intro b i h hb hlen hi
    obtain ⟨x, i1, g1, e1, p1, _⟩ := l1Int_ok c i h [97, 98, 12353, 12435, 12449, 12534, 12354] hi hl (by simp)
    have he := eucOf_length x
    obtain ⟨l, i2, g2, e2, p2, q2, r2⟩ := ih (b ++ (eucOf x).1) i1 g1 (hb.append (eucOf_bytes x)) (by simp; omega) p1
    refine ⟨l, i2, g2, ev_shift ?_, p2, q2, r2⟩
    simp only [spec_l4Euc.l0]
    have ew : wrap64 (((d + 1 : Nat) : Int) - 1) = (d : Int) := by rw [w64 (by omega) (by omega)]; omega
    rw [ew]
    exact ev_pos (by omega) (ev_call e1 (ev_call (spec_PutEuc_eq b x (by omega)) e2))
theorem l4Euc_ev (c : List Int) (i h : Int) (hi : 0 ≤ i) (hl : c.length ≤ 4611686018427387904) : ∃ l i' h', Ev (fun k => spec_l4Euc.f k c i h) (l, i', h') ∧ 0 ≤ i' ∧ Bytes l ∧ l.length ≤ 1000 := by
  obtain ⟨x, i1, g1, e1, p1, q1, _, r1⟩ := l1Below_ok c i h 6 hi hl
  have r2 := r1 (by omega)
  obtain ⟨m, rfl⟩ := Int.eq_ofNat_of_zero_le q1
  obtain ⟨l, i2, g2, e2, p2, q2, r2⟩ := l4Euc_l0 c hl m [] i1 g1 Bytes.nil (by simp; omega) p1
  refine ⟨l, i2, g2, ?_, p2, q2, r2⟩
  simp only [spec_l4Euc.f]
  exact ev_call e1 e2
theorem l1At_ok (c : List Int) (i h : Int) (l : List Int) (hi : 0 ≤ i) (hl : c.length ≤ 4611686018427387904) : ∃ x i' h', spec_l1At.f c i h l = some (x, i', h') ∧ 0 ≤ i' := by
  unfold spec_l1At.f
  obtain ⟨x, i1, g1, e1, p1, _⟩ := l1Int_ok c i h [0, 0, 0, 1, 2, (l.length : Int), wrap64 ((l.length : Int) - 1), (-1), 9223372036854775807] hi hl (by simp)
  rw [e1]; exact ⟨_, _, _, rfl, p1⟩
theorem DrawEucSign_ev (c : List Int) (hl : c.length ≤ 4611686018427387904) : ∃ b p, Ev (fun k => spec_DrawEucSign.f k c) (b, p) ∧ Bytes b ∧ b.length ≤ 1000 := by
  obtain ⟨h, hN⟩ := l1New_ev c hl
  obtain ⟨l, i1, g1, e1, p1, q1, r1⟩ := l4Euc_ev c 0 h (by omega) hl
  obtain ⟨b, i2, g2, e2, p2, q2, r2⟩ := l1Bend_ok c i1 g1 l p1 hl q1 (by omega)
  obtain ⟨x, i3, g3, e3, p3⟩ := l1At_ok c i2 g2 b p2 hl
  refine ⟨b, x, ?_, q2, by omega⟩
  simp only [spec_DrawEucSign.f]
  exact ev_bind hN (ev_bind e1 (ev_call e2 (ev_call e3 (Ev.now _))))
theorem impl_EucSign_ev (b : List Int) (p : Int) (hb : Bytes b) (hl : b.length ≤ 4611686018427387904) : Ev (fun k => impl_EucSign.f k b p) (eucSign b p) := by
  have r0 := hb.rd p
  have r1 := hb.rd (p + 1)
  have e2 : wrap64 (rd b p) = rd b p := w64 (by omega) (by omega)
  have e3 : wrap64 (rd b (p + 1)) = rd b (p + 1) := w64 (by omega) (by omega)
  unfold eucSign
  refine ev_shift ?_
  simp only [impl_EucSign.f, impl_EucSign.j0, e2]
  by_cases h : 0 ≤ p ∧ p < b.length
  · have e4 : wrap64 (p + 1) = p + 1 := w64 (by omega) (by omega)
    have e5 : wrap64 (p + 2) = p + 2 := w64 (by omega) (by omega)
    rw [if_pos h]
    simp only [e4, e5, e3]
    refine ev_neg (by omega) (ev_neg (by simp; omega) (ev_pos h.1 (ev_pos h.2 ?_)))
    by_cases h1 : rd b p ≤ 127
    · rw [if_pos h1]; exact ev_pos h1 (Ev.now _)
    · rw [if_neg h1]
      refine ev_neg h1 ?_
      by_cases h2 : p + 1 < b.length
      · refine ev_neg (by omega) (ev_pos (by omega) (ev_pos h2 ?_))
        refine ev_bind (impl_PairSign_ev (rd b p) (rd b (p + 1))) ?_
        by_cases h3 : (pairSign (rd b p) (rd b (p + 1))).2 = true
        · rw [if_pos (c := p + 1 < (b.length : Int) ∧ (pairSign (rd b p) (rd b (p + 1))).2 = true) ⟨h2, h3⟩]; exact ev_pos h3 (Ev.now _)
        · rw [if_neg (c := p + 1 < (b.length : Int) ∧ (pairSign (rd b p) (rd b (p + 1))).2 = true) (fun z => h3 z.2)]; exact ev_neg h3 (Ev.now _)
      · rw [if_neg (c := p + 1 < (b.length : Int) ∧ (pairSign (rd b p) (rd b (p + 1))).2 = true) (fun z => h2 z.1)]; exact ev_pos (by omega) (Ev.now _)
  · rw [if_neg h]
    by_cases h0 : p < 0
    · exact ev_pos h0 (ev_pos (by simp) (Ev.now _))
    · exact ev_neg h0 (ev_pos (by simp; omega) (Ev.now _))
theorem spec_EucSign_ev (b : List Int) (p : Int) (hb : Bytes b) (hl : b.length ≤ 4611686018427387904) : Ev (fun k => spec_EucSign.f k b p) (eucSign b p) := by
  have r0 := hb.rd p
  have r1 := hb.rd (p + 1)
  have e1 : wrap64 ((b.length : Int) - 1) = (b.length : Int) - 1 := w64 (by omega) (by omega)
  have e2 : wrap64 (rd b p) = rd b p := w64 (by omega) (by omega)
  have e3 : wrap64 (rd b (p + 1)) = rd b (p + 1) := w64 (by omega) (by omega)
  unfold eucSign
  simp only [spec_EucSign.f, spec_l1In_eq, Option.bind_some, inR_true, e1, e2]
  by_cases h : 0 ≤ p ∧ p < b.length
  · have e4 : wrap64 (p + 1) = p + 1 := w64 (by omega) (by omega)
    have e5 : wrap64 (p + 2) = p + 2 := w64 (by omega) (by omega)
    rw [if_pos h]
    simp only [e4, e5, e3]
    refine ev_pos (by omega) (ev_pos h.1 (ev_pos h.2 ?_))
    by_cases h1 : rd b p ≤ 127
    · rw [if_pos h1]; exact ev_pos (by omega) (Ev.now _)
    · rw [if_neg h1]
      refine ev_neg (by omega) ?_
      by_cases h2 : p + 1 < b.length
      · refine ev_neg (by omega) (ev_pos (by omega) (ev_pos h2 (ev_bind (spec_PairSign_ev _ _) ?_)))
        by_cases h3 : (pairSign (rd b p) (rd b (p + 1))).2 = true
        · rw [if_pos (c := p + 1 < (b.length : Int) ∧ (pairSign (rd b p) (rd b (p + 1))).2 = true) ⟨h2, h3⟩]; exact ev_pos h3 (Ev.now _)
        · rw [if_neg (c := p + 1 < (b.length : Int) ∧ (pairSign (rd b p) (rd b (p + 1))).2 = true) (fun z => h3 z.2)]; exact ev_neg h3 (Ev.now _)
      · rw [if_neg (c := p + 1 < (b.length : Int) ∧ (pairSign (rd b p) (rd b (p + 1))).2 = true) (fun z => h2 z.1)]; exact ev_pos (by omega) (Ev.now _)
  · rw [if_neg h]; exact ev_neg (by omega) (Ev.now _)
theorem l1Bytes_l0 (c : List Int) (hl : c.length ≤ 4611686018427387904) (n : Int) (hn : n ≤ 1099511627776) (d : Nat) : ∀ (j : Int) (out : List Int) (i h : Int), 0 ≤ j → j + d = n → (out.length : Int) = j → Bytes out → 0 ≤ i →
    ∃ l i' h', Ev (fun k => spec_l1Bytes.l0 k n out j c i h) (l, i', h') ∧ 0 ≤ i' ∧ Bytes l ∧ (l.length : Int) = n := by
  induction d with
  | zero =>
    intro j out i h h0 hj ho hb hi
    refine ⟨out, i, h, ev_shift ?_, hi, hb, by omega⟩
    simp only [spec_l1Bytes.l0]
    exact ev_neg (by omega) (Ev.now _)
  | succ d ih =>
    intro j out i h h0 hj ho hb hi
    obtain ⟨x, i1, g1, e1, p1, q1, r1⟩ := l1Byte_ok c i h hi hl
    obtain ⟨l, i2, g2, e2, p2, q2, r2⟩ := ih (j + 1) (out ++ [x % 256]) i1 g1 (by omega) (by omega) (by simp; omega) (hb.append (.cons (by omega) (by omega) .nil)) p1
    refine ⟨l, i2, g2, ev_shift ?_, p2, q2, r2⟩
    simp only [spec_l1Bytes.l0]
    rw [w64 (x := j + 1) (by omega) (by omega)]
    exact ev_pos (by omega) (ev_call e1 (ev_pos (by omega) e2))
theorem l1Bytes_ev (c : List Int) (i h n : Int) (hi : 0 ≤ i) (hl : c.length ≤ 4611686018427387904) (h0 : 0 ≤ n) (hn : n ≤ 1099511627776) :
    ∃ l i' h', Ev (fun k => spec_l1Bytes.f k c i h n) (l, i', h') ∧ 0 ≤ i' ∧ Bytes l ∧ (l.length : Int) = n := l1Bytes_l0 c hl n hn n.toNat 0 [] i h (by omega) (by omega) rfl Bytes.nil hi
theorem l1Once_ok (c : List Int) (i h n : Int) (hi : 0 ≤ i) (hl : c.length ≤ 4611686018427387904) : ∃ x i' h', spec_l1Once.f c i h n = some (x, i', h') ∧ 0 ≤ i' := by
  unfold spec_l1Once.f
  obtain ⟨x, i1, g1, e1, p1, _⟩ := l1Below_ok c i h n hi hl
  rw [e1]; exact ⟨_, _, _, rfl, p1⟩
theorem l2Sign_ok (c : List Int) (i h : Int) (hi : 0 ≤ i) (hl : c.length ≤ 4611686018427387904) : ∃ x i' h', spec_l2Sign.f c i h = some (x, i', h') ∧ 0 ≤ i' ∧ x ∈ ([0, 97, 90, 127, 128, 164, 233, 2047, 2048, 8364, 1072, 1102, 1025, 12354, 12450, 352, 65535, 65536, 1114111] : List Int) := by
  unfold spec_l2Sign.f
  obtain ⟨x, i1, g1, e1, p1, q1⟩ := l1Int_ok c i h [0, 97, 90, 127, 128, 164, 233, 2047, 2048, 8364, 1072, 1102, 1025, 12354, 12450, 352, 65535, 65536, 1114111] hi hl (by simp)
  rw [e1]; exact ⟨_, _, _, rfl, p1, q1⟩
theorem l2Any_ok (c : List Int) (i h : Int) (hi : 0 ≤ i) (hl : c.length ≤ 4611686018427387904) : ∃ x i' h', spec_l2Any.f c i h = some (x, i', h') ∧ 0 ≤ i' := by
  unfold spec_l2Any.f
  obtain ⟨x, i1, g1, e1, p1⟩ := l1Once_ok c i h 5 hi hl
  rw [e1]; simp only [Option.bind_some]
  cases x with
  | true =>
    rw [if_pos rfl]
    obtain ⟨y, i2, g2, e2, p2, _⟩ := l1Int_ok c i1 g1 [(-1), 55296, 57343, 55295, 57344, 1114112, 9223372036854775807] p1 hl (by simp)
    rw [e2]; exact ⟨_, _, _, rfl, p2⟩
  | false =>
    rw [if_neg (by decide)]
    obtain ⟨y, i2, g2, e2, p2, _⟩ := l2Sign_ok c i1 g1 p1 hl
    rw [e2]; exact ⟨_, _, _, rfl, p2⟩
theorem DrawPutEuc_ev (c : List Int) (hl : c.length ≤ 4611686018427387904) : ∃ b n, Ev (fun k => spec_DrawPutEuc.f k c) (b, n) ∧ Bytes b ∧ b.length ≤ 1000 := by
  obtain ⟨h, hN⟩ := l1New_ev c hl
  obtain ⟨x, i1, g1, e1, p1, q1, _, r1⟩ := l1Below_ok c 0 h 3 (by omega) hl
  have r2 := r1 (by omega)
  obtain ⟨b, i2, g2, e2, p2, q2, r2⟩ := l1Bytes_ev c i1 g1 x p1 hl q1 (by omega)
  obtain ⟨o, i3, g3, e3, p3⟩ := l1Once_ok c i2 g2 2 p2 hl
  cases o with
  | true =>
    obtain ⟨n, e4⟩ := DrawSignPair_ev c hl
    refine ⟨b, n, ?_, q2, by omega⟩
    simp only [spec_DrawPutEuc.f]
    exact ev_bind hN (ev_call e1 (ev_bind e2 (ev_call e3 (ev_pos rfl (ev_bind e4 (Ev.now _))))))
  | false =>
    obtain ⟨n, i4, g4, e4, p4⟩ := l2Any_ok c i3 g3 p3 hl
    refine ⟨b, n, ?_, q2, by omega⟩
    simp only [spec_DrawPutEuc.f]
    exact ev_bind hN (ev_call e1 (ev_bind e2 (ev_call e3 (ev_neg (by simp) (ev_call e4 (Ev.now _))))))
theorem impl_joined_1 (a : List Int) (h : a.length < 140737488355328) : Ev (fun k => impl_joined.f k [a]) a := by
  refine ev_shift (ev_shift (ev_same fun k => ?_))
  simp only [impl_joined.f, impl_joined.l0]
  simp [rd_L2, wrap64, h]
theorem impl_joined_2 (a b : List Int) (h : a.length + b.length < 140737488355328) : Ev (fun k => impl_joined.f k [a, b]) (a ++ b) := by
  refine ev_shift (ev_shift (ev_shift (ev_same fun k => ?_)))
  have ha : a.length < 140737488355328 := by omega
  simp only [impl_joined.f, impl_joined.l0]
  simp [rd_L2, wrap64, h, ha]
theorem impl_PutEuc_ev (b : List Int) (n : Int) (h : b.length + 2 < 140737488355328) : Ev (fun k => impl_PutEuc.f k b n) (b ++ (eucOf n).1, (eucOf n).2) := by
  unfold eucOf
  simp only [impl_PutEuc.f, Option.bind_some, impl_within_eq, impl_SignPair_eq, inR_true]
  by_cases h1 : 0 ≤ n ∧ n ≤ 127
  · rw [if_pos h1, show n % 256 = n by omega]
    exact ev_pos h1 (ev_bind (impl_joined_2 b [n] (by simp; omega)) (Ev.now _))
  · rw [if_neg h1]
    refine ev_neg h1 ?_
    have e : (signPair n).1 % 256 = (signPair n).1 ∧ (signPair n).2.1 % 256 = (signPair n).2.1 := signPair_mod n
    rw [e.1, e.2]
    by_cases h2 : (signPair n).2.2 = true
    · rw [if_pos h2]; exact ev_pos h2 (ev_bind (impl_joined_2 b _ (by simp; omega)) (Ev.now _))
    · rw [if_neg h2]; exact ev_neg h2 (ev_bind (impl_joined_1 b (by omega)) (ev_is (Ev.now _) (by simp)))

theorem pair_back {hi lo : Int} (h : (pairSign hi lo).2 = true) : signPair (pairSign hi lo).1 = (hi, lo, true) := by
  unfold pairSign at h ⊢
  by_cases h1 : hi = 164 ∧ 161 ≤ lo ∧ lo ≤ 243
  · rw [if_pos h1]
    unfold signPair
    simp only
    rw [if_pos (by omega), h1.1, show 12353 + lo - 161 - 12353 + 161 = lo by omega]
  · rw [if_neg h1] at h ⊢
    by_cases h2 : hi = 165 ∧ 161 ≤ lo ∧ lo ≤ 246
    · rw [if_pos h2]
      unfold signPair
      simp only
      rw [if_neg (by omega), if_pos (by omega), h2.1, show 12449 + lo - 161 - 12449 + 161 = lo by omega]
    · rw [if_neg h2] at h; cases h
/-- What is read at a place is written as it stood there. -/
theorem euc_back {b : List Int} {p : Int} (hb : Bytes b) (h : (eucSign b p).2.2 = true) :
    (eucOf (eucSign b p).1).2 = true ∧ 0 ≤ p ∧ p ≤ (eucSign b p).2.1 ∧ (eucSign b p).2.1 ≤ b.length ∧ (eucOf (eucSign b p).1).1 = (b.take (eucSign b p).2.1.toNat).drop p.toNat := by
  unfold eucSign at h ⊢
  by_cases h1 : 0 ≤ p ∧ p < b.length
  · rw [if_pos h1] at h ⊢
    obtain ⟨p, rfl⟩ := Int.eq_ofNat_of_zero_le h1.1
    have hp : p < b.length := by omega
    have r0 := hb.rd (p : Int)
    rw [rd_lt b p hp] at h r0 ⊢
    by_cases h2 : b[p] ≤ 127
    · rw [if_pos h2]
      have e : (b.take (p + 1)).drop p = [b[p]] := by
        rw [List.drop_take, Nat.add_sub_cancel_left, List.drop_eq_getElem_cons hp]; rfl
      simp only [Int.toNat_natCast, show ((p : Int) + 1).toNat = p + 1 by omega, e]
      unfold eucOf
      rw [if_pos ⟨r0.1, h2⟩]
      exact ⟨rfl, by omega, by omega, by omega, rfl⟩
    · rw [if_neg h2] at h ⊢
      by_cases h3 : (p : Int) + 1 < b.length
      · have hp1 : p + 1 < b.length := by omega
        have er : rd b ((p : Int) + 1) = b[p + 1] := by rw [show (p : Int) + 1 = ((p + 1 : Nat) : Int) by omega, rd_lt b (p + 1) hp1]
        rw [er] at h ⊢
        by_cases h4 : (pairSign b[p] b[p + 1]).2 = true
        · rw [if_pos ⟨h3, h4⟩]
          have e : (b.take (p + 2)).drop p = [b[p], b[p + 1]] := by
            rw [List.drop_take, Nat.add_sub_cancel_left, List.drop_eq_getElem_cons hp, List.drop_eq_getElem_cons hp1]; rfl
          simp only [Int.toNat_natCast, show ((p : Int) + 2).toNat = p + 2 by omega, e]
          have hr := pairSign_range h4
          have hk := pair_back h4
          unfold eucOf
          rw [if_neg (by omega), hk]
          simp only [if_true]
          exact ⟨trivial, by omega, by omega, by omega, trivial⟩
        · rw [if_neg (fun z => h4 z.2)] at h; cases h
      · rw [if_neg (fun z => h3 z.1)] at h; cases h
  · rw [if_neg h1] at h; cases h
theorem FnPairs : laws_FnPairs.Pure := by
  intro l hm _ hb0
  apply Ev.rounds
  simp only [laws_FnPairs.f]
  by_cases h : (l.length : Int) > 1048576
  · exact ev_call (laws_big_eq l) (ev_pos (decide_eq_true h) (Ev.now _))
  refine ev_call (laws_big_eq l) (ev_neg (by simpa using h) ?_)
  have hl : l.length ≤ 4611686018427387904 := by omega
  obtain ⟨hi, lo, d1⟩ := DrawPairSign_ev l hl
  obtain ⟨m, d2⟩ := DrawSignPair_ev l hl
  obtain ⟨e, i, d3, eb, el⟩ := DrawEucSign_ev l hl
  obtain ⟨f, n, d4, fb, fl⟩ := DrawPutEuc_ev l hl
  refine ev_bind d1 (ev_bind (impl_PairSign_ev hi lo) (ev_bind (spec_PairSign_ev hi lo) (ev_bind d2 (ev_call (impl_SignPair_eq m) (ev_call (spec_SignPair_eq m) ?_)))))
  refine ev_bind d3 (ev_bind (impl_EucSign_ev e i eb (by omega)) (ev_bind (spec_EucSign_ev e i eb (by omega)) (ev_bind d4 (ev_bind (impl_PutEuc_ev f n (by omega)) (ev_call (spec_PutEuc_eq f n (by omega)) ?_)))))
  refine ev_neg (by simp) (ev_pos rfl (ev_neg (by simp) (ev_pos rfl (ev_pos rfl (ev_neg (by simp) (ev_neg (by simp) ?_))))))
  refine ev_shift ?_
  simp only [laws_FnPairs.j0]
  refine ev_neg (by simp) ?_
  have fin : ∀ c : Bool, c = (eucSign e i).2.2 → Ev (fun k => if c = true then ((impl_PutEuc.f k ([] : List Int) (eucSign e i).1).bind fun bt => (if bt.2 = true then (if 0 ≤ i then (if i ≤ (eucSign e i).2.1 then (if (eucSign e i).2.1 ≤ (e.length : Int) then (some ((strOfNums bt.1).toList == (strOfNums ((e.take ((eucSign e i).2.1 : Int).toNat).drop (i : Int).toNat)).toList)) else (none)) else (none)) else (none)) else (some false))) else (some true)) true := by
    intro c hc
    by_cases hg : c = true
    · have hg2 : (eucSign e i).2.2 = true := hc ▸ hg
      obtain ⟨k1, k2, k3, k4, k5⟩ := euc_back eb hg2
      refine ev_pos hg (ev_bind (impl_PutEuc_ev [] _ (by simp)) ?_)
      refine ev_pos k1 (ev_pos k2 (ev_pos k3 (ev_pos k4 (ev_is (Ev.now _) ?_))))
      simp only [List.nil_append, k5]
      exact beq_self_eq_true _
    · exact ev_neg hg (Ev.now _)
  by_cases hk : (pairSign hi lo).2 = true
  · refine ev_pos hk (ev_call (impl_SignPair_eq _) ?_)
    rw [pair_back hk]
    refine ev_pos rfl (ev_pos rfl (ev_shift ?_))
    simp only [laws_FnPairs.j1]
    exact ev_neg (by simp) (fin _ rfl)
  · exact ev_neg hk (fin _ rfl)

end Go.Proofs.Ytnmncgbegiegfaa.Pure
