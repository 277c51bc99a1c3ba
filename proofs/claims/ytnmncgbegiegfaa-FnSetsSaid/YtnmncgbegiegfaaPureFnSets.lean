/- The law FnSets answers true at every row of bytes that memory holds: a sign's byte stands for it, and a byte's sign has a byte that stands for it; below 128 all sets are alike. -/
import Derived.Test.YtnmncgbegiegfaaQFnSetsx4
import Derived.Test.YtnmncgbegiegfaaModel
import Derived.Test.YtnmncgbegiegfaaModelC
import Derived.Test.YtnmncgbegiegfaaModelU
namespace Go.Proofs.Ytnmncgbegiegfaa.Pure
open Go.RowKit Go.Proofs.Ytnmncgbegiegfaa.QFnSets Go.Proofs.YtnmncgbegiegfaaW.PrintWords Go.Proofs.YtnmncgbegiegfaaW.PrintLast Go.Proofs.Ytnmncgbegiegfaa.Ext Go.Proofs.Ytnmncgbegiegfaa.Base Go.Proofs.Ytnmncgbegiegfaa.Model

theorem laws_big_eq (c : List Int) : laws_big.f c = some (decide ((c.length : Int) > 1048576)) := rfl
theorem laws_at_ok (c : List Int) (j : Int) (hb : Bytes c) (h0 : 0 ≤ j) (h1 : j ≤ 1000) (hl : c.length ≤ 1048576) : ∃ x, laws_at.f c j = some x ∧ 0 ≤ x ∧ x ≤ 255 := by
  unfold laws_at.f
  have hr := hb.rd j
  by_cases h : j < (c.length : Int)
  · rw [if_pos h, if_pos h0, w64 (by omega) (by omega)]; exact ⟨_, rfl, hr.1, hr.2⟩
  · rw [if_neg h, w64 (x := j * 31) (by omega) (by omega), w64 (x := (c.length : Int) * 7) (by omega) (by omega), w64 (by omega) (by omega), Int.tmod_eq_emod_of_nonneg (by omega)]
    exact ⟨_, rfl, by omega, by omega⟩
theorem spec_l1In_eq (a b c : Int) : spec_l1In.f a b c = some (inR a b c) := by
  unfold spec_l1In.f inR; by_cases h : a ≥ b <;> simp [h]
theorem spec_l3Nine_eq (b : Int) : spec_l3Nine.f b = some (nineM b) := by
  unfold spec_l3Nine.f nineM
  simp only [apply_ite some]
theorem spec_l3Koi_eq (b : Int) (h0 : 128 ≤ b) (h1 : b ≤ 255) : spec_l3Koi.f b = some (if koiM b = 0 then -1 else koiM b) :=
  high_of (P := fun b => spec_l3Koi.f b = some (if koiM b = 0 then -1 else koiM b)) (by decide +kernel) b h0 h1
theorem koi_pos (b : Int) (h0 : 128 ≤ b) (h1 : b ≤ 255) : 0 ≤ koiM b := high_of (P := fun b => 0 ≤ koiM b) (by decide +kernel) b h0 h1
theorem spec_l3Win_eq (b : Int) (h0 : 128 ≤ b) (h1 : b ≤ 255) : spec_l3Win.f b = some (if winM b = 0 then -1 else winM b) :=
  high_of (P := fun b => spec_l3Win.f b = some (if winM b = 0 then -1 else winM b)) (by decide +kernel) b h0 h1
theorem win_pos (b : Int) (h0 : 128 ≤ b) (h1 : b ≤ 255) : 0 ≤ winM b := high_of (P := fun b => 0 ≤ winM b) (by decide +kernel) b h0 h1
theorem nine_pos (b : Int) (h0 : 128 ≤ b) (h1 : b ≤ 255) : 1 ≤ nineM b := high_of (P := fun b => 1 ≤ nineM b) (by decide +kernel) b h0 h1
theorem spec_ByteSign_ev (cs b : Int) : Ev (fun k => spec_ByteSign.f k cs b) (byteSign cs b) := by
  unfold byteSign
  refine ev_shift (ev_same fun k => ?_)
  simp only [spec_ByteSign.f, spec_ByteSign.j0, spec_l1In_eq, Option.bind_some, inR_true]
  by_cases h1 : 1 ≤ cs ∧ cs ≤ 4
  · by_cases h2 : 0 ≤ b ∧ b ≤ 255
    · rw [if_pos h1, if_pos (c := (1 ≤ cs ∧ cs ≤ 4) ∧ (0 ≤ b ∧ b ≤ 255)) ⟨h1, h2⟩, inR_true.2 h2]
      simp only [Bool.not_true, Bool.false_eq_true, if_false]
      by_cases h3 : b ≤ 127
      · rw [if_neg (by omega), if_neg (by omega), if_pos h3]
      · rw [if_pos (by omega), if_neg h3]
        have hb0 : 128 ≤ b := by omega
        unfold highM
        by_cases c2 : cs = 2
        · have := nine_pos b hb0 h2.2
          rw [if_pos c2, if_pos c2, spec_l3Nine_eq]; simp only [Option.bind_some]
          rw [if_neg (by omega), if_neg (by omega)]
        · rw [if_neg c2, if_neg c2]
          by_cases c3 : cs = 3
          · have := koi_pos b hb0 h2.2
            rw [if_pos c3, if_pos c3, spec_l3Koi_eq b hb0 h2.2]; simp only [Option.bind_some]
            by_cases z : koiM b = 0
            · rw [if_pos z, if_pos z, if_pos (by decide)]
            · rw [if_neg z, if_neg z, if_neg (by omega)]
          · rw [if_neg c3, if_neg c3]
            by_cases c4 : cs = 4
            · have := win_pos b hb0 h2.2
              rw [if_pos c4, if_pos c4, spec_l3Win_eq b hb0 h2.2]; simp only [Option.bind_some]
              by_cases z : winM b = 0
              · rw [if_pos z, if_pos z, if_pos (by decide)]
              · rw [if_neg z, if_neg z, if_neg (by omega)]
            · rw [if_neg c4, if_neg c4, if_neg (by omega), if_neg (by omega)]
    · rw [if_pos h1, if_neg (c := (1 ≤ cs ∧ cs ≤ 4) ∧ (0 ≤ b ∧ b ≤ 255)) (fun z => h2 z.2), inR_false.2 h2]; rfl
  · rw [if_neg h1, if_neg (c := (1 ≤ cs ∧ cs ≤ 4) ∧ (0 ≤ b ∧ b ≤ 255)) (fun z => h1 z.1)]; rfl
theorem spec_SignByte_l0 (cs n : Int) (d : Nat) : ∀ b : Int, 0 ≤ b → b + d = 256 → Ev (fun k => spec_SignByte.l0 k cs n b) (signByteFrom cs n d b) := by
  induction d with
  | zero =>
    intro b h0 h
    refine ev_shift ?_
    simp only [spec_SignByte.l0]
    exact ev_neg (by omega) (Ev.now _)
  | succ d ih =>
    intro b h0 h
    refine ev_shift ?_
    simp only [spec_SignByte.l0]
    rw [w64 (x := b + 1) (by omega) (by omega)]
    refine ev_pos (by omega) (ev_bind (spec_ByteSign_ev cs b) ?_)
    unfold signByteFrom
    by_cases h1 : (byteSign cs b).2 = true
    · by_cases h2 : (byteSign cs b).1 = n
      · rw [if_pos ⟨h1, h2⟩]; exact ev_pos h1 (ev_pos h2 (Ev.now _))
      · rw [if_neg (fun z => h2 z.2)]; exact ev_pos h1 (ev_neg h2 (ih (b + 1) (by omega) (by omega)))
    · rw [if_neg (fun z => h1 z.1)]; exact ev_neg h1 (ih (b + 1) (by omega) (by omega))
theorem spec_SignByte_ev (cs n : Int) : Ev (fun k => spec_SignByte.f k cs n) (signByte cs n) := spec_SignByte_l0 cs n 256 0 (by omega) (by omega)
theorem impl_within_eq (a b c : Int) : impl_within.f a b c = some (inR a b c) := by
  unfold impl_within.f inR; by_cases h : a ≥ b <;> simp [h]
theorem impl_nineSign_eq (b : Int) : impl_nineSign.f b = some (nineM b) := by
  unfold impl_nineSign.f nineM
  simp only [apply_ite some]
theorem impl_koiSign_eq (b : Int) (h0 : 128 ≤ b) (h1 : b ≤ 255) : impl_koiSign.f b = some (koiM b) :=
  high_of (P := fun b => impl_koiSign.f b = some (koiM b)) (by decide +kernel) b h0 h1
theorem impl_winSign_eq (b : Int) (h0 : 128 ≤ b) (h1 : b ≤ 255) : impl_winSign.f b = some (winM b) :=
  high_of (P := fun b => impl_winSign.f b = some (winM b)) (by decide +kernel) b h0 h1
theorem impl_ByteSign_ev (cs b : Int) : Ev (fun k => impl_ByteSign.f k cs b) (byteSign cs b) := by
  unfold byteSign
  refine ev_shift (ev_same fun k => ?_)
  simp only [impl_ByteSign.f, impl_ByteSign.j0, impl_within_eq, Option.bind_some, inR_true]
  have fin : ∀ n : Int, (some (n, (n != 0)) : Option (Int × Bool)) = some (if n = 0 then (0, false) else (n, true)) := by
    intro n
    by_cases z : n = 0
    · rw [if_pos z, z]; rfl
    · rw [if_neg z, bne_iff_ne.2 z]
  by_cases h1 : 1 ≤ cs ∧ cs ≤ 4
  · by_cases h2 : 0 ≤ b ∧ b ≤ 255
    · rw [if_pos h1, if_pos (c := (1 ≤ cs ∧ cs ≤ 4) ∧ (0 ≤ b ∧ b ≤ 255)) ⟨h1, h2⟩, inR_true.2 h2]
      simp only [Bool.not_true, Bool.false_eq_true, if_false]
      by_cases h3 : b ≤ 127
      · rw [if_pos h3, if_pos h3]
      · rw [if_neg h3, if_neg h3]
        have hb0 : 128 ≤ b := by omega
        unfold highM
        by_cases c2 : cs = 2
        · rw [if_pos c2, if_pos c2, impl_nineSign_eq]; exact fin _
        · rw [if_neg c2, if_neg c2]
          by_cases c3 : cs = 3
          · rw [if_pos c3, if_pos c3, impl_koiSign_eq b hb0 h2.2]; exact fin _
          · rw [if_neg c3, if_neg c3]
            by_cases c4 : cs = 4
            · rw [if_pos c4, if_pos c4, impl_winSign_eq b hb0 h2.2]; exact fin _
            · rw [if_neg c4, if_neg c4]; exact fin _
    · rw [if_pos h1, if_neg (c := (1 ≤ cs ∧ cs ≤ 4) ∧ (0 ≤ b ∧ b ≤ 255)) (fun z => h2 z.2), inR_false.2 h2]; rfl
  · rw [if_neg h1, if_neg (c := (1 ≤ cs ∧ cs ≤ 4) ∧ (0 ≤ b ∧ b ≤ 255)) (fun z => h1 z.1)]; rfl
theorem impl_SignByte_l0 (cs n : Int) (d : Nat) : ∀ b : Int, 0 ≤ b → b + d = 256 → Ev (fun k => impl_SignByte.l0 k cs n b) (signByteFrom cs n d b) := by
  induction d with
  | zero =>
    intro b h0 h
    refine ev_shift ?_
    simp only [impl_SignByte.l0]
    exact ev_neg (by omega) (Ev.now _)
  | succ d ih =>
    intro b h0 h
    refine ev_shift ?_
    simp only [impl_SignByte.l0]
    rw [w64 (x := b + 1) (by omega) (by omega)]
    refine ev_pos (by omega) (ev_bind (impl_ByteSign_ev cs b) ?_)
    unfold signByteFrom
    by_cases h1 : (byteSign cs b).2 = true
    · by_cases h2 : (byteSign cs b).1 = n
      · rw [if_pos ⟨h1, h2⟩]; exact ev_pos h1 (ev_pos h2 (Ev.now _))
      · rw [if_neg (fun z => h2 z.2)]; exact ev_pos h1 (ev_neg h2 (ih (b + 1) (by omega) (by omega)))
    · rw [if_neg (fun z => h1 z.1)]; exact ev_neg h1 (ih (b + 1) (by omega) (by omega))
theorem impl_SignByte_ev (cs n : Int) : Ev (fun k => impl_SignByte.f k cs n) (signByte cs n) := impl_SignByte_l0 cs n 256 0 (by omega) (by omega)
theorem l1New_l0 (c : List Int) (_hl : c.length ≤ 4611686018427387904) (d : Nat) : ∀ (i : Nat) (h : Int), i + d = c.length → ∃ h', Ev (fun k => spec_l1New.l0 k c h (i : Int)) (c, 0, h') := by
  induction d with
  | zero =>
    intro i h hi
    refine ⟨h, ev_shift ?_⟩
    simp only [spec_l1New.l0]
    exact ev_neg (by omega) (Ev.now _)
  | succ d ih =>
    intro i h hi
    by_cases h4 : (i : Int) < 4000
    · obtain ⟨h', e⟩ := ih (i + 1) (Go.bits .and .i64 (wrap64 ((wrap64 ((wrap64 (h * 137)) + (wrap64 (rd c (i : Int))))) + 11)) 1073741823) (by omega)
      refine ⟨h', ev_shift ?_⟩
      simp only [spec_l1New.l0, next_nat i (by omega)]
      exact ev_pos (by omega) (ev_pos h4 (ev_pos (by omega) e))
    · refine ⟨h, ev_shift ?_⟩
      simp only [spec_l1New.l0]
      exact ev_pos (by omega) (ev_neg h4 (Ev.now _))
theorem l1New_ev (c : List Int) (hl : c.length ≤ 4611686018427387904) : ∃ h, Ev (fun k => spec_l1New.f k c) (c, 0, h) := l1New_l0 c hl c.length 0 _ (by omega)
theorem l1Byte_ok (c : List Int) (i h : Int) (hi : 0 ≤ i) (hl : c.length ≤ 4611686018427387904) : ∃ x i' h', spec_l1Byte.f c i h = some (x, i', h') ∧ 0 ≤ i' ∧ 0 ≤ x ∧ x ≤ 255 := by
  unfold spec_l1Byte.f
  by_cases h1 : i < (c.length : Int)
  · rw [if_pos h1, if_pos hi, and_255, w64 (x := i + 1) (by omega) (by omega)]
    exact ⟨_, _, _, rfl, by omega, by omega, by omega⟩
  · rw [if_neg h1, and_255]
    exact ⟨_, _, _, rfl, hi, by omega, by omega⟩
theorem l1Below_ok (c : List Int) (i h n : Int) (hi : 0 ≤ i) (hl : c.length ≤ 4611686018427387904) : ∃ x i' h', spec_l1Below.f c i h n = some (x, i', h') ∧ 0 ≤ i' ∧ 0 ≤ x ∧ (n ≤ 0 → x = 0) ∧ (0 < n → x < n) := by
  unfold spec_l1Below.f
  by_cases h1 : n ≤ 0
  · rw [if_pos h1]; exact ⟨0, i, h, rfl, hi, by omega, fun _ => rfl, fun z => by omega⟩
  · rw [if_neg h1]
    obtain ⟨x, i1, g1, e1, p1, q1, r1⟩ := l1Byte_ok c i h hi hl
    rw [e1]; simp only [Option.bind_some]
    by_cases h2 : n ≤ 256
    · rw [if_pos h2, if_neg (by omega), Int.tmod_eq_emod_of_nonneg q1]
      exact ⟨_, _, _, rfl, p1, Int.emod_nonneg _ (by omega), fun z => absurd z h1, fun z => Int.emod_lt_of_pos _ z⟩
    · rw [if_neg h2]
      obtain ⟨y, i2, g2, e2, p2, q2, r2⟩ := l1Byte_ok c i1 g1 p1 hl
      rw [e2]; simp only [Option.bind_some]
      obtain ⟨z, i3, g3, e3, p3, q3, r3⟩ := l1Byte_ok c i2 g2 p2 hl
      rw [e3]; simp only [Option.bind_some]
      rw [if_neg (by omega), w64 (x := x * 65536) (by omega) (by omega), w64 (x := y * 256) (by omega) (by omega), w64 (x := x * 65536 + y * 256) (by omega) (by omega), w64 (x := x * 65536 + y * 256 + z) (by omega) (by omega), Int.tmod_eq_emod_of_nonneg (by omega)]
      exact ⟨_, _, _, rfl, p3, Int.emod_nonneg _ (by omega), fun z => absurd z h1, fun z => Int.emod_lt_of_pos _ z⟩
theorem l1Int_ok (c : List Int) (i h : Int) (l : List Int) (hi : 0 ≤ i) (hl : c.length ≤ 4611686018427387904) (hn : l ≠ []) : ∃ x i' h', spec_l1Int.f c i h l = some (x, i', h') ∧ 0 ≤ i' ∧ x ∈ l := by
  have h1 : 0 < l.length := List.length_pos_iff.2 hn
  unfold spec_l1Int.f
  obtain ⟨x, i1, g1, e1, p1, q1, _, r1⟩ := l1Below_ok c i h l.length hi hl
  have r2 := r1 (by omega)
  rw [e1]; simp only [Option.bind_some]
  rw [if_pos q1, if_pos r2]
  obtain ⟨m, rfl⟩ := Int.eq_ofNat_of_zero_le q1
  rw [rd_lt l m (by omega)]
  exact ⟨_, _, _, rfl, p1, List.getElem_mem _⟩
theorem l3Any_ok (c : List Int) (i h : Int) (hi : 0 ≤ i) (hl : c.length ≤ 4611686018427387904) : ∃ x i' h', spec_l3Any.f c i h = some (x, i', h') ∧ 0 ≤ i' ∧ x ∈ ([0, 1, 2, 3, 4, 5, 6, (-1)] : List Int) := by
  unfold spec_l3Any.f
  obtain ⟨x, i1, g1, e1, p1, q1⟩ := l1Int_ok c i h [0, 1, 2, 3, 4, 5, 6, (-1)] hi hl (by simp)
  rw [e1]; exact ⟨_, _, _, rfl, p1, q1⟩
theorem DrawByteSign_ev (c : List Int) (hl : c.length ≤ 4611686018427387904) : ∃ a b, Ev (fun k => spec_DrawByteSign.f k c) (a, b) := by
  obtain ⟨h, hN⟩ := l1New_ev c hl
  obtain ⟨a, i1, g1, e1, p1, _⟩ := l3Any_ok c 0 h (by omega) hl
  obtain ⟨x, i2, g2, e2, p2, _⟩ := l1Below_ok c i1 g1 256 p1 hl
  obtain ⟨b, i3, g3, e3, p3, _⟩ := l1Int_ok c i2 g2 [0, 65, 127, 128, 129, 160, 163, 164, 179, 192, 223, 224, 255, 256, (-1), x] p2 hl (by simp)
  refine ⟨a, b, ?_⟩
  simp only [spec_DrawByteSign.f]
  exact ev_bind hN (ev_call e1 (ev_call e2 (ev_call e3 (Ev.now _))))
theorem l1Once_ok (c : List Int) (i h n : Int) (hi : 0 ≤ i) (hl : c.length ≤ 4611686018427387904) : ∃ x i' h', spec_l1Once.f c i h n = some (x, i', h') ∧ 0 ≤ i' := by
  unfold spec_l1Once.f
  obtain ⟨x, i1, g1, e1, p1, _⟩ := l1Below_ok c i h n hi hl
  rw [e1]; exact ⟨_, _, _, rfl, p1⟩
theorem l2Sign_ok (c : List Int) (i h : Int) (hi : 0 ≤ i) (hl : c.length ≤ 4611686018427387904) : ∃ x i' h', spec_l2Sign.f c i h = some (x, i', h') ∧ 0 ≤ i' ∧ x ∈ ([0, 97, 90, 127, 128, 164, 233, 2047, 2048, 8364, 1072, 1102, 1025, 12354, 12450, 352, 65535, 65536, 1114111] : List Int) := by
  unfold spec_l2Sign.f
  obtain ⟨x, i1, g1, e1, p1, q1⟩ := l1Int_ok c i h [0, 97, 90, 127, 128, 164, 233, 2047, 2048, 8364, 1072, 1102, 1025, 12354, 12450, 352, 65535, 65536, 1114111] hi hl (by simp)
  rw [e1]; exact ⟨_, _, _, rfl, p1, q1⟩
theorem l2Any_ok (c : List Int) (i h : Int) (hi : 0 ≤ i) (hl : c.length ≤ 4611686018427387904) : ∃ x i' h', spec_l2Any.f c i h = some (x, i', h') ∧ 0 ≤ i' := by
  unfold spec_l2Any.f
  obtain ⟨x, i1, g1, e1, p1⟩ := l1Once_ok c i h 5 hi hl
  rw [e1]; simp only [Option.bind_some]
  cases x with
  | true =>
    rw [if_pos rfl]
    obtain ⟨y, i2, g2, e2, p2, _⟩ := l1Int_ok c i1 g1 [(-1), 55296, 57343, 55295, 57344, 1114112, 9223372036854775807] p1 hl (by simp)
    rw [e2]; exact ⟨_, _, _, rfl, p2⟩
  | false =>
    rw [if_neg (by decide)]
    obtain ⟨y, i2, g2, e2, p2, _⟩ := l2Sign_ok c i1 g1 p1 hl
    rw [e2]; exact ⟨_, _, _, rfl, p2⟩
theorem DrawSignByte_ev (c : List Int) (hl : c.length ≤ 4611686018427387904) : ∃ a b, Ev (fun k => spec_DrawSignByte.f k c) (a, b) := by
  obtain ⟨h, hN⟩ := l1New_ev c hl
  obtain ⟨a, i1, g1, e1, p1, _⟩ := l3Any_ok c 0 h (by omega) hl
  obtain ⟨b, i2, g2, e2, p2⟩ := l2Any_ok c i1 g1 p1 hl
  refine ⟨a, b, ?_⟩
  simp only [spec_DrawSignByte.f]
  exact ev_bind hN (ev_call e1 (ev_call e2 (Ev.now _)))
theorem DrawCsName_ev (c : List Int) (hl : c.length ≤ 4611686018427387904) : ∃ a, Ev (fun k => spec_DrawCsName.f k c) a := by
  obtain ⟨h, hN⟩ := l1New_ev c hl
  obtain ⟨a, i1, g1, e1, p1, _⟩ := l3Any_ok c 0 h (by omega) hl
  refine ⟨a, ?_⟩
  simp only [spec_DrawCsName.f]
  exact ev_bind hN (ev_call e1 (Ev.now _))
theorem l1Str_ok (c : List Int) (i h : Int) (l : List ByteArray) (hi : 0 ≤ i) (hl : c.length ≤ 4611686018427387904) (hn : l ≠ []) : ∃ x i' h', spec_l1Str.f c i h l = some (x, i', h') ∧ 0 ≤ i' ∧ x ∈ l := by
  have h1 : 0 < l.length := List.length_pos_iff.2 hn
  unfold spec_l1Str.f
  obtain ⟨x, i1, g1, e1, p1, q1, _, r1⟩ := l1Below_ok c i h l.length hi hl
  have r2 := r1 (by omega)
  rw [e1]; simp only [Option.bind_some]
  rw [if_pos q1, if_pos r2]
  obtain ⟨m, rfl⟩ := Int.eq_ofNat_of_zero_le q1
  have hm : m < l.length := by omega
  refine ⟨_, _, _, rfl, p1, ?_⟩
  rw [rdOf, Int.toNat_natCast, List.getD_eq_getElem?_getD, List.getElem?_eq_getElem hm]
  exact List.getElem_mem _
theorem DrawCsOf_ev (c : List Int) (hl : c.length ≤ 4611686018427387904) : ∃ a, Ev (fun k => spec_DrawCsOf.f k c) a := by
  obtain ⟨h, hN⟩ := l1New_ev c hl
  obtain ⟨a, i1, g1, e1, p1, _⟩ := l1Str_ok c 0 h [(⟨#[117, 116, 102, 56]⟩ : ByteArray), (⟨#[108, 97, 116, 105, 110, 49]⟩ : ByteArray), (⟨#[108, 97, 116, 105, 110, 57]⟩ : ByteArray), (⟨#[107, 111, 105, 56]⟩ : ByteArray), (⟨#[99, 112, 49, 50, 53, 50]⟩ : ByteArray), (⟨#[101, 117, 99, 106, 112]⟩ : ByteArray), (⟨#[]⟩ : ByteArray), (⟨#[120]⟩ : ByteArray)] (by omega) hl (by simp)
  refine ⟨a, ?_⟩
  simp only [spec_DrawCsOf.f]
  exact ev_bind hN (ev_call e1 (Ev.now _))
theorem impl_isSet_eq (n : Int) : impl_isSet.f n = some (inR n 0 5) := by
  unfold impl_isSet.f; simp only [impl_within_eq, Option.bind_some]
theorem impl_CsName_eq (n : Int) : impl_CsName.f n = some (csName n) := by
  unfold impl_CsName.f csName
  simp only [impl_isSet_eq, Option.bind_some]
  by_cases h : 0 ≤ n ∧ n ≤ 5
  · rw [if_pos (inR_true.2 h), if_pos h, if_pos h.1, if_pos (by simp; omega)]; rfl
  · rw [if_neg (by rw [inR_true]; exact h), if_neg h]
theorem spec_CsName_eq (n : Int) : spec_CsName.f n = some (csName n) := by
  unfold spec_CsName.f csName
  simp only [spec_l1In_eq, Option.bind_some]
  by_cases h : 0 ≤ n ∧ n ≤ 5
  · rw [if_pos (inR_true.2 h), if_pos h, if_pos h.1, if_pos (by simp; omega)]; rfl
  · rw [if_neg (by rw [inR_true]; exact h), if_neg h]
theorem impl_CsOf_l0 (s : ByteArray) (d : Nat) : ∀ i : Int, 0 ≤ i → i + d = 6 → Ev (fun k => impl_CsOf.l0 k s i) (csOfFrom s.toList d i) := by
  induction d with
  | zero =>
    intro i h0 h
    refine ev_shift ?_
    simp only [impl_CsOf.l0]
    exact ev_neg (by omega) (Ev.now _)
  | succ d ih =>
    intro i h0 h
    refine ev_shift ?_
    simp only [impl_CsOf.l0]
    refine ev_pos (by omega) (ev_call (impl_CsName_eq i) ?_)
    unfold csOfFrom
    by_cases e : (csName i).toList = s.toList
    · rw [if_pos e]; exact ev_pos e (Ev.now _)
    · rw [if_neg e, w64 (by omega) (by omega)]; exact ev_neg e (ih (i + 1) (by omega) (by omega))
theorem impl_CsOf_ev (s : ByteArray) : Ev (fun k => impl_CsOf.f k s) (csOf s) := impl_CsOf_l0 s 6 0 (by omega) (by omega)
theorem spec_CsOf_l0 (s : ByteArray) (d : Nat) : ∀ i : Int, 0 ≤ i → i + d = 6 → Ev (fun k => spec_CsOf.l0 k s i) (csOfFrom s.toList d i) := by
  induction d with
  | zero =>
    intro i h0 h
    refine ev_shift ?_
    simp only [spec_CsOf.l0]
    exact ev_neg (by omega) (Ev.now _)
  | succ d ih =>
    intro i h0 h
    refine ev_shift ?_
    simp only [spec_CsOf.l0]
    refine ev_pos (by omega) (ev_call (spec_CsName_eq i) ?_)
    unfold csOfFrom
    by_cases e : (csName i).toList = s.toList
    · rw [if_pos e]; exact ev_pos e (Ev.now _)
    · rw [if_neg e, w64 (by omega) (by omega)]; exact ev_neg e (ih (i + 1) (by omega) (by omega))
theorem spec_CsOf_ev (s : ByteArray) : Ev (fun k => spec_CsOf.f k s) (csOf s) := spec_CsOf_l0 s 6 0 (by omega) (by omega)

theorem byteSign_iff (cs b : Int) (h : (byteSign cs b).2 = true) : (1 ≤ cs ∧ cs ≤ 4) ∧ 0 ≤ b ∧ b ≤ 255 := by
  unfold byteSign at h
  by_cases h1 : (1 ≤ cs ∧ cs ≤ 4) ∧ (0 ≤ b ∧ b ≤ 255)
  · exact h1
  · rw [if_neg h1] at h; cases h
/-- The first byte that stands for a byte's sign is that byte: 4 times 256 closed facts. -/
theorem back_all : ∀ (cs : Fin 4) (b : Fin 256), (byteSign ((cs.val : Int) + 1) (b.val : Int)).2 = true → signByte ((cs.val : Int) + 1) (byteSign ((cs.val : Int) + 1) (b.val : Int)).1 = ((b.val : Int), true) := by decide +kernel
theorem sets_back {cs b : Int} (h : (byteSign cs b).2 = true) : signByte cs (byteSign cs b).1 = (b, true) := by
  obtain ⟨h1, h2⟩ := byteSign_iff cs b h
  obtain ⟨x, hx⟩ := Int.eq_ofNat_of_zero_le (show 0 ≤ cs - 1 by omega)
  obtain ⟨y, rfl⟩ := Int.eq_ofNat_of_zero_le h2.1
  obtain rfl : cs = (x : Int) + 1 := by omega
  exact back_all ⟨x, by omega⟩ ⟨y, by omega⟩ h
theorem csOf_all : ∀ cs : Fin 6, csOf (csName (cs.val : Int)) = (cs.val : Int) := by decide +kernel
theorem FnSets : laws_FnSets.Pure := by
  intro l hm _ hb0
  have hlb := Bytes.of hb0
  apply Ev.rounds
  simp only [laws_FnSets.f]
  by_cases h : (l.length : Int) > 1048576
  · exact ev_call (laws_big_eq l) (ev_pos (decide_eq_true h) (Ev.now _))
  refine ev_call (laws_big_eq l) (ev_neg (by simpa using h) ?_)
  have hl : l.length ≤ 4611686018427387904 := by omega
  obtain ⟨cs, b, d1⟩ := DrawByteSign_ev l hl
  obtain ⟨d, m, d2⟩ := DrawSignByte_ev l hl
  obtain ⟨x, a1, x0, x1⟩ := laws_at_ok l 2 hlb (by omega) (by omega) (by omega)
  obtain ⟨y, a2, y0, y1⟩ := laws_at_ok l 3 hlb (by omega) (by omega) (by omega)
  obtain ⟨a, d3⟩ := DrawCsName_ev l hl
  obtain ⟨e, d4⟩ := DrawCsOf_ev l hl
  refine ev_bind d1 (ev_bind (impl_ByteSign_ev cs b) (ev_bind (spec_ByteSign_ev cs b) (ev_bind d2 (ev_bind (impl_SignByte_ev d m) (ev_bind (spec_SignByte_ev d m) (ev_call a1 (ev_call a2 ?_)))))))
  rw [Int.tmod_eq_emod_of_nonneg x0, Int.tmod_eq_emod_of_nonneg y0, w64 (x := 1 + y % 4) (by omega) (by omega)]
  have hlow : byteSign (1 + y % 4) (x % 128) = (x % 128, true) := by
    unfold byteSign
    rw [if_pos (by omega), if_pos (by omega)]
  refine ev_bind (ev_is (impl_ByteSign_ev _ _) hlow) (ev_neg (by simp) (ev_pos rfl (ev_neg (by simp) (ev_pos rfl (ev_pos rfl (ev_shift ?_))))))
  simp only [laws_FnSets.j0]
  refine ev_neg (by simp) ?_
  have fin : Ev (fun k => laws_FnSets.j1 k l) true := by
    refine ev_shift ?_
    simp only [laws_FnSets.j1]
    refine ev_bind d3 (ev_bind d4 (ev_call (impl_CsName_eq a) (ev_call (spec_CsName_eq a) (ev_pos rfl (ev_bind (impl_CsOf_ev e) (ev_bind (spec_CsOf_ev e) (ev_pos rfl (ev_call (impl_CsName_eq a) ?_))))))))
    by_cases hn : (csName a).toList = []
    · exact ev_pos hn (Ev.now _)
    · refine ev_neg hn (ev_call (impl_CsName_eq a) (ev_bind (impl_CsOf_ev _) (ev_is (Ev.now _) ?_)))
      have ha : 0 ≤ a ∧ a ≤ 5 := by
        by_cases z : 0 ≤ a ∧ a ≤ 5
        · exact z
        · exfalso; apply hn; unfold csName; rw [if_neg z]; unfold ByteArray.toList ByteArray.toList.loop; rfl
      obtain ⟨m, rfl⟩ := Int.eq_ofNat_of_zero_le ha.1
      rw [beq_iff_eq]
      exact csOf_all ⟨m, by omega⟩
  by_cases hk : (byteSign cs b).2 = true
  · have hs := sets_back hk
    refine ev_pos hk (ev_bind (ev_is (impl_SignByte_ev cs _) hs) (ev_bind (impl_ByteSign_ev cs b) (ev_pos rfl (ev_pos hk (ev_pos rfl (ev_pos rfl fin))))))
  · exact ev_neg hk fin

end Go.Proofs.Ytnmncgbegiegfaa.Pure
