/- The law FnExactSignByte answers true at every two whole numbers of 64 bits: the program's SignByte tells what the reference's tells. -/
import Derived.Test.YtnmncgbegiegfaaQFnExactSignBytex2
import Derived.Test.YtnmncgbegiegfaaModel
import Derived.Test.YtnmncgbegiegfaaModelC
import Derived.Test.YtnmncgbegiegfaaModelU
namespace Go.Proofs.Ytnmncgbegiegfaa.Pure
open Go.RowKit Go.Proofs.Ytnmncgbegiegfaa.QFnExactSignByte Go.Proofs.YtnmncgbegiegfaaW.PrintWords Go.Proofs.YtnmncgbegiegfaaW.PrintLast Go.Proofs.Ytnmncgbegiegfaa.Ext Go.Proofs.Ytnmncgbegiegfaa.Base Go.Proofs.Ytnmncgbegiegfaa.Model

theorem spec_l1In_eq (a b c : Int) : spec_l1In.f a b c = some (inR a b c) := by
  unfold spec_l1In.f inR; by_cases h : a ≥ b <;> simp [h]
theorem spec_l3Nine_eq (b : Int) : spec_l3Nine.f b = some (nineM b) := by
  unfold spec_l3Nine.f nineM
  simp only [apply_ite some]
theorem spec_l3Koi_eq (b : Int) (h0 : 128 ≤ b) (h1 : b ≤ 255) : spec_l3Koi.f b = some (if koiM b = 0 then -1 else koiM b) :=
  high_of (P := fun b => spec_l3Koi.f b = some (if koiM b = 0 then -1 else koiM b)) (by decide +kernel) b h0 h1
theorem koi_pos (b : Int) (h0 : 128 ≤ b) (h1 : b ≤ 255) : 0 ≤ koiM b := high_of (P := fun b => 0 ≤ koiM b) (by decide +kernel) b h0 h1
theorem spec_l3Win_eq (b : Int) (h0 : 128 ≤ b) (h1 : b ≤ 255) : spec_l3Win.f b = some (if winM b = 0 then -1 else winM b) :=
  high_of (P := fun b => spec_l3Win.f b = some (if winM b = 0 then -1 else winM b)) (by decide +kernel) b h0 h1
theorem win_pos (b : Int) (h0 : 128 ≤ b) (h1 : b ≤ 255) : 0 ≤ winM b := high_of (P := fun b => 0 ≤ winM b) (by decide +kernel) b h0 h1
theorem nine_pos (b : Int) (h0 : 128 ≤ b) (h1 : b ≤ 255) : 1 ≤ nineM b := high_of (P := fun b => 1 ≤ nineM b) (by decide +kernel) b h0 h1
theorem spec_ByteSign_ev (cs b : Int) : Ev (fun k => spec_ByteSign.f k cs b) (byteSign cs b) := by
  unfold byteSign
  refine ev_shift (ev_same fun k => ?_)
  simp only [spec_ByteSign.f, spec_ByteSign.j0, spec_l1In_eq, Option.bind_some, inR_true]
  by_cases h1 : 1 ≤ cs ∧ cs ≤ 4
  · by_cases h2 : 0 ≤ b ∧ b ≤ 255
    · rw [if_pos h1, if_pos (c := (1 ≤ cs ∧ cs ≤ 4) ∧ (0 ≤ b ∧ b ≤ 255)) ⟨h1, h2⟩, inR_true.2 h2]
      simp only [Bool.not_true, Bool.false_eq_true, if_false]
      by_cases h3 : b ≤ 127
      · rw [if_neg (by omega), if_neg (by omega), if_pos h3]
      · rw [if_pos (by omega), if_neg h3]
        have hb0 : 128 ≤ b := by omega
        unfold highM
        by_cases c2 : cs = 2
        · have := nine_pos b hb0 h2.2
          rw [if_pos c2, if_pos c2, spec_l3Nine_eq]; simp only [Option.bind_some]
          rw [if_neg (by omega), if_neg (by omega)]
        · rw [if_neg c2, if_neg c2]
          by_cases c3 : cs = 3
          · have := koi_pos b hb0 h2.2
            rw [if_pos c3, if_pos c3, spec_l3Koi_eq b hb0 h2.2]; simp only [Option.bind_some]
            by_cases z : koiM b = 0
            · rw [if_pos z, if_pos z, if_pos (by decide)]
            · rw [if_neg z, if_neg z, if_neg (by omega)]
          · rw [if_neg c3, if_neg c3]
            by_cases c4 : cs = 4
            · have := win_pos b hb0 h2.2
              rw [if_pos c4, if_pos c4, spec_l3Win_eq b hb0 h2.2]; simp only [Option.bind_some]
              by_cases z : winM b = 0
              · rw [if_pos z, if_pos z, if_pos (by decide)]
              · rw [if_neg z, if_neg z, if_neg (by omega)]
            · rw [if_neg c4, if_neg c4, if_neg (by omega), if_neg (by omega)]
    · rw [if_pos h1, if_neg (c := (1 ≤ cs ∧ cs ≤ 4) ∧ (0 ≤ b ∧ b ≤ 255)) (fun z => h2 z.2), inR_false.2 h2]; rfl
  · rw [if_neg h1, if_neg (c := (1 ≤ cs ∧ cs ≤ 4) ∧ (0 ≤ b ∧ b ≤ 255)) (fun z => h1 z.1)]; rfl
theorem spec_SignByte_l0 (cs n : Int) (d : Nat) : ∀ b : Int, 0 ≤ b → b + d = 256 → Ev (fun k => spec_SignByte.l0 k cs n b) (signByteFrom cs n d b) := by
  induction d with
  | zero =>
    intro b h0 h
    refine ev_shift ?_
    simp only [spec_SignByte.l0]
    exact ev_neg (by omega) (Ev.now _)
  | succ d ih =>
    intro b h0 h
    refine ev_shift ?_
    simp only [spec_SignByte.l0]
    rw [w64 (x := b + 1) (by omega) (by omega)]
    refine ev_pos (by omega) (ev_bind (spec_ByteSign_ev cs b) ?_)
    unfold signByteFrom
    by_cases h1 : (byteSign cs b).2 = true
    · by_cases h2 : (byteSign cs b).1 = n
      · rw [if_pos ⟨h1, h2⟩]; exact ev_pos h1 (ev_pos h2 (Ev.now _))
      · rw [if_neg (fun z => h2 z.2)]; exact ev_pos h1 (ev_neg h2 (ih (b + 1) (by omega) (by omega)))
    · rw [if_neg (fun z => h1 z.1)]; exact ev_neg h1 (ih (b + 1) (by omega) (by omega))
theorem spec_SignByte_ev (cs n : Int) : Ev (fun k => spec_SignByte.f k cs n) (signByte cs n) := spec_SignByte_l0 cs n 256 0 (by omega) (by omega)
theorem impl_within_eq (a b c : Int) : impl_within.f a b c = some (inR a b c) := by
  unfold impl_within.f inR; by_cases h : a ≥ b <;> simp [h]
theorem impl_nineSign_eq (b : Int) : impl_nineSign.f b = some (nineM b) := by
  unfold impl_nineSign.f nineM
  simp only [apply_ite some]
theorem impl_koiSign_eq (b : Int) (h0 : 128 ≤ b) (h1 : b ≤ 255) : impl_koiSign.f b = some (koiM b) :=
  high_of (P := fun b => impl_koiSign.f b = some (koiM b)) (by decide +kernel) b h0 h1
theorem impl_winSign_eq (b : Int) (h0 : 128 ≤ b) (h1 : b ≤ 255) : impl_winSign.f b = some (winM b) :=
  high_of (P := fun b => impl_winSign.f b = some (winM b)) (by decide +kernel) b h0 h1
theorem impl_ByteSign_ev (cs b : Int) : Ev (fun k => impl_ByteSign.f k cs b) (byteSign cs b) := by
  unfold byteSign
  refine ev_shift (ev_same fun k => ?_)
  simp only [impl_ByteSign.f, impl_ByteSign.j0, impl_within_eq, Option.bind_some, inR_true]
  have fin : ∀ n : Int, (some (n, (n != 0)) : Option (Int × Bool)) = some (if n = 0 then (0, false) else (n, true)) := by
    intro n
    by_cases z : n = 0
    · rw [if_pos z, z]; rfl
    · rw [if_neg z, bne_iff_ne.2 z]
  by_cases h1 : 1 ≤ cs ∧ cs ≤ 4
  · by_cases h2 : 0 ≤ b ∧ b ≤ 255
    · rw [if_pos h1, if_pos (c := (1 ≤ cs ∧ cs ≤ 4) ∧ (0 ≤ b ∧ b ≤ 255)) ⟨h1, h2⟩, inR_true.2 h2]
      simp only [Bool.not_true, Bool.false_eq_true, if_false]
      by_cases h3 : b ≤ 127
      · rw [if_pos h3, if_pos h3]
      · rw [if_neg h3, if_neg h3]
        have hb0 : 128 ≤ b := by omega
        unfold highM
        by_cases c2 : cs = 2
        · rw [if_pos c2, if_pos c2, impl_nineSign_eq]; exact fin _
        · rw [if_neg c2, if_neg c2]
          by_cases c3 : cs = 3
          · rw [if_pos c3, if_pos c3, impl_koiSign_eq b hb0 h2.2]; exact fin _
          · rw [if_neg c3, if_neg c3]
            by_cases c4 : cs = 4
            · rw [if_pos c4, if_pos c4, impl_winSign_eq b hb0 h2.2]; exact fin _
            · rw [if_neg c4, if_neg c4]; exact fin _
    · rw [if_pos h1, if_neg (c := (1 ≤ cs ∧ cs ≤ 4) ∧ (0 ≤ b ∧ b ≤ 255)) (fun z => h2 z.2), inR_false.2 h2]; rfl
  · rw [if_neg h1, if_neg (c := (1 ≤ cs ∧ cs ≤ 4) ∧ (0 ≤ b ∧ b ≤ 255)) (fun z => h1 z.1)]; rfl
theorem impl_SignByte_l0 (cs n : Int) (d : Nat) : ∀ b : Int, 0 ≤ b → b + d = 256 → Ev (fun k => impl_SignByte.l0 k cs n b) (signByteFrom cs n d b) := by
  induction d with
  | zero =>
    intro b h0 h
    refine ev_shift ?_
    simp only [impl_SignByte.l0]
    exact ev_neg (by omega) (Ev.now _)
  | succ d ih =>
    intro b h0 h
    refine ev_shift ?_
    simp only [impl_SignByte.l0]
    rw [w64 (x := b + 1) (by omega) (by omega)]
    refine ev_pos (by omega) (ev_bind (impl_ByteSign_ev cs b) ?_)
    unfold signByteFrom
    by_cases h1 : (byteSign cs b).2 = true
    · by_cases h2 : (byteSign cs b).1 = n
      · rw [if_pos ⟨h1, h2⟩]; exact ev_pos h1 (ev_pos h2 (Ev.now _))
      · rw [if_neg (fun z => h2 z.2)]; exact ev_pos h1 (ev_neg h2 (ih (b + 1) (by omega) (by omega)))
    · rw [if_neg (fun z => h1 z.1)]; exact ev_neg h1 (ih (b + 1) (by omega) (by omega))
theorem impl_SignByte_ev (cs n : Int) : Ev (fun k => impl_SignByte.f k cs n) (signByte cs n) := impl_SignByte_l0 cs n 256 0 (by omega) (by omega)

theorem FnExactSignByte : laws_FnExactSignByte.Pure := by
  intro a b _ _
  apply Ev.rounds
  simp only [laws_FnExactSignByte.f]
  exact ev_bind (spec_SignByte_ev a b) (ev_bind (impl_SignByte_ev a b) (ev_pos rfl (ev_neg (by simp) (Ev.now _))))

end Go.Proofs.Ytnmncgbegiegfaa.Pure
