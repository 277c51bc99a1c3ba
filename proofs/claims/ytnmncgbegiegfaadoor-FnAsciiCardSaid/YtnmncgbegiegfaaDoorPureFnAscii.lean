/- The law FnAscii answers true at every code: bytes below 128 say themselves in every set. -/
import Derived.Test.YtnmncgbegiegfaaDoorQFnAsciix5
import Derived.Test.YtnmncgbegiegfaaDoorModel
import Derived.Test.YtnmncgbegiegfaaDoorModelA
import Derived.Test.YtnmncgbegiegfaaDoorModelC
import Derived.Test.YtnmncgbegiegfaaDoorModelD
import Derived.Test.YtnmncgbegiegfaaDoorModelE
import Derived.Test.YtnmncgbegiegfaaDoorModelS
import Derived.Test.YtnmncgbegiegfaaDoorModelT
import Derived.Test.YtnmncgbegiegfaaDoorModelU
namespace Go.Proofs.YtnmncgbegiegfaaDoor.Pure
open Go.RowKit Go.Proofs.YtnmncgbegiegfaaDoor.QFnAscii Go.Proofs.YtnmncgbegiegfaaDoorW.PrintWords Go.Proofs.YtnmncgbegiegfaaDoorW.PrintLast Go.Proofs.YtnmncgbegiegfaaDoor.Ext Go.Proofs.YtnmncgbegiegfaaDoor.Xw Go.Proofs.YtnmncgbegiegfaaDoor.Base Go.Proofs.YtnmncgbegiegfaaDoor.Model

theorem laws_big_eq (c : List Int) : laws_big.f c = some (decide ((c.length : Int) > 1048576)) := rfl
theorem impl_within_eq (a b c : Int) : impl_within.f a b c = some (inR a b c) := by
  unfold impl_within.f inR; by_cases h : a ≥ b <;> simp [h]
theorem impl_SignOk_eq (n : Int) : impl_SignOk.f n = some (signOk n) := by
  unfold impl_SignOk.f signOk
  simp only [impl_within_eq, Option.bind_some]
  cases inR n 0 1114111 <;> simp
theorem impl_joined_1 (a : List Int) (h : a.length < 140737488355328) : Ev (fun k => impl_joined.f k [a]) a := by
  refine ev_shift (ev_shift (ev_same fun k => ?_))
  simp only [impl_joined.f, impl_joined.l0]
  simp [rd_L1, wrap64, h]
theorem impl_joined_2 (a b : List Int) (h : a.length + b.length < 140737488355328) : Ev (fun k => impl_joined.f k [a, b]) (a ++ b) := by
  refine ev_shift (ev_shift (ev_shift (ev_same fun k => ?_)))
  have ha : a.length < 140737488355328 := by omega
  simp only [impl_joined.f, impl_joined.l0]
  simp [rd_L1, wrap64, h, ha]
theorem appendRune_j3 (k : Nat) (b : List Int) (n m : Int) (h : b.length + 4 < 140737488355328) (h0 : 0 ≤ n) (h1 : n ≤ 65535) : utf8_appendRuneNonASCII.j0 (k + 1) b n m true = some (b ++ [224 + n / 4096, 128 + n / 64 % 64, 128 + n % 64]) := by
  simp only [utf8_appendRuneNonASCII.j0, Option.bind_some, List.length_cons, List.length_nil]
  rw [if_pos trivial, if_pos (by omega), show n / 4096 % 256 = n / 4096 by omega, u8_or224 _ (by omega) (by omega)]
theorem appendRune_j4 (k : Nat) (b : List Int) (n m : Int) (h : b.length + 4 < 140737488355328) (h0 : 65536 ≤ n) (h1 : n ≤ 1114111) (hm : m = n) : utf8_appendRuneNonASCII.j0 (k + 1) b n m false = some (b ++ [240 + n / 262144, 128 + n / 4096 % 64, 128 + n / 64 % 64, 128 + n % 64]) := by
  subst hm
  simp only [utf8_appendRuneNonASCII.j0, Option.bind_some, List.length_cons, List.length_nil]
  rw [if_neg (by decide), if_pos (by omega), if_pos (by omega), if_pos (by omega), show m / 262144 % 256 = m / 262144 by omega, u8_or240 _ (by omega) (by omega)]
theorem appendRuneNonASCII_eq (k : Nat) (b : List Int) (n : Int) (h : b.length + 4 < 140737488355328) (h1 : signOk n = true) (h2 : 128 ≤ n) : utf8_appendRuneNonASCII.f (k + 1) b n = some (b ++ enc n) := by
  have hr := signOk_iff.1 h1
  have hm : n % 4294967296 = n := by omega
  unfold enc
  simp only [utf8_appendRuneNonASCII.f, Option.bind_some, hm, List.length_cons, List.length_nil]
  rw [if_neg (c := n ≤ 127) (by omega)]
  by_cases h3 : n ≤ 2047
  · rw [if_pos h3, if_pos h3, show n / 64 % 256 = n / 64 by omega, u8_or192 _ (by omega) (by omega), if_pos (by omega)]
  · rw [if_neg h3, if_neg h3]
    by_cases h4 : n ≤ 65535
    · rw [if_pos h4]
      by_cases h5 : n < 55296
      · rw [if_pos h5, decide_eq_true h5]; exact appendRune_j3 k b n n h (by omega) h4
      · rw [if_neg h5, if_pos (by omega), decide_eq_true h4]; exact appendRune_j3 k b n n h (by omega) h4
    · rw [if_neg h4, if_neg (by omega), if_pos (by omega), decide_eq_false h4]; exact appendRune_j4 k b n n h (by omega) (by omega) rfl
theorem AppendRune_eq (k : Nat) (b : List Int) (n : Int) (h : b.length + 4 < 140737488355328) (h1 : signOk n = true) : utf8_AppendRune.f (k + 1) b n = some (b ++ enc n) := by
  have hr := signOk_iff.1 h1
  simp only [utf8_AppendRune.f]
  by_cases h2 : n ≤ 127
  · rw [if_pos (by omega), if_pos (by omega), show n % 256 = n by omega]; unfold enc; rw [if_pos h2]
  · rw [if_neg (by omega), appendRuneNonASCII_eq k b n h h1 (by omega)]; rfl
theorem impl_PutSign_ev (b : List Int) (n : Int) (h : b.length + 4 < 140737488355328) : Ev (fun k => impl_PutSign.f k b n) (putSign b n) := by
  unfold putSign encOk
  simp only [impl_PutSign.f, impl_SignOk_eq]
  refine ev_bind (impl_joined_1 b (by omega)) ?_
  simp only [Option.bind_some]
  by_cases h1 : signOk n = true
  · have hr := signOk_iff.1 h1
    have e : wrap32 n = n := by unfold wrap32; omega
    rw [if_pos h1, e]
    exact ev_pos h1 (ev_bind (ev_shift (ev_same fun k => AppendRune_eq k b n h h1)) (Ev.now _))
  · rw [if_neg h1]
    exact ev_neg h1 (ev_is (Ev.now _) (by simp))
theorem impl_isSet_eq (n : Int) : impl_isSet.f n = some (inR n 0 5) := by
  unfold impl_isSet.f; simp only [impl_within_eq, Option.bind_some]
theorem decL_range (l : List Int) (hb : Bytes l) (hl : l ≠ []) : (decL l).1 ≤ 1114111 ∧ (decL l).2 ≤ 4 := by
  by_cases h : decL l = (65533, 1)
  · rw [h]; exact ⟨by decide, by decide⟩
  · obtain ⟨hs, _, hk⟩ := decL_sound l hb hl h
    have h1 := signOk_iff.1 hs
    have h2 := enc_length ((decL l).1 : Int)
    exact ⟨by omega, by omega⟩
theorem getSign_out {b : List Int} {p : Int} (h : ¬ (0 ≤ p ∧ p < b.length)) : getSign b p = (0, 0, false) := if_neg h
theorem getSign_none {b : List Int} {n : Nat} (h : n < b.length) (e : decL (b.drop n) = (65533, 1)) : getSign b (n : Int) = (0, 0, false) := by
  unfold getSign; rw [if_pos (by omega), Int.toNat_natCast, if_pos e]
theorem getSign_some {b : List Int} {n : Nat} (h : n < b.length) (e : decL (b.drop n) ≠ (65533, 1)) : getSign b (n : Int) = (((decL (b.drop n)).1 : Int), (n : Int) + ((decL (b.drop n)).2 : Int), true) := by
  unfold getSign; rw [if_pos (by omega), Int.toNat_natCast, if_neg e]
theorem impl_GetSign_ev (b : List Int) (p : Int) (hb : Bytes b) (hl : b.length ≤ 4611686018427387904) : Ev (fun k => impl_GetSign.f k b p) (getSign b p) := by
  simp only [impl_GetSign.f]
  by_cases h0 : p < 0
  · rw [getSign_out (by omega)]
    refine ev_pos h0 (ev_shift ?_)
    simp only [impl_GetSign.j0]
    exact ev_pos trivial (Ev.now _)
  · refine ev_neg h0 (ev_shift ?_)
    simp only [impl_GetSign.j0]
    by_cases h1 : p < b.length
    · obtain ⟨n, rfl⟩ := Int.eq_ofNat_of_zero_le (show 0 ≤ p by omega)
      rw [Int.toNat_natCast]
      have hne : b.drop n ≠ [] := by intro z; have := congrArg List.length z; simp at this; omega
      have hr := decL_range _ (hb.drop n) hne
      have hd : utf8_DecodeRune.f (b.drop n) = some (((decL (b.drop n)).1 : Int), ((decL (b.drop n)).2 : Int)) := by
        unfold utf8_DecodeRune.f; rw [if_neg hne, if_pos (bytesOk_iff.2 (hb.drop n))]
      refine ev_neg (by simp; omega) (ev_pos (by omega) (ev_pos (by omega) (ev_call hd ?_)))
      dsimp only
      rw [w64 (x := ((decL (b.drop n)).1 : Int)) (by omega) (by omega), w64 (x := (n : Int) + ((decL (b.drop n)).2 : Int)) (by omega) (by omega)]
      by_cases e : decL (b.drop n) = (65533, 1)
      · rw [getSign_none (by omega) e, e]; exact ev_pos (by decide) (ev_pos (by decide) (Ev.now _))
      · rw [getSign_some (by omega) e]
        by_cases e1 : ((decL (b.drop n)).1 : Int) = 65533
        · refine ev_pos e1 (ev_neg ?_ (Ev.now _))
          have h2 := decL_le (b.drop n) hne
          intro z
          exact e (Prod.ext (by simp only; omega) (by simp only; omega))
        · exact ev_neg e1 (Ev.now _)
    · rw [getSign_out (by omega)]
      exact ev_pos (by rw [decide_eq_true_eq]; omega) (Ev.now _)
theorem impl_PairSign_ev (a b : Int) : Ev (fun k => impl_PairSign.f k a b) (pairSign a b) := by
  refine ev_shift (ev_same fun k => ?_)
  simp only [impl_PairSign.f, impl_PairSign.j0, impl_within_eq, Option.bind_some, inR_true]
  unfold pairSign
  by_cases h : a = 164
  · by_cases h2 : 161 ≤ b ∧ b ≤ 243
    · rw [if_pos h, if_pos h2, if_pos ⟨h, h2.1, h2.2⟩, w64 (x := 12353 + b) (by omega) (by omega), w64 (by omega) (by omega)]
    · rw [if_pos h, if_neg h2, if_neg (c := a = 165) (by omega), if_neg (c := a = 164 ∧ 161 ≤ b ∧ b ≤ 243) (by omega), if_neg (c := a = 165 ∧ 161 ≤ b ∧ b ≤ 246) (by omega)]
  · rw [if_neg h, if_neg (by decide), if_neg (c := a = 164 ∧ 161 ≤ b ∧ b ≤ 243) (by omega)]
    by_cases h1 : a = 165
    · by_cases h2 : 161 ≤ b ∧ b ≤ 246
      · rw [if_pos h1, if_pos h2, if_pos ⟨h1, h2.1, h2.2⟩, w64 (x := 12449 + b) (by omega) (by omega), w64 (by omega) (by omega)]
      · rw [if_pos h1, if_neg h2, if_neg (c := a = 165 ∧ 161 ≤ b ∧ b ≤ 246) (by omega)]
    · rw [if_neg h1, if_neg (c := a = 165 ∧ 161 ≤ b ∧ b ≤ 246) (by omega)]
theorem impl_EucSign_ev (b : List Int) (p : Int) (hb : Bytes b) (hl : b.length ≤ 4611686018427387904) : Ev (fun k => impl_EucSign.f k b p) (eucSign b p) := by
  have r0 := hb.rd p
  have r1 := hb.rd (p + 1)
  have e2 : wrap64 (rd b p) = rd b p := w64 (by omega) (by omega)
  have e3 : wrap64 (rd b (p + 1)) = rd b (p + 1) := w64 (by omega) (by omega)
  unfold eucSign
  refine ev_shift ?_
  simp only [impl_EucSign.f, impl_EucSign.j0, e2]
  by_cases h : 0 ≤ p ∧ p < b.length
  · have e4 : wrap64 (p + 1) = p + 1 := w64 (by omega) (by omega)
    have e5 : wrap64 (p + 2) = p + 2 := w64 (by omega) (by omega)
    rw [if_pos h]
    simp only [e4, e5, e3]
    refine ev_neg (by omega) (ev_neg (by simp; omega) (ev_pos h.1 (ev_pos h.2 ?_)))
    by_cases h1 : rd b p ≤ 127
    · rw [if_pos h1]; exact ev_pos h1 (Ev.now _)
    · rw [if_neg h1]
      refine ev_neg h1 ?_
      by_cases h2 : p + 1 < b.length
      · refine ev_neg (by omega) (ev_pos (by omega) (ev_pos h2 ?_))
        refine ev_bind (impl_PairSign_ev (rd b p) (rd b (p + 1))) ?_
        by_cases h3 : (pairSign (rd b p) (rd b (p + 1))).2 = true
        · rw [if_pos (c := p + 1 < (b.length : Int) ∧ (pairSign (rd b p) (rd b (p + 1))).2 = true) ⟨h2, h3⟩]; exact ev_pos h3 (Ev.now _)
        · rw [if_neg (c := p + 1 < (b.length : Int) ∧ (pairSign (rd b p) (rd b (p + 1))).2 = true) (fun z => h3 z.2)]; exact ev_neg h3 (Ev.now _)
      · rw [if_neg (c := p + 1 < (b.length : Int) ∧ (pairSign (rd b p) (rd b (p + 1))).2 = true) (fun z => h2 z.1)]; exact ev_pos (by omega) (Ev.now _)
  · rw [if_neg h]
    by_cases h0 : p < 0
    · exact ev_pos h0 (ev_pos (by simp) (Ev.now _))
    · exact ev_neg h0 (ev_pos (by simp; omega) (Ev.now _))
theorem impl_nineSign_eq (b : Int) : impl_nineSign.f b = some (nineM b) := by
  unfold impl_nineSign.f nineM
  simp only [apply_ite some]
theorem impl_koiSign_eq (b : Int) (h0 : 128 ≤ b) (h1 : b ≤ 255) : impl_koiSign.f b = some (koiM b) :=
  high_of (P := fun b => impl_koiSign.f b = some (koiM b)) (by decide +kernel) b h0 h1
theorem impl_winSign_eq (b : Int) (h0 : 128 ≤ b) (h1 : b ≤ 255) : impl_winSign.f b = some (winM b) :=
  high_of (P := fun b => impl_winSign.f b = some (winM b)) (by decide +kernel) b h0 h1
theorem impl_ByteSign_ev (cs b : Int) : Ev (fun k => impl_ByteSign.f k cs b) (byteSign cs b) := by
  unfold byteSign
  refine ev_shift (ev_same fun k => ?_)
  simp only [impl_ByteSign.f, impl_ByteSign.j0, impl_within_eq, Option.bind_some, inR_true]
  have fin : ∀ n : Int, (some (n, (n != 0)) : Option (Int × Bool)) = some (if n = 0 then (0, false) else (n, true)) := by
    intro n
    by_cases z : n = 0
    · rw [if_pos z, z]; rfl
    · rw [if_neg z, bne_iff_ne.2 z]
  by_cases h1 : 1 ≤ cs ∧ cs ≤ 4
  · by_cases h2 : 0 ≤ b ∧ b ≤ 255
    · rw [if_pos h1, if_pos (c := (1 ≤ cs ∧ cs ≤ 4) ∧ (0 ≤ b ∧ b ≤ 255)) ⟨h1, h2⟩, inR_true.2 h2]
      simp only [Bool.not_true, Bool.false_eq_true, if_false]
      by_cases h3 : b ≤ 127
      · rw [if_pos h3, if_pos h3]
      · rw [if_neg h3, if_neg h3]
        have hb0 : 128 ≤ b := by omega
        unfold highM
        by_cases c2 : cs = 2
        · rw [if_pos c2, if_pos c2, impl_nineSign_eq]; exact fin _
        · rw [if_neg c2, if_neg c2]
          by_cases c3 : cs = 3
          · rw [if_pos c3, if_pos c3, impl_koiSign_eq b hb0 h2.2]; exact fin _
          · rw [if_neg c3, if_neg c3]
            by_cases c4 : cs = 4
            · rw [if_pos c4, if_pos c4, impl_winSign_eq b hb0 h2.2]; exact fin _
            · rw [if_neg c4, if_neg c4]; exact fin _
    · rw [if_pos h1, if_neg (c := (1 ≤ cs ∧ cs ≤ 4) ∧ (0 ≤ b ∧ b ≤ 255)) (fun z => h2 z.2), inR_false.2 h2]; rfl
  · rw [if_neg h1, if_neg (c := (1 ≤ cs ∧ cs ≤ 4) ∧ (0 ≤ b ∧ b ≤ 255)) (fun z => h1 z.1)]; rfl
theorem impl_signIn_ev (cs : Int) (b : List Int) (p : Nat) (hp : p < b.length) (hb : Bytes b) (hl : b.length ≤ 4611686018427387904) : Ev (fun k => impl_signIn.f k cs b (p : Int)) (signIn cs b (p : Int)) := by
  have hr := hb.rd (p : Int)
  simp only [impl_signIn.f]
  unfold signIn
  by_cases c0 : cs = 0
  · rw [if_pos c0]; exact ev_pos c0 (ev_bind (impl_GetSign_ev b p hb hl) (Ev.now _))
  · rw [if_neg c0]
    by_cases c5 : cs = 5
    · rw [if_pos c5]; exact ev_neg c0 (ev_pos c5 (ev_bind (impl_EucSign_ev b p hb hl) (Ev.now _)))
    · rw [if_neg c5, w64 (x := rd b (p : Int)) (by omega) (by omega)]
      refine ev_neg c0 (ev_neg c5 (ev_pos (by omega) (ev_pos (by omega) (ev_bind (impl_ByteSign_ev cs (rd b (p : Int))) ?_))))
      rw [w64 (x := (p : Int) + 1) (by omega) (by omega)]
      exact Ev.now _
theorem impl_Decode_l0 (cs : Int) (b : List Int) (hb : Bytes b) (hl : b.length ≤ 1048576) (d : Nat) : ∀ (p : Nat) (out : List Int), b.length ≤ p + d → p ≤ b.length → out.length ≤ 4 * p →
    Ev (fun k => impl_Decode.l0 k cs b out (p : Int)) (match readAll (codeGet cs) (b.drop p) with | some ns => (strOfNums (out ++ ns.flatMap encOk), true) | none => (⟨#[]⟩, false)) := by
  induction d with
  | zero =>
    intro p out h0 h1 h2
    refine ev_shift ?_
    simp only [impl_Decode.l0]
    rw [List.drop_of_length_le (by omega), readAll_nil]
    exact ev_neg (by omega) (ev_is (Ev.now _) (by simp))
  | succ d ih =>
    intro p out h0 h1 h2
    refine ev_shift ?_
    simp only [impl_Decode.l0]
    by_cases hp : p < b.length
    · refine ev_pos (by omega) (ev_bind (impl_signIn_ev cs b p hp hb (by omega)) ?_)
      rw [readAll_cons (code_reads cs) (drop_ne hp)]
      rcases signIn_at cs b p hp with ⟨n, k, e1, e2⟩ | ⟨e1, e2⟩
      · have hk := (code_reads cs).pos (drop_ne hp) e1
        rw [List.length_drop] at hk
        have hen := encOk_length n
        rw [e1, e2]
        refine ev_pos rfl (ev_bind (impl_PutSign_ev out n (by omega)) (ev_is (ih (p + k) (putSign out n) (by omega) (by omega) (by unfold putSign; rw [List.length_append]; omega)) ?_))
        simp only [List.drop_drop, putSign]
        cases readAll (codeGet cs) (b.drop (p + k)) with
        | none => rfl
        | some ns => simp
      · rw [e1]; exact ev_neg (by rw [e2]; simp) (Ev.now _)
    · rw [List.drop_of_length_le (by omega), readAll_nil]
      exact ev_neg (by omega) (ev_is (Ev.now _) (by simp))
theorem impl_Decode_ev (cs : Int) (b : List Int) (hb : Bytes b) (hl : b.length ≤ 1048576) : Ev (fun k => impl_Decode.f k cs b) (decodeAll cs b) := by
  simp only [impl_Decode.f, impl_isSet_eq, Option.bind_some]
  unfold decodeAll
  by_cases h : inR cs 0 5 = true
  · rw [if_pos h]
    refine ev_pos h (ev_is (impl_Decode_l0 cs b hb hl b.length 0 [] (by omega) (by omega) (by simp)) ?_)
    rw [List.drop_zero]
    cases readAll (codeGet cs) b <;> rfl
  · rw [if_neg h]; exact ev_neg h (Ev.now _)
theorem laws_at_ok (c : List Int) (j : Int) (hb : Bytes c) (h0 : 0 ≤ j) (h1 : j ≤ 1000) (hl : c.length ≤ 1048576) : ∃ x, laws_at.f c j = some x ∧ 0 ≤ x ∧ x ≤ 255 := by
  unfold laws_at.f
  have hr := hb.rd j
  by_cases h : j < (c.length : Int)
  · rw [if_pos h, if_pos h0, w64 (by omega) (by omega)]; exact ⟨_, rfl, hr.1, hr.2⟩
  · rw [if_neg h, w64 (x := j * 31) (by omega) (by omega), w64 (x := (c.length : Int) * 7) (by omega) (by omega), w64 (by omega) (by omega), Int.tmod_eq_emod_of_nonneg (by omega)]
    exact ⟨_, rfl, by omega, by omega⟩
theorem runes_read (s : ByteArray) : ∀ (l : List Int) (p : Nat), p ≤ s.size → l = (numsOf s).drop p → ∀ ns, readAll utfGet l = some ns → runesFrom s s.size p = ns := by
  have hn := numsOf_length s
  refine read_induct utf_codes.toReads ?_ ?_ ?_
  · intro p hp h ns h2
    rw [readAll_nil] at h2
    obtain rfl := Option.some.inj h2
    have := congrArg List.length h
    rw [List.length_drop, hn, List.length_nil] at this
    exact runes_end s s.size p (by omega)
  · intro l hl hg _ p _ _ ns h2
    rw [readAll_cons utf_codes.toReads hl, hg] at h2; cases h2
  · intro l n k hl hg ih p hp h ns h2
    have h3 := hg
    rw [readAll_cons utf_codes.toReads hl, hg] at h2
    simp only at h2
    obtain ⟨ms, hm, rfl⟩ := Option.map_eq_some_iff.1 h2
    obtain ⟨k1, k2⟩ := utf_codes.toReads.pos hl hg
    have hlen := congrArg List.length h
    rw [List.length_drop, hn] at hlen
    have hps : p < s.size := by omega
    by_cases he : decL l = (65533, 1)
    · rw [utfGet_none hl he] at hg; cases hg
    · rw [utfGet_some hl he] at hg
      injection hg with hg; injection hg with g1 g2
      have hr := (decL_sound l (by rw [h]; exact (numsOf_bytes s).drop p) hl he).1
      have hr2 := signOk_iff.1 hr
      rw [runes_step s p hps, decode_nums s p, ← h, g2, w64 (by omega) (by omega), g1]
      congr 1
      exact ih (p + k) (by omega) (by rw [h, List.drop_drop]) ms hm
theorem impl_Signs_eq (s : ByteArray) (h : s.size ≤ 1099511627776) : impl_Signs.f s = some (signs (numsOf s)) := by
  unfold impl_Signs.f
  rw [if_pos h, valid_read]
  cases hr : readAll utfGet (numsOf s) with
  | none => rw [signs_none hr]; rfl
  | some ns =>
    rw [signs_some hr, runes_read s _ 0 (by omega) (List.drop_zero).symm ns hr]; rfl
theorem impl_SignPair_eq (n : Int) : impl_SignPair.f n = some (signPair n) := by
  unfold impl_SignPair.f signPair
  simp only [impl_within_eq, Option.bind_some, inR_true]
  by_cases h : 12353 ≤ n ∧ n ≤ 12435
  · rw [if_pos h, if_pos h, w64 (x := n - 12353) (by omega) (by omega), w64 (by omega) (by omega)]
  · rw [if_neg h, if_neg h]
    by_cases h2 : 12449 ≤ n ∧ n ≤ 12534
    · rw [if_pos h2, if_pos h2, w64 (x := n - 12449) (by omega) (by omega), w64 (by omega) (by omega)]
    · rw [if_neg h2, if_neg h2]
theorem impl_PutEuc_ev (b : List Int) (n : Int) (h : b.length + 2 < 140737488355328) : Ev (fun k => impl_PutEuc.f k b n) (b ++ (eucOf n).1, (eucOf n).2) := by
  unfold eucOf
  simp only [impl_PutEuc.f, Option.bind_some, impl_within_eq, impl_SignPair_eq, inR_true]
  by_cases h1 : 0 ≤ n ∧ n ≤ 127
  · rw [if_pos h1, show n % 256 = n by omega]
    exact ev_pos h1 (ev_bind (impl_joined_2 b [n] (by simp; omega)) (Ev.now _))
  · rw [if_neg h1]
    refine ev_neg h1 ?_
    have e : (signPair n).1 % 256 = (signPair n).1 ∧ (signPair n).2.1 % 256 = (signPair n).2.1 := signPair_mod n
    rw [e.1, e.2]
    by_cases h2 : (signPair n).2.2 = true
    · rw [if_pos h2]; exact ev_pos h2 (ev_bind (impl_joined_2 b _ (by simp; omega)) (Ev.now _))
    · rw [if_neg h2]; exact ev_neg h2 (ev_bind (impl_joined_1 b (by omega)) (ev_is (Ev.now _) (by simp)))
theorem impl_SignByte_l0 (cs n : Int) (d : Nat) : ∀ b : Int, 0 ≤ b → b + d = 256 → Ev (fun k => impl_SignByte.l0 k cs n b) (signByteFrom cs n d b) := by
  induction d with
  | zero =>
    intro b h0 h
    refine ev_shift ?_
    simp only [impl_SignByte.l0]
    exact ev_neg (by omega) (Ev.now _)
  | succ d ih =>
    intro b h0 h
    refine ev_shift ?_
    simp only [impl_SignByte.l0]
    rw [w64 (x := b + 1) (by omega) (by omega)]
    refine ev_pos (by omega) (ev_bind (impl_ByteSign_ev cs b) ?_)
    unfold signByteFrom
    by_cases h1 : (byteSign cs b).2 = true
    · by_cases h2 : (byteSign cs b).1 = n
      · rw [if_pos ⟨h1, h2⟩]; exact ev_pos h1 (ev_pos h2 (Ev.now _))
      · rw [if_neg (fun z => h2 z.2)]; exact ev_pos h1 (ev_neg h2 (ih (b + 1) (by omega) (by omega)))
    · rw [if_neg (fun z => h1 z.1)]; exact ev_neg h1 (ih (b + 1) (by omega) (by omega))
theorem impl_SignByte_ev (cs n : Int) : Ev (fun k => impl_SignByte.f k cs n) (signByte cs n) := impl_SignByte_l0 cs n 256 0 (by omega) (by omega)
theorem impl_putIn_ev (cs : Int) (b : List Int) (n : Int) (h : b.length + 8 < 140737488355328) (hn : signOk n = true) : Ev (fun k => impl_putIn.f k cs b n) (putIn cs b n) := by
  simp only [impl_putIn.f]
  by_cases c0 : cs = 0
  · subst c0
    refine ev_pos rfl (ev_bind (impl_PutSign_ev b n (by omega)) (ev_is (Ev.now _) ?_))
    unfold putSign encOk
    rw [putIn_utf hn, if_pos hn]
  · by_cases c5 : cs = 5
    · subst c5
      rw [putIn_euc]
      exact ev_neg c0 (ev_pos rfl (ev_bind (impl_PutEuc_ev b n (by omega)) (Ev.now _)))
    · refine ev_neg c0 (ev_neg c5 (ev_bind (impl_SignByte_ev cs n) ?_))
      by_cases hs : (signByte cs n).2 = true
      · rw [putIn_byte c0 c5 hs]
        exact ev_pos hs (ev_pos (by omega) (Ev.now _))
      · rw [putIn_byte_no c0 c5 hs]
        exact ev_neg hs (Ev.now _)
theorem impl_Encode_l0 (cs : Int) (ns : List Int) (hs : ∀ n ∈ ns, signOk n = true) (hl : ns.length ≤ 1048576) (d : Nat) : ∀ (i : Nat) (out : List Int), i + d = ns.length → out.length ≤ 4 * i →
    Ev (fun k => impl_Encode.l0 k cs out ns (ns.length : Int) (i : Int)) (match writeAll (codePut cs) (ns.drop i) with | some b => (out ++ b, true) | none => ([], false)) := by
  induction d with
  | zero =>
    intro i out h0 h1
    refine ev_shift ?_
    simp only [impl_Encode.l0]
    rw [List.drop_of_length_le (by omega)]
    exact ev_neg (by omega) (ev_is (Ev.now _) (by simp [writeAll]))
  | succ d ih =>
    intro i out h0 h1
    have hi : i < ns.length := by omega
    refine ev_shift ?_
    simp only [impl_Encode.l0, next_nat i (by omega)]
    rw [drop_cons_at ns i hi]
    refine ev_pos (by omega) (ev_pos (by omega) (ev_pos (by omega) (ev_bind (impl_putIn_ev cs out (rd ns (i : Int)) (by omega) (hs _ (rd_mem ns i hi))) ?_)))
    unfold writeAll putIn
    cases hx : codePut cs (rd ns (i : Int)) with
    | none => exact ev_neg (by simp) (Ev.now _)
    | some x =>
      have hxl := codePut_length hx
      refine ev_pos rfl (ev_is (ih (i + 1) (out ++ x) (by omega) (by rw [List.length_append]; omega)) ?_)
      simp only
      cases writeAll (codePut cs) (ns.drop (i + 1)) with
      | none => rfl
      | some b => simp
theorem impl_Encode_ev (cs : Int) (s : ByteArray) (h : s.size ≤ 1048576) : Ev (fun k => impl_Encode.f k cs s) (encodeAll cs s) := by
  have hn := numsOf_length s
  simp only [impl_Encode.f]
  refine ev_call (impl_Signs_eq s (by omega)) (ev_call (impl_isSet_eq cs) ?_)
  unfold encodeAll
  by_cases hc : inR cs 0 5 = true
  · rw [if_pos hc]
    refine ev_pos hc (ev_shift ?_)
    simp only [impl_Encode.j0]
    cases hr : readAll utfGet (numsOf s) with
    | none => rw [signs_none hr]; exact ev_pos (by simp) (Ev.now _)
    | some ns =>
      have h1 := readN_length utf_codes.toReads _ _ hr
      rw [signs_some hr]
      refine ev_neg (by simp) (ev_is (impl_Encode_l0 cs ns (utf_range (numsOf_bytes s) hr) (by omega) ns.length 0 [] (by omega) (by simp)) ?_)
      rw [List.drop_zero]
      show _ = (match writeAll (codePut cs) ns with | some b => (b, true) | none => ([], false))
      cases writeAll (codePut cs) ns <;> rfl
  · rw [if_neg hc]
    refine ev_neg hc (ev_shift ?_)
    simp only [impl_Encode.j0]
    exact ev_pos trivial (Ev.now _)
theorem impl_DecodeLossy_l0 (cs : Int) (b : List Int) (hb : Bytes b) (hl : b.length ≤ 1048576) (d : Nat) : ∀ (p : Nat) (out : List Int) (c : Nat), b.length ≤ p + d → p ≤ b.length → out.length ≤ 4 * p → c ≤ p →
    Ev (fun k => impl_DecodeLossy.l0 k cs b out (c : Int) (p : Int)) (strOfNums (out ++ (lossyAll (codeGet cs) (b.drop p)).1.flatMap encOk), ((c + (lossyAll (codeGet cs) (b.drop p)).2 : Nat) : Int)) := by
  induction d with
  | zero =>
    intro p out c h0 h1 h2 h3
    refine ev_shift ?_
    simp only [impl_DecodeLossy.l0]
    rw [List.drop_of_length_le (by omega), lossyAll_nil]
    exact ev_neg (by omega) (ev_is (Ev.now _) (by simp))
  | succ d ih =>
    intro p out c h0 h1 h2 h3
    refine ev_shift ?_
    simp only [impl_DecodeLossy.l0]
    by_cases hp : p < b.length
    · refine ev_pos (by omega) (ev_bind (impl_signIn_ev cs b p hp hb (by omega)) ?_)
      rw [lossyAll_cons (code_reads cs) (drop_ne hp)]
      rcases signIn_at cs b p hp with ⟨n, k, e1, e2⟩ | ⟨e1, e2⟩
      · have hk := (code_reads cs).pos (drop_ne hp) e1
        rw [List.length_drop] at hk
        have hen := encOk_length n
        rw [e1, e2]
        refine ev_pos rfl (ev_bind (impl_PutSign_ev out n (by omega)) (ev_is (ih (p + k) (putSign out n) c (by omega) (by omega) (by unfold putSign; rw [List.length_append]; omega) (by omega)) ?_))
        simp only [List.drop_drop, putSign, List.flatMap_cons, List.append_assoc]
      · have hen := encOk_length 65533
        rw [e1, next_nat c (by omega), next_nat p (by omega)]
        refine ev_neg (by rw [e2]; simp) (ev_bind (impl_PutSign_ev out 65533 (by omega)) (ev_is (ih (p + 1) (putSign out 65533) (c + 1) (by omega) (by omega) (by unfold putSign; rw [List.length_append]; omega) (by omega)) ?_))
        simp only [List.drop_drop, putSign, List.flatMap_cons, List.append_assoc]
        rw [show c + 1 + (lossyAll (codeGet cs) (b.drop (p + 1))).2 = c + ((lossyAll (codeGet cs) (b.drop (p + 1))).2 + 1) by omega]
    · rw [List.drop_of_length_le (by omega), lossyAll_nil]
      exact ev_neg (by omega) (ev_is (Ev.now _) (by simp))
theorem impl_DecodeLossy_ev (cs : Int) (b : List Int) (hb : Bytes b) (hl : b.length ≤ 1048576) : Ev (fun k => impl_DecodeLossy.f k cs b) (decodeLossy cs b) := by
  simp only [impl_DecodeLossy.f, impl_isSet_eq, Option.bind_some]
  unfold decodeLossy
  by_cases h : inR cs 0 5 = true
  · rw [if_pos h]
    refine ev_pos h (ev_is (impl_DecodeLossy_l0 cs b hb hl b.length 0 [] 0 (by omega) (by omega) (by simp) (by omega)) ?_)
    rw [List.drop_zero, List.nil_append, Nat.zero_add]
  · rw [if_neg h]; exact ev_neg h (Ev.now _)
theorem impl_Fits_ev (cs : Int) (s : ByteArray) (h : s.size ≤ 1048576) : Ev (fun k => impl_Fits.f k cs s) (encodeAll cs s).2 := by
  simp only [impl_Fits.f]
  exact ev_bind (impl_Encode_ev cs s h) (Ev.now _)
theorem impl_Weight_j2 (k : Nat) (n : Int) (b : Bool) : impl_Weight.j2 (k + 1) n b = some (if b = true then 0 else if n < 32 ∨ (127 ≤ n ∧ n ≤ 159) then -5 else 0) := by
  simp only [impl_Weight.j2, impl_within_eq, Option.bind_some, inR_true]
  cases b
  · by_cases h : n < 32
    · simp [h]
    · by_cases h2 : 127 ≤ n ∧ n ≤ 159 <;> simp [h, h2]
  · simp
theorem impl_Weight_j1 (k : Nat) (n : Int) (b : Bool) : impl_Weight.j1 (k + 2) n b = some (if b = true then 2 else if n = 9 ∨ n = 10 ∨ n = 13 then 0 else if n < 32 ∨ (127 ≤ n ∧ n ≤ 159) then -5 else 0) := by
  rw [impl_Weight.j1]
  simp only [impl_Weight_j2]
  cases b
  · by_cases h : n = 9
    · simp [h]
    · by_cases h2 : n = 10
      · simp [h2]
      · by_cases h3 : n = 13 <;> simp [h, h2, h3]
  · simp
theorem impl_Weight_j0 (k : Nat) (n : Int) (b : Bool) : impl_Weight.j0 (k + 3) n b = some (if b = true then 3 else if (65 ≤ n ∧ n ≤ 90) ∨ (192 ≤ n ∧ n ≤ 591) ∨ (1024 ≤ n ∧ n ≤ 1119) ∨ (12353 ≤ n ∧ n ≤ 12543) then 2
  else if n = 9 ∨ n = 10 ∨ n = 13 then 0
  else if n < 32 ∨ (127 ≤ n ∧ n ≤ 159) then -5 else 0) := by
  rw [impl_Weight.j0]
  simp only [impl_Weight_j1, impl_within_eq, Option.bind_some, inR_true]
  cases b
  · by_cases h : 65 ≤ n ∧ n ≤ 90
    · simp [h]
    · by_cases h2 : 192 ≤ n ∧ n ≤ 591
      · simp [h, h2]
      · by_cases h3 : 1024 ≤ n ∧ n ≤ 1119
        · simp [h, h2, h3]
        · simp only [if_neg h, if_neg h2, if_neg h3]
          by_cases h4 : 12353 ≤ n ∧ n ≤ 12543 <;> simp [h, h2, h3, h4]
  · simp
theorem impl_Weight_ev (n : Int) : Ev (fun k => impl_Weight.f k n) (weight n) := by
  refine ev_shift (ev_shift (ev_shift (ev_same fun k => ?_)))
  simp only [impl_Weight.f, impl_Weight_j0, impl_within_eq, Option.bind_some]
  unfold weight
  by_cases h : n = 32
  · simp [h]
  · by_cases h2 : inR n 97 122 = true
    · have := inR_true.1 h2; simp [h, h2, this]
    · have g2 := h2; rw [inR_true] at g2
      simp only [if_neg h, if_neg h2]
      cases h3 : inR n 48 57
      · rw [inR_false] at h3
        rw [if_neg (by simp), if_neg (c := n = 32 ∨ (97 ≤ n ∧ n ≤ 122) ∨ (48 ≤ n ∧ n ≤ 57)) (by omega)]
      · rw [inR_true] at h3
        rw [if_pos rfl, if_pos (c := n = 32 ∨ (97 ≤ n ∧ n ≤ 122) ∨ (48 ≤ n ∧ n ≤ 57)) (by omega)]
theorem impl_Score_l0 (ns : List Int) (hl : ns.length ≤ 4611686018427387904) (d : Nat) : ∀ (i : Nat) (x : Int), i + d = ns.length → Ev (fun k => impl_Score.l0 k x ns (ns.length : Int) (i : Int)) (sumW x (ns.drop i), true) := by
  induction d with
  | zero =>
    intro i x h
    refine ev_shift ?_
    simp only [impl_Score.l0]
    rw [List.drop_of_length_le (by omega)]
    exact ev_neg (by omega) (Ev.now _)
  | succ d ih =>
    intro i x h
    have hi : i < ns.length := by omega
    refine ev_shift ?_
    simp only [impl_Score.l0, next_nat i (by omega)]
    rw [drop_cons_at ns i hi]
    exact ev_pos (by omega) (ev_pos (by omega) (ev_pos (by omega) (ev_bind (impl_Weight_ev (rd ns (i : Int))) (ih (i + 1) _ (by omega)))))
theorem impl_Score_ev (cs : Int) (b : List Int) (hb : Bytes b) (hl : b.length ≤ 1048576) : Ev (fun k => impl_Score.f k cs b) (score cs b) := by
  have hz := decodeAll_size cs b
  have hn := signs_length (numsOf (decodeAll cs b).1)
  rw [numsOf_length] at hn
  simp only [impl_Score.f]
  refine ev_bind (impl_Decode_ev cs b hb hl) ?_
  unfold score
  by_cases h : (decodeAll cs b).2 = true
  · rw [if_pos h]
    refine ev_pos h (ev_call (impl_Signs_eq _ (by omega)) (ev_is (impl_Score_l0 _ (by omega) _ 0 0 (Nat.zero_add _)) ?_))
    rw [List.drop_zero]
  · rw [if_neg h]; exact ev_neg h (Ev.now _)
theorem impl_Detect_l0 (b : List Int) (hb : Bytes b) (hl : b.length ≤ 1048576) (d : Nat) : ∀ (cs at' best : Int), 0 ≤ cs → cs + d = 6 → Ev (fun k => impl_Detect.l0 k b at' best cs) (detFrom b d cs at' best, detFrom b d cs at' best != 0) := by
  induction d with
  | zero =>
    intro cs at' best h0 h
    refine ev_shift ?_
    simp only [impl_Detect.l0]
    exact ev_neg (by omega) (Ev.now _)
  | succ d ih =>
    intro cs at' best h0 h
    refine ev_shift ?_
    simp only [impl_Detect.l0, w64 (x := cs + 1) (by omega) (by omega)]
    refine ev_pos (by omega) (ev_bind (impl_Score_ev cs b hb hl) ?_)
    unfold detFrom
    by_cases h1 : (score cs b).2 = true
    · refine ev_pos h1 ?_
      by_cases h2 : at' = 0
      · rw [if_pos ⟨h1, .inl h2⟩]; exact ev_pos h2 (ih (cs + 1) cs _ (by omega) (by omega))
      · refine ev_neg h2 ?_
        by_cases h3 : (score cs b).1 > best
        · rw [if_pos ⟨h1, .inr h3⟩]; exact ev_pos h3 (ih (cs + 1) cs _ (by omega) (by omega))
        · rw [if_neg (by rintro ⟨_, z | z⟩; exact h2 z; exact h3 z)]; exact ev_neg h3 (ih (cs + 1) _ _ (by omega) (by omega))
    · rw [if_neg (fun z => h1 z.1)]; exact ev_neg h1 (ih (cs + 1) _ _ (by omega) (by omega))
theorem impl_Detect_j0 (b : List Int) (hb : Bytes b) (hl : b.length ≤ 1048576) (h0 : ¬ (decodeAll 0 b).2 = true) (x : Bool) (hx : x = bom b) : Ev (fun k => impl_Detect.j0 k b x) (detect b) := by
  refine ev_shift ?_
  simp only [impl_Detect.j0]
  unfold detect
  subst hx
  by_cases h : bom b = true
  · rw [if_pos (.inr h)]; exact ev_pos h (Ev.now _)
  · rw [if_neg (by rintro (z | z); exact h0 z; exact h z)]; exact ev_neg h (impl_Detect_l0 b hb hl 5 1 0 0 (by omega) (by omega))
theorem impl_Detect_ev (b : List Int) (hb : Bytes b) (hl : b.length ≤ 1048576) : Ev (fun k => impl_Detect.f k b) (detect b) := by
  simp only [impl_Detect.f]
  refine ev_bind (impl_Decode_ev 0 b hb hl) ?_
  by_cases h0 : (decodeAll 0 b).2 = true
  · have e : detect b = (0, true) := by unfold detect; rw [if_pos (.inl h0)]
    rw [e]
    refine ev_pos h0 (ev_shift ?_)
    simp only [impl_Detect.j0]
    exact ev_pos trivial (Ev.now _)
  · refine ev_neg h0 ?_
    by_cases h1 : (b.length : Int) ≥ 3
    · refine ev_pos h1 (ev_pos (by omega) ?_)
      by_cases h2 : rd b 0 = 239
      · refine ev_pos h2 (ev_pos (by omega) ?_)
        by_cases h3 : rd b 1 = 187
        · exact ev_pos h3 (ev_pos (by omega) (impl_Detect_j0 b hb hl h0 _ (by unfold bom; rw [decide_eq_true (by omega), h2, h3]; rfl)))
        · exact ev_neg h3 (impl_Detect_j0 b hb hl h0 _ (by unfold bom; rw [beq_eq_false_iff_ne.2 h3]; simp))
      · exact ev_neg h2 (impl_Detect_j0 b hb hl h0 _ (by unfold bom; rw [beq_eq_false_iff_ne.2 h2]; simp))
    · exact ev_neg h1 (impl_Detect_j0 b hb hl h0 _ (by unfold bom; rw [decide_eq_false (by omega)]; simp))

theorem FnAscii_l1 (b : List Int) (h : Asc b) (hl : b.length ≤ 1000) (d : Nat) : ∀ cs : Int, 0 ≤ cs → cs + d = 6 → Ev (fun k => laws_FnAscii.l1 k b cs) true := by
  have hb := h.bytes
  have hsz : (strOfNums b).size = b.length := strOfNums_size b
  induction d with
  | zero =>
    intro cs h0 h1
    refine ev_shift ?_
    simp only [laws_FnAscii.l1]
    refine ev_neg (by omega) (ev_bind (impl_Detect_ev b hb (by omega)) ?_)
    rw [asc_detect h]
    exact ev_pos rfl (Ev.now _)
  | succ d ih =>
    intro cs h0 h1
    have hc : 0 ≤ cs ∧ cs ≤ 5 := by omega
    refine ev_shift ?_
    simp only [laws_FnAscii.l1, w64 (x := cs + 1) (by omega) (by omega)]
    refine ev_pos (by omega) (ev_bind (impl_Decode_ev cs b hb (by omega)) (ev_bind (impl_Encode_ev cs (strOfNums b) (by omega)) (ev_bind (impl_DecodeLossy_ev cs b hb (by omega)) ?_)))
    rw [asc_decode hc h, asc_encode hc h, asc_lossy hc h]
    refine ev_pos rfl (ev_pos rfl (ev_pos rfl (ev_pos rfl (ev_pos rfl (ev_pos rfl (ev_bind (impl_Fits_ev cs (strOfNums b) (by omega)) ?_))))))
    rw [asc_encode hc h]
    exact ev_pos rfl (ih (cs + 1) (by omega) (by omega))
theorem FnAscii_l0 (l : List Int) (hb : Bytes l) (hl : l.length ≤ 1048576) (d : Nat) : ∀ (i : Nat) (b : List Int), i + d = 8 → Asc b → b.length ≤ i → Ev (fun k => laws_FnAscii.l0 k l b (i : Int)) true := by
  obtain ⟨x, e1, x0, x1⟩ := laws_at_ok l 2 hb (by omega) (by omega) hl
  induction d with
  | zero =>
    intro i b h1 h2 h3
    refine ev_shift ?_
    simp only [laws_FnAscii.l0]
    refine ev_call e1 ?_
    rw [Int.tmod_eq_emod_of_nonneg x0]
    exact ev_neg (by omega) (FnAscii_l1 b h2 (by omega) 6 0 (by omega) (by omega))
  | succ d ih =>
    intro i b h1 h2 h3
    refine ev_shift ?_
    simp only [laws_FnAscii.l0, next_nat i (by omega), w64 (x := (i : Int) + 3) (by omega) (by omega)]
    refine ev_call e1 ?_
    rw [Int.tmod_eq_emod_of_nonneg x0]
    by_cases h4 : (i : Int) < x % 8
    · obtain ⟨y, e2, y0, y1⟩ := laws_at_ok l ((i : Int) + 3) hb (by omega) (by omega) hl
      refine ev_pos h4 (ev_call e2 ?_)
      rw [Int.tmod_eq_emod_of_nonneg y0]
      refine ev_pos (by omega) (ih (i + 1) _ (by omega) ?_ (by rw [List.length_append]; show b.length + 1 ≤ _; omega))
      intro z hz
      rcases List.mem_append.1 hz with hz | hz
      · exact h2 z hz
      · have := List.mem_singleton.1 hz; omega
    · exact ev_neg h4 (FnAscii_l1 b h2 (by omega) 6 0 (by omega) (by omega))
theorem FnAscii : laws_FnAscii.Pure := by
  intro l _ _ hb0
  have hb := Bytes.of hb0
  apply Ev.rounds
  simp only [laws_FnAscii.f]
  by_cases h : (l.length : Int) > 1048576
  · exact ev_call (laws_big_eq l) (ev_pos (decide_eq_true h) (Ev.now _))
  · exact ev_call (laws_big_eq l) (ev_neg (by simpa using h) (FnAscii_l0 l hb (by omega) 8 0 [] rfl (fun x hx => by cases hx) (by simp)))

end Go.Proofs.YtnmncgbegiegfaaDoor.Pure
