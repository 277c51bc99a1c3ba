/- The law FnSigns answers true at every code: signs come back of their bytes, and bytes that are read of their signs; a sign's bytes cut are none. -/
import Derived.Test.YtnmncgbegiegfaaDoorQFnSignsx6
import Derived.Test.YtnmncgbegiegfaaDoorModel
import Derived.Test.YtnmncgbegiegfaaDoorModelA
import Derived.Test.YtnmncgbegiegfaaDoorModelC
import Derived.Test.YtnmncgbegiegfaaDoorModelD
import Derived.Test.YtnmncgbegiegfaaDoorModelE
import Derived.Test.YtnmncgbegiegfaaDoorModelF
import Derived.Test.YtnmncgbegiegfaaDoorModelG
import Derived.Test.YtnmncgbegiegfaaDoorModelH
import Derived.Test.YtnmncgbegiegfaaDoorModelS
import Derived.Test.YtnmncgbegiegfaaDoorModelT
import Derived.Test.YtnmncgbegiegfaaDoorModelU
namespace Go.Proofs.YtnmncgbegiegfaaDoor.Pure
open Go.RowKit Go.Proofs.YtnmncgbegiegfaaDoor.QFnSigns Go.Proofs.YtnmncgbegiegfaaDoorW.PrintWords Go.Proofs.YtnmncgbegiegfaaDoorW.PrintLast Go.Proofs.YtnmncgbegiegfaaDoor.Ext Go.Proofs.YtnmncgbegiegfaaDoor.Xw Go.Proofs.YtnmncgbegiegfaaDoor.Base Go.Proofs.YtnmncgbegiegfaaDoor.Model

theorem laws_big_eq (c : List Int) : laws_big.f c = some (decide ((c.length : Int) > 1048576)) := rfl
theorem l1New_l0 (c : List Int) (_hl : c.length ≤ 4611686018427387904) (d : Nat) : ∀ (i : Nat) (h : Int), i + d = c.length → ∃ h', Ev (fun k => spec_l1New.l0 k c h (i : Int)) (c, 0, h') := by
  induction d with
  | zero =>
    intro i h hi
    refine ⟨h, ev_shift ?_⟩
    simp only [spec_l1New.l0]
    exact ev_neg (by omega) (Ev.now _)
  | succ d ih =>
    intro i h hi
    by_cases h4 : (i : Int) < 4000
    · obtain ⟨h', e⟩ := ih (i + 1) (Go.bits .and .i64 (wrap64 ((wrap64 ((wrap64 (h * 137)) + (wrap64 (rd c (i : Int))))) + 11)) 1073741823) (by omega)
      refine ⟨h', ev_shift ?_⟩
      simp only [spec_l1New.l0, next_nat i (by omega)]
      exact ev_pos (by omega) (ev_pos h4 (ev_pos (by omega) e))
    · refine ⟨h, ev_shift ?_⟩
      simp only [spec_l1New.l0]
      exact ev_pos (by omega) (ev_neg h4 (Ev.now _))
theorem l1New_ev (c : List Int) (hl : c.length ≤ 4611686018427387904) : ∃ h, Ev (fun k => spec_l1New.f k c) (c, 0, h) := l1New_l0 c hl c.length 0 _ (by omega)
theorem l1Byte_ok (c : List Int) (i h : Int) (hi : 0 ≤ i) (hl : c.length ≤ 4611686018427387904) : ∃ x i' h', spec_l1Byte.f c i h = some (x, i', h') ∧ 0 ≤ i' ∧ 0 ≤ x ∧ x ≤ 255 := by
  unfold spec_l1Byte.f
  by_cases h1 : i < (c.length : Int)
  · rw [if_pos h1, if_pos hi, and_255, w64 (x := i + 1) (by omega) (by omega)]
    exact ⟨_, _, _, rfl, by omega, by omega, by omega⟩
  · rw [if_neg h1, and_255]
    exact ⟨_, _, _, rfl, hi, by omega, by omega⟩
theorem l1Bytes_l0 (c : List Int) (hl : c.length ≤ 4611686018427387904) (n : Int) (hn : n ≤ 1099511627776) (d : Nat) : ∀ (j : Int) (out : List Int) (i h : Int), 0 ≤ j → j + d = n → (out.length : Int) = j → Bytes out → 0 ≤ i →
    ∃ l i' h', Ev (fun k => spec_l1Bytes.l0 k n out j c i h) (l, i', h') ∧ 0 ≤ i' ∧ Bytes l ∧ (l.length : Int) = n := by
  induction d with
  | zero =>
    intro j out i h h0 hj ho hb hi
    refine ⟨out, i, h, ev_shift ?_, hi, hb, by omega⟩
    simp only [spec_l1Bytes.l0]
    exact ev_neg (by omega) (Ev.now _)
  | succ d ih =>
    intro j out i h h0 hj ho hb hi
    obtain ⟨x, i1, g1, e1, p1, q1, r1⟩ := l1Byte_ok c i h hi hl
    obtain ⟨l, i2, g2, e2, p2, q2, r2⟩ := ih (j + 1) (out ++ [x % 256]) i1 g1 (by omega) (by omega) (by simp; omega) (hb.append (.cons (by omega) (by omega) .nil)) p1
    refine ⟨l, i2, g2, ev_shift ?_, p2, q2, r2⟩
    simp only [spec_l1Bytes.l0]
    rw [w64 (x := j + 1) (by omega) (by omega)]
    exact ev_pos (by omega) (ev_call e1 (ev_pos (by omega) e2))
theorem l1Bytes_ev (c : List Int) (i h n : Int) (hi : 0 ≤ i) (hl : c.length ≤ 4611686018427387904) (h0 : 0 ≤ n) (hn : n ≤ 1099511627776) :
    ∃ l i' h', Ev (fun k => spec_l1Bytes.f k c i h n) (l, i', h') ∧ 0 ≤ i' ∧ Bytes l ∧ (l.length : Int) = n := l1Bytes_l0 c hl n hn n.toNat 0 [] i h (by omega) (by omega) rfl Bytes.nil hi
theorem l1Below_ok (c : List Int) (i h n : Int) (hi : 0 ≤ i) (hl : c.length ≤ 4611686018427387904) : ∃ x i' h', spec_l1Below.f c i h n = some (x, i', h') ∧ 0 ≤ i' ∧ 0 ≤ x ∧ (n ≤ 0 → x = 0) ∧ (0 < n → x < n) := by
  unfold spec_l1Below.f
  by_cases h1 : n ≤ 0
  · rw [if_pos h1]; exact ⟨0, i, h, rfl, hi, by omega, fun _ => rfl, fun z => by omega⟩
  · rw [if_neg h1]
    obtain ⟨x, i1, g1, e1, p1, q1, r1⟩ := l1Byte_ok c i h hi hl
    rw [e1]; simp only [Option.bind_some]
    by_cases h2 : n ≤ 256
    · rw [if_pos h2, if_neg (by omega), Int.tmod_eq_emod_of_nonneg q1]
      exact ⟨_, _, _, rfl, p1, Int.emod_nonneg _ (by omega), fun z => absurd z h1, fun z => Int.emod_lt_of_pos _ z⟩
    · rw [if_neg h2]
      obtain ⟨y, i2, g2, e2, p2, q2, r2⟩ := l1Byte_ok c i1 g1 p1 hl
      rw [e2]; simp only [Option.bind_some]
      obtain ⟨z, i3, g3, e3, p3, q3, r3⟩ := l1Byte_ok c i2 g2 p2 hl
      rw [e3]; simp only [Option.bind_some]
      rw [if_neg (by omega), w64 (x := x * 65536) (by omega) (by omega), w64 (x := y * 256) (by omega) (by omega), w64 (x := x * 65536 + y * 256) (by omega) (by omega), w64 (x := x * 65536 + y * 256 + z) (by omega) (by omega), Int.tmod_eq_emod_of_nonneg (by omega)]
      exact ⟨_, _, _, rfl, p3, Int.emod_nonneg _ (by omega), fun z => absurd z h1, fun z => Int.emod_lt_of_pos _ z⟩
theorem l1Once_ok (c : List Int) (i h n : Int) (hi : 0 ≤ i) (hl : c.length ≤ 4611686018427387904) : ∃ x i' h', spec_l1Once.f c i h n = some (x, i', h') ∧ 0 ≤ i' := by
  unfold spec_l1Once.f
  obtain ⟨x, i1, g1, e1, p1, _⟩ := l1Below_ok c i h n hi hl
  rw [e1]; exact ⟨_, _, _, rfl, p1⟩
theorem l1Int_ok (c : List Int) (i h : Int) (l : List Int) (hi : 0 ≤ i) (hl : c.length ≤ 4611686018427387904) (hn : l ≠ []) : ∃ x i' h', spec_l1Int.f c i h l = some (x, i', h') ∧ 0 ≤ i' ∧ x ∈ l := by
  have h1 : 0 < l.length := List.length_pos_iff.2 hn
  unfold spec_l1Int.f
  obtain ⟨x, i1, g1, e1, p1, q1, _, r1⟩ := l1Below_ok c i h l.length hi hl
  have r2 := r1 (by omega)
  rw [e1]; simp only [Option.bind_some]
  rw [if_pos q1, if_pos r2]
  obtain ⟨m, rfl⟩ := Int.eq_ofNat_of_zero_le q1
  rw [rd_lt l m (by omega)]
  exact ⟨_, _, _, rfl, p1, List.getElem_mem _⟩
theorem l2Sign_ok (c : List Int) (i h : Int) (hi : 0 ≤ i) (hl : c.length ≤ 4611686018427387904) : ∃ x i' h', spec_l2Sign.f c i h = some (x, i', h') ∧ 0 ≤ i' ∧ x ∈ ([0, 97, 90, 127, 128, 164, 233, 2047, 2048, 8364, 1072, 1102, 1025, 12354, 12450, 352, 65535, 65536, 1114111] : List Int) := by
  unfold spec_l2Sign.f
  obtain ⟨x, i1, g1, e1, p1, q1⟩ := l1Int_ok c i h [0, 97, 90, 127, 128, 164, 233, 2047, 2048, 8364, 1072, 1102, 1025, 12354, 12450, 352, 65535, 65536, 1114111] hi hl (by simp)
  rw [e1]; exact ⟨_, _, _, rfl, p1, q1⟩
theorem l2Any_ok (c : List Int) (i h : Int) (hi : 0 ≤ i) (hl : c.length ≤ 4611686018427387904) : ∃ x i' h', spec_l2Any.f c i h = some (x, i', h') ∧ 0 ≤ i' := by
  unfold spec_l2Any.f
  obtain ⟨x, i1, g1, e1, p1⟩ := l1Once_ok c i h 5 hi hl
  rw [e1]; simp only [Option.bind_some]
  cases x with
  | true =>
    rw [if_pos rfl]
    obtain ⟨y, i2, g2, e2, p2, _⟩ := l1Int_ok c i1 g1 [(-1), 55296, 57343, 55295, 57344, 1114112, 9223372036854775807] p1 hl (by simp)
    rw [e2]; exact ⟨_, _, _, rfl, p2⟩
  | false =>
    rw [if_neg (by decide)]
    obtain ⟨y, i2, g2, e2, p2, _⟩ := l2Sign_ok c i1 g1 p1 hl
    rw [e2]; exact ⟨_, _, _, rfl, p2⟩
theorem DrawPutSign_ev (c : List Int) (hl : c.length ≤ 4611686018427387904) : ∃ b n, Ev (fun k => spec_DrawPutSign.f k c) (b, n) ∧ Bytes b ∧ b.length ≤ 1000 := by
  obtain ⟨h, hN⟩ := l1New_ev c hl
  obtain ⟨x, i1, g1, e1, p1, q1, _, r1⟩ := l1Below_ok c 0 h 4 (by omega) hl
  have r2 := r1 (by omega)
  obtain ⟨b, i2, g2, e2, p2, q2, r2⟩ := l1Bytes_ev c i1 g1 x p1 hl q1 (by omega)
  obtain ⟨n, i3, g3, e3, p3⟩ := l2Any_ok c i2 g2 p2 hl
  refine ⟨b, n, ?_, q2, by omega⟩
  simp only [spec_DrawPutSign.f]
  exact ev_bind hN (ev_call e1 (ev_bind e2 (ev_call e3 (Ev.now _))))
theorem impl_within_eq (a b c : Int) : impl_within.f a b c = some (inR a b c) := by
  unfold impl_within.f inR; by_cases h : a ≥ b <;> simp [h]
theorem impl_SignOk_eq (n : Int) : impl_SignOk.f n = some (signOk n) := by
  unfold impl_SignOk.f signOk
  simp only [impl_within_eq, Option.bind_some]
  cases inR n 0 1114111 <;> simp
theorem impl_joined_1 (a : List Int) (h : a.length < 140737488355328) : Ev (fun k => impl_joined.f k [a]) a := by
  refine ev_shift (ev_shift (ev_same fun k => ?_))
  simp only [impl_joined.f, impl_joined.l0]
  simp [rd_L2, wrap64, h]
theorem impl_joined_2 (a b : List Int) (h : a.length + b.length < 140737488355328) : Ev (fun k => impl_joined.f k [a, b]) (a ++ b) := by
  refine ev_shift (ev_shift (ev_shift (ev_same fun k => ?_)))
  have ha : a.length < 140737488355328 := by omega
  simp only [impl_joined.f, impl_joined.l0]
  simp [rd_L2, wrap64, h, ha]
theorem appendRune_j3 (k : Nat) (b : List Int) (n m : Int) (h : b.length + 4 < 140737488355328) (h0 : 0 ≤ n) (h1 : n ≤ 65535) : utf8_appendRuneNonASCII.j0 (k + 1) b n m true = some (b ++ [224 + n / 4096, 128 + n / 64 % 64, 128 + n % 64]) := by
  simp only [utf8_appendRuneNonASCII.j0, Option.bind_some, List.length_cons, List.length_nil]
  rw [if_pos trivial, if_pos (by omega), show n / 4096 % 256 = n / 4096 by omega, u8_or224 _ (by omega) (by omega)]
theorem appendRune_j4 (k : Nat) (b : List Int) (n m : Int) (h : b.length + 4 < 140737488355328) (h0 : 65536 ≤ n) (h1 : n ≤ 1114111) (hm : m = n) : utf8_appendRuneNonASCII.j0 (k + 1) b n m false = some (b ++ [240 + n / 262144, 128 + n / 4096 % 64, 128 + n / 64 % 64, 128 + n % 64]) := by
  subst hm
  simp only [utf8_appendRuneNonASCII.j0, Option.bind_some, List.length_cons, List.length_nil]
  rw [if_neg (by decide), if_pos (by omega), if_pos (by omega), if_pos (by omega), show m / 262144 % 256 = m / 262144 by omega, u8_or240 _ (by omega) (by omega)]
theorem appendRuneNonASCII_eq (k : Nat) (b : List Int) (n : Int) (h : b.length + 4 < 140737488355328) (h1 : signOk n = true) (h2 : 128 ≤ n) : utf8_appendRuneNonASCII.f (k + 1) b n = some (b ++ enc n) := by
  have hr := signOk_iff.1 h1
  have hm : n % 4294967296 = n := by omega
  unfold enc
  simp only [utf8_appendRuneNonASCII.f, Option.bind_some, hm, List.length_cons, List.length_nil]
  rw [if_neg (c := n ≤ 127) (by omega)]
  by_cases h3 : n ≤ 2047
  · rw [if_pos h3, if_pos h3, show n / 64 % 256 = n / 64 by omega, u8_or192 _ (by omega) (by omega), if_pos (by omega)]
  · rw [if_neg h3, if_neg h3]
    by_cases h4 : n ≤ 65535
    · rw [if_pos h4]
      by_cases h5 : n < 55296
      · rw [if_pos h5, decide_eq_true h5]; exact appendRune_j3 k b n n h (by omega) h4
      · rw [if_neg h5, if_pos (by omega), decide_eq_true h4]; exact appendRune_j3 k b n n h (by omega) h4
    · rw [if_neg h4, if_neg (by omega), if_pos (by omega), decide_eq_false h4]; exact appendRune_j4 k b n n h (by omega) (by omega) rfl
theorem AppendRune_eq (k : Nat) (b : List Int) (n : Int) (h : b.length + 4 < 140737488355328) (h1 : signOk n = true) : utf8_AppendRune.f (k + 1) b n = some (b ++ enc n) := by
  have hr := signOk_iff.1 h1
  simp only [utf8_AppendRune.f]
  by_cases h2 : n ≤ 127
  · rw [if_pos (by omega), if_pos (by omega), show n % 256 = n by omega]; unfold enc; rw [if_pos h2]
  · rw [if_neg (by omega), appendRuneNonASCII_eq k b n h h1 (by omega)]; rfl
theorem impl_PutSign_ev (b : List Int) (n : Int) (h : b.length + 4 < 140737488355328) : Ev (fun k => impl_PutSign.f k b n) (putSign b n) := by
  unfold putSign encOk
  simp only [impl_PutSign.f, impl_SignOk_eq]
  refine ev_bind (impl_joined_1 b (by omega)) ?_
  simp only [Option.bind_some]
  by_cases h1 : signOk n = true
  · have hr := signOk_iff.1 h1
    have e : wrap32 n = n := by unfold wrap32; omega
    rw [if_pos h1, e]
    exact ev_pos h1 (ev_bind (ev_shift (ev_same fun k => AppendRune_eq k b n h h1)) (Ev.now _))
  · rw [if_neg h1]
    exact ev_neg h1 (ev_is (Ev.now _) (by simp))
theorem spec_l1In_eq (a b c : Int) : spec_l1In.f a b c = some (inR a b c) := by
  unfold spec_l1In.f inR; by_cases h : a ≥ b <;> simp [h]
theorem spec_SignOk_eq (n : Int) : spec_SignOk.f n = some (signOk n) := by
  unfold spec_SignOk.f signOk
  simp only [spec_l1In_eq, Option.bind_some]
  cases inR n 0 1114111 <;> simp
theorem spec_PutSign_eq (b : List Int) (n : Int) (h : b.length + 4 < 140737488355328) : spec_PutSign.f b n = some (putSign b n) := by
  have hb : b.length < 140737488355328 := by omega
  unfold spec_PutSign.f putSign encOk
  simp only [Option.bind_some, List.length_nil, Nat.zero_add, List.nil_append, if_pos hb, spec_SignOk_eq]
  by_cases h1 : signOk n = true
  · have hr := signOk_iff.1 h1
    rw [if_pos h1, if_pos h1]
    unfold enc
    simp only [and_63, List.length_cons, List.length_nil]
    by_cases h2 : n ≤ 127
    · rw [if_pos h2, if_pos h2, show n % 256 = n by omega]
    · by_cases h3 : n ≤ 2047
      · rw [if_neg h2, if_pos h3, if_neg h2, if_pos h3, or_192 (by omega) (by omega), or_128 (by omega) (by omega), if_pos (by omega), show (192 + n / 64) % 256 = 192 + n / 64 by omega, show (128 + n % 64) % 256 = 128 + n % 64 by omega]
      · by_cases h4 : n ≤ 65535
        · rw [if_neg h2, if_neg h3, if_pos h4, if_neg h2, if_neg h3, if_pos h4, or_224 (by omega) (by omega), or_128 (by omega) (by omega), or_128 (by omega) (by omega), if_pos (by omega), show (224 + n / 4096) % 256 = 224 + n / 4096 by omega, show (128 + n / 64 % 64) % 256 = 128 + n / 64 % 64 by omega, show (128 + n % 64) % 256 = 128 + n % 64 by omega]
        · rw [if_neg h2, if_neg h3, if_neg h4, if_neg h2, if_neg h3, if_neg h4, or_240 (by omega) (by omega), or_128 (by omega) (by omega), or_128 (by omega) (by omega), or_128 (by omega) (by omega), if_pos (by omega), show (240 + n / 262144) % 256 = 240 + n / 262144 by omega, show (128 + n / 4096 % 64) % 256 = 128 + n / 4096 % 64 by omega, show (128 + n / 64 % 64) % 256 = 128 + n / 64 % 64 by omega, show (128 + n % 64) % 256 = 128 + n % 64 by omega]
  · rw [if_neg h1, if_neg h1]; simp
theorem l2Text_l0 (c : List Int) (hl : c.length ≤ 4611686018427387904) (d : Nat) : ∀ (out : List Int) (i h : Int), 0 ≤ i → d ≤ 1000 → out.length + 4 * d ≤ 8000 →
    ∃ s i' h', Ev (fun k => spec_l2Text.l0 k out (d : Int) c i h) (s, i', h') ∧ 0 ≤ i' ∧ s.size ≤ out.length + 4 * d := by
  induction d with
  | zero =>
    intro out i h hi _ _
    refine ⟨strOfNums out, i, h, ev_shift ?_, hi, by rw [strOfNums_size]; omega⟩
    simp only [spec_l2Text.l0]
    exact ev_neg (by omega) (Ev.now _)
  | succ d ih =>
    intro out i h hi hd ho
    obtain ⟨x, i1, g1, e1, p1, _⟩ := l2Sign_ok c i h hi hl
    have hx := encOk_length x
    have hp : (putSign out x).length ≤ out.length + 4 := by unfold putSign; rw [List.length_append]; omega
    obtain ⟨s, i2, g2, e2, p2, z2⟩ := ih (putSign out x) i1 g1 p1 (by omega) (by omega)
    refine ⟨s, i2, g2, ev_shift ?_, p2, by omega⟩
    simp only [spec_l2Text.l0]
    have ew : wrap64 (((d + 1 : Nat) : Int) - 1) = (d : Int) := by rw [w64 (by omega) (by omega)]; omega
    rw [ew]
    exact ev_pos (by omega) (ev_call e1 (ev_call (spec_PutSign_eq out x (by omega)) e2))
theorem l2Text_ev (c : List Int) (i h m : Int) (hi : 0 ≤ i) (hl : c.length ≤ 4611686018427387904) (h0 : 0 ≤ m) (hm : m ≤ 100) : ∃ s i' h', Ev (fun k => spec_l2Text.f k c i h m) (s, i', h') ∧ 0 ≤ i' ∧ s.size ≤ 1000 := by
  obtain ⟨x, i1, g1, e1, p1, q1, _, r1⟩ := l1Below_ok c i h (m + 1) hi hl
  have r1' := r1 (by omega)
  obtain ⟨d, hd⟩ := Int.eq_ofNat_of_zero_le q1
  subst hd
  obtain ⟨s, i2, g2, e2, p2, z2⟩ := l2Text_l0 c hl d [] i1 g1 p1 (by omega) (by simp; omega)
  refine ⟨s, i2, g2, ?_, p2, by simp at z2; omega⟩
  simp only [spec_l2Text.f]
  rw [w64 (x := m + 1) (by omega) (by omega)]
  exact ev_call e1 e2
theorem l1Str_ok (c : List Int) (i h : Int) (l : List ByteArray) (hi : 0 ≤ i) (hl : c.length ≤ 4611686018427387904) (hn : l ≠ []) : ∃ x i' h', spec_l1Str.f c i h l = some (x, i', h') ∧ 0 ≤ i' ∧ x ∈ l := by
  have h1 : 0 < l.length := List.length_pos_iff.2 hn
  unfold spec_l1Str.f
  obtain ⟨x, i1, g1, e1, p1, q1, _, r1⟩ := l1Below_ok c i h l.length hi hl
  have r2 := r1 (by omega)
  rw [e1]; simp only [Option.bind_some]
  rw [if_pos q1, if_pos r2]
  obtain ⟨m, rfl⟩ := Int.eq_ofNat_of_zero_le q1
  have hm : m < l.length := by omega
  refine ⟨_, _, _, rfl, p1, ?_⟩
  rw [rdOf, Int.toNat_natCast, List.getD_eq_getElem?_getD, List.getElem?_eq_getElem hm]
  exact List.getElem_mem _
theorem u8_xor_range (a b : Int) : 0 ≤ Go.bits .xor .u8 a b ∧ Go.bits .xor .u8 a b ≤ 255 := by
  have h : ∀ n : Int, 0 ≤ IntKind.u8.wrap n ∧ IntKind.u8.wrap n ≤ 255 := fun n => by rw [IntKind.wrap_u8]; omega
  exact h _
theorem Bytes_set {l : List Int} (hb : Bytes l) (j : Nat) (x : Int) (h0 : 0 ≤ x) (h1 : x ≤ 255) : Bytes (l.set j x) := fun y hy => by
  rcases List.mem_or_eq_of_mem_set hy with h | h
  · exact hb y h
  · subst h; exact ⟨h0, h1⟩
theorem l1Bend_ok (c : List Int) (i h : Int) (l : List Int) (hi : 0 ≤ i) (hl : c.length ≤ 4611686018427387904) (hb : Bytes l) (hll : l.length < 140737488355328) :
    ∃ x i' h', spec_l1Bend.f c i h l = some (x, i', h') ∧ 0 ≤ i' ∧ Bytes x ∧ x.length ≤ l.length := by
  unfold spec_l1Bend.f
  simp only [Option.bind_some, List.length_nil, Nat.zero_add, List.nil_append, if_pos hll]
  obtain ⟨x, i1, g1, e1, p1, q1, _⟩ := l1Below_ok c i h 5 hi hl
  rw [e1]; simp only [Option.bind_some]
  by_cases h0 : x = 0
  · rw [if_pos h0, w64 (x := (l.length : Int) + 1) (by omega) (by omega)]
    obtain ⟨y, i2, g2, e2, p2, q2, _, r2⟩ := l1Below_ok c i1 g1 ((l.length : Int) + 1) p1 hl
    have := r2 (by omega)
    rw [e2]; simp only [Option.bind_some]
    rw [if_pos q2, if_pos (by omega)]
    exact ⟨_, _, _, rfl, p2, hb.take _, by rw [List.length_take]; omega⟩
  · rw [if_neg h0]
    by_cases h1 : x = 1
    · rw [if_pos h1]
      by_cases h2 : (l.length : Int) > 0
      · rw [if_pos h2]
        obtain ⟨y, i2, g2, e2, p2, q2, _, r2⟩ := l1Below_ok c i1 g1 (l.length : Int) p1 hl
        have := r2 (by omega)
        rw [e2]; simp only [Option.bind_some]
        rw [if_pos q2, if_pos (by omega)]
        obtain ⟨z, i3, g3, e3, p3, q3, _⟩ := l1Below_ok c i2 g2 255 p2 hl
        rw [e3]; simp only [Option.bind_some]
        have hx := u8_xor_range (rd l y) (wrap64 (1 + z) % 256)
        exact ⟨_, _, _, rfl, p3, Bytes_set hb _ _ hx.1 hx.2, by rw [List.length_set]; exact Nat.le_refl _⟩
      · rw [if_neg h2]; exact ⟨_, _, _, rfl, p1, hb, Nat.le_refl _⟩
    · rw [if_neg h1]; exact ⟨_, _, _, rfl, p1, hb, Nat.le_refl _⟩
theorem l2Bent_ev (c : List Int) (i h : Int) (hi : 0 ≤ i) (hl : c.length ≤ 4611686018427387904) : ∃ s i' h', Ev (fun k => spec_l2Bent.f k c i h) (s, i', h') ∧ 0 ≤ i' ∧ s.size ≤ 2000 := by
  obtain ⟨s, i1, g1, e1, p1, z1⟩ := l2Text_ev c i h 6 hi hl (by omega) (by omega)
  obtain ⟨x, i2, g2, e2, p2, q2, _⟩ := l1Below_ok c i1 g1 5 p1 hl
  simp only [spec_l2Bent.f]
  by_cases x0 : x = 0
  · obtain ⟨y, i3, g3, e3, p3, m3⟩ := l1Str_ok c i2 g2 [(⟨#[255]⟩ : ByteArray), ⟨#[192, 128]⟩, ⟨#[224, 128, 128]⟩, ⟨#[237, 160, 128]⟩, ⟨#[244, 144, 128, 128]⟩, ⟨#[194]⟩, ⟨#[226, 130]⟩, ⟨#[128]⟩] p2 hl (by simp)
    have hall : ∀ y ∈ [(⟨#[255]⟩ : ByteArray), ⟨#[192, 128]⟩, ⟨#[224, 128, 128]⟩, ⟨#[237, 160, 128]⟩, ⟨#[244, 144, 128, 128]⟩, ⟨#[194]⟩, ⟨#[226, 130]⟩, ⟨#[128]⟩], y.size ≤ 60 := by decide
    have hy := hall y m3
    refine ⟨s ++ y, i3, g3, ev_bind e1 (ev_call e2 (ev_pos x0 (ev_call e3 (ev_pos (by dsimp only; omega) (Ev.now _))))), p3, ?_⟩
    rw [ByteArray.size_append]; omega
  · by_cases x1 : x = 1
    · have hn := numsOf_length s
      obtain ⟨y, i3, g3, e3, p3, q3, r3⟩ := l1Bend_ok c i2 g2 (numsOf s) p2 hl (numsOf_bytes s) (by omega)
      exact ⟨strOfNums y, i3, g3, ev_bind e1 (ev_call e2 (ev_neg x0 (ev_pos x1 (ev_pos (by dsimp only; omega) (ev_call e3 (Ev.now _)))))), p3, by rw [strOfNums_size]; omega⟩
    · exact ⟨s, i2, g2, ev_bind e1 (ev_call e2 (ev_neg x0 (ev_neg x1 (Ev.now _)))), p2, by omega⟩
theorem l1At_ok (c : List Int) (i h : Int) (l : List Int) (hi : 0 ≤ i) (hl : c.length ≤ 4611686018427387904) : ∃ x i' h', spec_l1At.f c i h l = some (x, i', h') ∧ 0 ≤ i' := by
  unfold spec_l1At.f
  obtain ⟨x, i1, g1, e1, p1, _⟩ := l1Int_ok c i h [0, 0, 0, 1, 2, (l.length : Int), wrap64 ((l.length : Int) - 1), (-1), 9223372036854775807] hi hl (by simp)
  rw [e1]; exact ⟨_, _, _, rfl, p1⟩
theorem DrawGetSign_ev (c : List Int) (hl : c.length ≤ 4611686018427387904) : ∃ b p, Ev (fun k => spec_DrawGetSign.f k c) (b, p) ∧ Bytes b ∧ b.length ≤ 2000 := by
  obtain ⟨h, hN⟩ := l1New_ev c hl
  obtain ⟨s, i1, g1, e1, p1, z1⟩ := l2Bent_ev c 0 h (by omega) hl
  obtain ⟨x, i2, g2, e2, p2⟩ := l1At_ok c i1 g1 (numsOf s) p1 hl
  refine ⟨numsOf s, x, ?_, numsOf_bytes s, by rw [numsOf_length]; exact z1⟩
  simp only [spec_DrawGetSign.f]
  refine ev_bind hN (ev_bind e1 (ev_pos (by dsimp only; omega) ?_))
  simp only [Option.bind_some]
  exact ev_call e2 (Ev.now _)
theorem decL_range (l : List Int) (hb : Bytes l) (hl : l ≠ []) : (decL l).1 ≤ 1114111 ∧ (decL l).2 ≤ 4 := by
  by_cases h : decL l = (65533, 1)
  · rw [h]; exact ⟨by decide, by decide⟩
  · obtain ⟨hs, _, hk⟩ := decL_sound l hb hl h
    have h1 := signOk_iff.1 hs
    have h2 := enc_length ((decL l).1 : Int)
    exact ⟨by omega, by omega⟩
theorem getSign_out {b : List Int} {p : Int} (h : ¬ (0 ≤ p ∧ p < b.length)) : getSign b p = (0, 0, false) := if_neg h
theorem getSign_none {b : List Int} {n : Nat} (h : n < b.length) (e : decL (b.drop n) = (65533, 1)) : getSign b (n : Int) = (0, 0, false) := by
  unfold getSign; rw [if_pos (by omega), Int.toNat_natCast, if_pos e]
theorem getSign_some {b : List Int} {n : Nat} (h : n < b.length) (e : decL (b.drop n) ≠ (65533, 1)) : getSign b (n : Int) = (((decL (b.drop n)).1 : Int), (n : Int) + ((decL (b.drop n)).2 : Int), true) := by
  unfold getSign; rw [if_pos (by omega), Int.toNat_natCast, if_neg e]
theorem impl_GetSign_ev (b : List Int) (p : Int) (hb : Bytes b) (hl : b.length ≤ 4611686018427387904) : Ev (fun k => impl_GetSign.f k b p) (getSign b p) := by
  simp only [impl_GetSign.f]
  by_cases h0 : p < 0
  · rw [getSign_out (by omega)]
    refine ev_pos h0 (ev_shift ?_)
    simp only [impl_GetSign.j0]
    exact ev_pos trivial (Ev.now _)
  · refine ev_neg h0 (ev_shift ?_)
    simp only [impl_GetSign.j0]
    by_cases h1 : p < b.length
    · obtain ⟨n, rfl⟩ := Int.eq_ofNat_of_zero_le (show 0 ≤ p by omega)
      rw [Int.toNat_natCast]
      have hne : b.drop n ≠ [] := by intro z; have := congrArg List.length z; simp at this; omega
      have hr := decL_range _ (hb.drop n) hne
      have hd : utf8_DecodeRune.f (b.drop n) = some (((decL (b.drop n)).1 : Int), ((decL (b.drop n)).2 : Int)) := by
        unfold utf8_DecodeRune.f; rw [if_neg hne, if_pos (bytesOk_iff.2 (hb.drop n))]
      refine ev_neg (by simp; omega) (ev_pos (by omega) (ev_pos (by omega) (ev_call hd ?_)))
      dsimp only
      rw [w64 (x := ((decL (b.drop n)).1 : Int)) (by omega) (by omega), w64 (x := (n : Int) + ((decL (b.drop n)).2 : Int)) (by omega) (by omega)]
      by_cases e : decL (b.drop n) = (65533, 1)
      · rw [getSign_none (by omega) e, e]; exact ev_pos (by decide) (ev_pos (by decide) (Ev.now _))
      · rw [getSign_some (by omega) e]
        by_cases e1 : ((decL (b.drop n)).1 : Int) = 65533
        · refine ev_pos e1 (ev_neg ?_ (Ev.now _))
          have h2 := decL_le (b.drop n) hne
          intro z
          exact e (Prod.ext (by simp only; omega) (by simp only; omega))
        · exact ev_neg e1 (Ev.now _)
    · rw [getSign_out (by omega)]
      exact ev_pos (by rw [decide_eq_true_eq]; omega) (Ev.now _)
theorem spec_l2Len_eq (a : Int) (h0 : 0 ≤ a) (h1 : a ≤ 255) : spec_l2Len.f a = some ((l2Len a : Nat) : Int) := by
  unfold spec_l2Len.f l2Len
  rw [w64 (by omega) (by omega)]
  simp only [spec_l1In_eq, Option.bind_some, inR_true]
  by_cases c1 : a < 128
  · rw [if_pos c1, if_pos c1]; rfl
  · by_cases c2 : 194 ≤ a ∧ a ≤ 223
    · rw [if_neg c1, if_pos c2, if_neg c1, if_pos c2]; rfl
    · by_cases c3 : 224 ≤ a ∧ a ≤ 239
      · rw [if_neg c1, if_neg c2, if_pos c3, if_neg c1, if_neg c2, if_pos c3]; rfl
      · by_cases c4 : 240 ≤ a ∧ a ≤ 244
        · rw [if_neg c1, if_neg c2, if_neg c3, if_pos c4, if_neg c1, if_neg c2, if_neg c3, if_pos c4]; rfl
        · rw [if_neg c1, if_neg c2, if_neg c3, if_neg c4, if_neg c1, if_neg c2, if_neg c3, if_neg c4]; rfl
/-- The end: is it a sign, and do its bytes stand there? -/
def endSign (b : List Int) (p k : Nat) (n : Int) : Int × Int × Bool := if signOk n = true ∧ enc n = (b.drop p).take k then (n, (p : Int) + k, true) else (0, 0, false)
theorem spec_GetSign_end (b : List Int) (p k : Nat) (n : Int) (hpk : p + k ≤ b.length) (hb : Bytes b) (hl : b.length ≤ 4611686018427387904) :
    Ev (fun f => spec_GetSign.l0 f b (p : Int) (k : Int) n (k : Int)) (endSign b p k n) := by
  refine ev_shift ?_
  have e : wrap64 ((p : Int) + (k : Int)) = ((p + k : Nat) : Int) := by rw [w64 (by omega) (by omega)]; omega
  have e2 : (b.take (p + k)).drop p = (b.drop p).take k := by rw [List.drop_take]; congr 1; omega
  simp only [spec_GetSign.l0, e, Int.toNat_natCast, e2]
  refine ev_neg (by omega) (ev_call (spec_SignOk_eq n) ?_)
  unfold endSign
  by_cases hs : signOk n = true
  · refine ev_pos hs (ev_call (spec_PutSign_eq [] n (by simp)) (ev_pos (by omega) (ev_pos (by omega) (ev_pos (by omega) ?_))))
    have e3 : putSign [] n = enc n := by unfold putSign encOk; rw [if_pos hs]; rfl
    rw [e3]
    by_cases he : enc n = (b.drop p).take k
    · have hE : (if signOk n = true ∧ enc n = (b.drop p).take k then (n, (p : Int) + (k : Int), true) else (0, 0, false)) = (n, (p : Int) + (k : Int), true) := if_pos ⟨hs, he⟩
      rw [hE]; exact ev_pos (by rw [he]) (ev_is (Ev.now _) (by simp))
    · have hE : (if signOk n = true ∧ enc n = (b.drop p).take k then (n, (p : Int) + (k : Int), true) else (0, 0, false)) = (0, 0, false) := if_neg (fun z => he z.2)
      rw [hE]; exact ev_neg (fun z => he (strOfNums_inj (enc_bytes hs) ((hb.drop p).take k) z)) (Ev.now _)
  · have hE : (if signOk n = true ∧ enc n = (b.drop p).take k then (n, (p : Int) + (k : Int), true) else (0, 0, false)) = (0, 0, false) := if_neg (fun z => hs z.1)
    rw [hE]; exact ev_neg hs (Ev.now _)
/-- The bytes behind the first, one by one. -/
def contSign (b : List Int) (p k : Nat) : Nat → Nat → Int → Int × Int × Bool
  | 0, _, n => endSign b p k n
  | d + 1, i, n => if b.getD (p + i) 0 / 64 = 2 then contSign b p k d (i + 1) (Go.bits .or .i64 (wrap64 (n * 64)) (b.getD (p + i) 0 % 64)) else (0, 0, false)
theorem spec_GetSign_l0 (b : List Int) (p k : Nat) (hpk : p + k ≤ b.length) (hb : Bytes b) (hl : b.length ≤ 4611686018427387904) (d : Nat) :
    ∀ (i : Nat) (n : Int), i + d = k → Ev (fun f => spec_GetSign.l0 f b (p : Int) (k : Int) n (i : Int)) (contSign b p k d i n) := by
  induction d with
  | zero => intro i n h; obtain rfl : i = k := (by omega); exact spec_GetSign_end b p i n hpk hb hl
  | succ d ih =>
    intro i n h
    refine ev_shift ?_
    have e : wrap64 ((p : Int) + (i : Int)) = ((p + i : Nat) : Int) := by rw [w64 (by omega) (by omega)]; omega
    have hr := hb.rd ((p + i : Nat) : Int)
    rw [rd_nat] at hr
    have e2 : wrap64 (Go.bits .and .u8 (b.getD (p + i) 0) 63) = b.getD (p + i) 0 % 64 := by rw [u8_and63 _ (by omega) (by omega), w64 (by omega) (by omega)]
    simp only [spec_GetSign.l0, e, rd_nat, and192 hr.1 hr.2, e2, next_nat i (by omega)]
    refine ev_pos (by omega) (ev_pos (by omega) (ev_pos (by omega) ?_))
    unfold contSign
    by_cases hc : b.getD (p + i) 0 / 64 = 2
    · rw [if_pos hc]; exact ev_pos (by omega) (ih (i + 1) _ (by omega))
    · rw [if_neg hc]; exact ev_neg (by omega) (Ev.now _)
theorem u64_small (n : Nat) (h : n ≤ 4) : IntKind.u64.wrap (n : Int) = (n : Int) := by
  simp [IntKind.wrap, IntKind.bits, IntKind.signed]; omega
/-- What the first byte gives. -/
def headSign (a : Int) : Int := if l2Len a > 1 then Go.bits .and .i64 a (shr .i64 127 (IntKind.u64.wrap (l2Len a : Int))) else a
theorem spec_GetSign_walk (b : List Int) (p : Nat) (hb : Bytes b) (hl : b.length ≤ 4611686018427387904) (hp : p < b.length) :
    Ev (fun f => spec_GetSign.f f b (p : Int)) (if l2Len (b.getD p 0) = 0 ∨ p + l2Len (b.getD p 0) > b.length then (0, 0, false) else contSign b p (l2Len (b.getD p 0)) (l2Len (b.getD p 0) - 1) 1 (headSign (b.getD p 0))) := by
  have hr := hb.rd (p : Int)
  rw [rd_nat] at hr
  have h4 := l2Len_le (b.getD p 0)
  simp only [spec_GetSign.f, spec_l1In_eq, Option.bind_some, inR_true]
  rw [w64 (x := (b.length : Int) - 1) (by omega) (by omega)]
  refine ev_pos (by omega) (ev_pos (by omega) (ev_pos (by omega) ?_))
  rw [rd_nat]
  refine ev_call (spec_l2Len_eq _ hr.1 hr.2) ?_
  rw [w64 (x := (b.length : Int) - (p : Int)) (by omega) (by omega)]
  by_cases h0 : l2Len (b.getD p 0) = 0
  · rw [if_pos (Or.inl h0)]
    refine ev_pos (by omega) (ev_shift ?_)
    simp only [spec_GetSign.j0]
    exact ev_pos trivial (Ev.now _)
  · refine ev_neg (by omega) (ev_shift ?_)
    simp only [spec_GetSign.j0]
    by_cases h1 : p + l2Len (b.getD p 0) > b.length
    · rw [if_pos (Or.inr h1)]; exact ev_pos (by rw [decide_eq_true_eq]; omega) (Ev.now _)
    · rw [if_neg (by omega)]
      refine ev_neg (by rw [decide_eq_true_eq]; omega) (ev_pos (by omega) (ev_pos (by omega) ?_))
      rw [rd_nat, w64 (x := b.getD p 0) (by omega) (by omega)]
      unfold headSign
      by_cases h2 : l2Len (b.getD p 0) > 1
      · rw [if_pos h2]
        refine ev_pos (by omega) (ev_pos (by rw [u64_small _ h4]; omega) (ev_shift ?_))
        simp only [spec_GetSign.j1]
        exact spec_GetSign_l0 b p _ (by omega) hb hl _ 1 _ (by omega)
      · rw [if_neg h2]
        refine ev_neg (by omega) (ev_shift ?_)
        simp only [spec_GetSign.j1]
        exact spec_GetSign_l0 b p _ (by omega) hb hl _ 1 _ (by omega)
theorem contSign_none (b : List Int) (p k : Nat) (h : decL (b.drop p) = (65533, 1)) (d : Nat) : ∀ (i : Nat) (n : Int), contSign b p k d i n = (0, 0, false) := by
  induction d with
  | zero =>
    intro i n
    unfold contSign endSign
    exact if_neg fun z => decL_none h z.1 z.2
  | succ d ih =>
    intro i n
    unfold contSign
    by_cases hc : b.getD (p + i) 0 / 64 = 2
    · rw [if_pos hc]; exact ih _ _
    · rw [if_neg hc]
theorem or_64 {x y : Int} (h0 : 0 ≤ x) (h1 : x ≤ 100000000) (h2 : 0 ≤ y) (h3 : y < 64) : Go.bits .or .i64 (wrap64 (x * 64)) y = x * 64 + y := by
  rw [w64 (by omega) (by omega)]
  exact bits_join .i64 62 (by decide) wraps_i64 6 (x * 64) y (by omega) (by omega) (by omega) h2 (by omega) (by omega)
theorem and_i64_31 (x : Int) (h0 : 0 ≤ x) (h1 : x ≤ 255) : Go.bits .and .i64 x 31 = x % 32 := bits_mask .i64 62 (by decide) wraps_i64 5 (by decide) x h0 (by omega)
theorem and_i64_15 (x : Int) (h0 : 0 ≤ x) (h1 : x ≤ 255) : Go.bits .and .i64 x 15 = x % 16 := bits_mask .i64 62 (by decide) wraps_i64 4 (by decide) x h0 (by omega)
theorem and_i64_7 (x : Int) (h0 : 0 ≤ x) (h1 : x ≤ 255) : Go.bits .and .i64 x 7 = x % 8 := bits_mask .i64 62 (by decide) wraps_i64 3 (by decide) x h0 (by omega)
theorem shr_2 : shr .i64 127 (IntKind.u64.wrap ((2 : Nat) : Int)) = 31 := by decide
theorem shr_3 : shr .i64 127 (IntKind.u64.wrap ((3 : Nat) : Int)) = 15 := by decide
theorem shr_4 : shr .i64 127 (IntKind.u64.wrap ((4 : Nat) : Int)) = 7 := by decide
theorem contSign_enc (b : List Int) (p : Nat) (n : Int) (hs : signOk n = true) (he : enc n = (b.drop p).take (enc n).length) (hpk : p + (enc n).length ≤ b.length) :
    l2Len (b.getD p 0) = (enc n).length ∧ contSign b p (enc n).length ((enc n).length - 1) 1 (headSign (b.getD p 0)) = (n, (p : Int) + (enc n).length, true) := by
  have hg : ∀ i, i < (enc n).length → b.getD (p + i) 0 = (enc n).getD i 0 := by
    intro i hi
    have h1 : (enc n)[i]? = b[p + i]? := by
      have h2 : ((b.drop p).take (enc n).length)[i]? = b[p + i]? := by rw [List.getElem?_take_of_lt hi, List.getElem?_drop]
      rw [← he] at h2; exact h2
    rw [List.getD_eq_getElem?_getD, List.getD_eq_getElem?_getD, h1]
  have hend : ∀ m : Int, m = n → endSign b p (enc n).length m = (n, (p : Int) + (enc n).length, true) := by
    intro m hm; subst hm; unfold endSign; rw [if_pos ⟨hs, he⟩]
  rcases enc_cases hs with ⟨a, c, e⟩ | ⟨a, c, e⟩ | ⟨a, c, c2, e⟩ | ⟨a, c, e⟩
  · have g0 := hg 0 (by rw [e]; simp)
    rw [Nat.add_zero, e] at g0
    simp only [List.getD_cons_zero] at g0
    have hl : l2Len n = 1 := by unfold l2Len; rw [if_pos (by omega)]
    rw [g0, hl]
    refine ⟨by rw [e]; rfl, ?_⟩
    rw [show (enc n).length - 1 = 0 by rw [e]; rfl]
    unfold contSign
    refine hend _ ?_
    unfold headSign; rw [hl]; rfl
  · have g0 := hg 0 (by rw [e]; simp)
    have g1 := hg 1 (by rw [e]; simp)
    rw [e] at g0 g1
    rw [Nat.add_zero] at g0
    simp only [List.getD_cons_zero, List.getD_cons_succ] at g0 g1
    have hl : l2Len (192 + n / 64) = 2 := by unfold l2Len; rw [if_neg (by omega), if_pos (by omega)]
    have hh : headSign (192 + n / 64) = n / 64 := by
      unfold headSign; rw [hl, if_pos (by decide), shr_2, and_i64_31 _ (by omega) (by omega)]; omega
    rw [g0, hl, hh]
    refine ⟨by rw [e]; rfl, ?_⟩
    rw [show (enc n).length - 1 = 1 by rw [e]; rfl]
    unfold contSign
    rw [g1, if_pos (by omega), or_64 (by omega) (by omega) (by omega) (by omega)]
    unfold contSign
    exact hend _ (by omega)
  · have g0 := hg 0 (by rw [e]; simp)
    have g1 := hg 1 (by rw [e]; simp)
    have g2 := hg 2 (by rw [e]; simp)
    rw [e] at g0 g1 g2
    rw [Nat.add_zero] at g0
    simp only [List.getD_cons_zero, List.getD_cons_succ] at g0 g1 g2
    have hl : l2Len (224 + n / 4096) = 3 := by unfold l2Len; rw [if_neg (by omega), if_neg (by omega), if_pos (by omega)]
    have hh : headSign (224 + n / 4096) = n / 4096 := by
      unfold headSign; rw [hl, if_pos (by decide), shr_3, and_i64_15 _ (by omega) (by omega)]; omega
    rw [g0, hl, hh]
    refine ⟨by rw [e]; rfl, ?_⟩
    rw [show (enc n).length - 1 = 2 by rw [e]; rfl]
    unfold contSign
    rw [g1, if_pos (by omega), or_64 (by omega) (by omega) (by omega) (by omega)]
    unfold contSign
    rw [g2, if_pos (by omega), or_64 (by omega) (by omega) (by omega) (by omega)]
    unfold contSign
    exact hend _ (by omega)
  · have g0 := hg 0 (by rw [e]; simp)
    have g1 := hg 1 (by rw [e]; simp)
    have g2 := hg 2 (by rw [e]; simp)
    have g3 := hg 3 (by rw [e]; simp)
    rw [e] at g0 g1 g2 g3
    rw [Nat.add_zero] at g0
    simp only [List.getD_cons_zero, List.getD_cons_succ] at g0 g1 g2 g3
    have hl : l2Len (240 + n / 262144) = 4 := by unfold l2Len; rw [if_neg (by omega), if_neg (by omega), if_neg (by omega), if_pos (by omega)]
    have hh : headSign (240 + n / 262144) = n / 262144 := by
      unfold headSign; rw [hl, if_pos (by decide), shr_4, and_i64_7 _ (by omega) (by omega)]; omega
    rw [g0, hl, hh]
    refine ⟨by rw [e]; rfl, ?_⟩
    rw [show (enc n).length - 1 = 3 by rw [e]; rfl]
    unfold contSign
    rw [g1, if_pos (by omega), or_64 (by omega) (by omega) (by omega) (by omega)]
    unfold contSign
    rw [g2, if_pos (by omega), or_64 (by omega) (by omega) (by omega) (by omega)]
    unfold contSign
    rw [g3, if_pos (by omega), or_64 (by omega) (by omega) (by omega) (by omega)]
    unfold contSign
    exact hend _ (by omega)
theorem spec_GetSign_ev (b : List Int) (p : Int) (hb : Bytes b) (hl : b.length ≤ 4611686018427387904) : Ev (fun f => spec_GetSign.f f b p) (getSign b p) := by
  unfold getSign
  by_cases hp : 0 ≤ p ∧ p < b.length
  · rw [if_pos hp]
    obtain ⟨p, rfl⟩ := Int.eq_ofNat_of_zero_le hp.1
    rw [Int.toNat_natCast]
    have hpl : p < b.length := by omega
    refine ev_is (spec_GetSign_walk b p hb hl hpl) ?_
    by_cases hd : decL (b.drop p) = (65533, 1)
    · rw [if_pos hd]
      by_cases h1 : l2Len (b.getD p 0) = 0 ∨ p + l2Len (b.getD p 0) > b.length
      · rw [if_pos h1]
      · rw [if_neg h1]; exact contSign_none b p _ hd _ _ _
    · rw [if_neg hd]
      obtain ⟨hs, he, hk⟩ := decL_sound (b.drop p) (hb.drop p) (by intro z; have := congrArg List.length z; simp at this; omega) hd
      have hle : (enc ((decL (b.drop p)).1 : Int)).length ≤ (b.drop p).length := by have h9 := congrArg List.length he; rw [List.length_append] at h9; omega
      have he2 : enc ((decL (b.drop p)).1 : Int) = (b.drop p).take (enc ((decL (b.drop p)).1 : Int)).length := (take_of he rfl).symm
      rw [List.length_drop] at hle
      obtain ⟨h1, h2⟩ := contSign_enc b p _ hs he2 (by omega)
      rw [h1, if_neg (by have := enc_pos ((decL (b.drop p)).1 : Int); omega), h2, hk]
  · rw [if_neg hp]
    simp only [spec_GetSign.f, spec_l1In_eq, Option.bind_some, inR_true]
    rw [w64 (x := (b.length : Int) - 1) (by omega) (by omega)]
    exact ev_neg (by omega) (Ev.now _)
theorem DrawSignOk_ev (c : List Int) (hl : c.length ≤ 4611686018427387904) : ∃ n, Ev (fun k => spec_DrawSignOk.f k c) n := by
  obtain ⟨h, hN⟩ := l1New_ev c hl
  obtain ⟨n, i1, g1, e1, p1⟩ := l2Any_ok c 0 h (by omega) hl
  refine ⟨n, ?_⟩
  simp only [spec_DrawSignOk.f]
  exact ev_bind hN (ev_call e1 (Ev.now _))

theorem getSign_enc {n : Int} (hs : signOk n = true) (b : List Int) : getSign (b ++ enc n) (b.length : Int) = (n, ((b ++ enc n).length : Int), true) := by
  have hp := enc_pos n
  have hr := signOk_iff.1 hs
  have hd : (b ++ enc n).drop b.length = enc n := List.drop_left
  have hl : (b ++ enc n).length = b.length + (enc n).length := List.length_append
  have he := decL_enc hs []
  rw [List.append_nil] at he
  have hne : decL ((b ++ enc n).drop b.length) ≠ (65533, 1) := by
    rw [hd, he]
    intro z
    injection z with z1 z2
    have hn : n = 65533 := by omega
    subst hn
    exact absurd z2 (by decide)
  rw [getSign_some (by omega) hne, hd, he, hl]
  simp only [Prod.mk.injEq, and_true]
  exact ⟨by omega, by omega⟩
theorem getSign_cut {n : Int} (hs : signOk n = true) (b : List Int) (_hb : Bytes b) : getSign ((b ++ enc n).take (b.length + (enc n).length - 1)) (b.length : Int) = (0, 0, false) := by
  have hp := enc_pos n
  have hl : (b ++ enc n).length = b.length + (enc n).length := List.length_append
  have ht : (b ++ enc n).take (b.length + (enc n).length - 1) = b ++ (enc n).take ((enc n).length - 1) := by
    rw [List.take_append, List.take_of_length_le (by omega)]
    congr 2
    omega
  rw [ht]
  by_cases h1 : (enc n).length = 1
  · rw [getSign_out]
    rw [List.length_append, List.length_take]; omega
  · have hd : (b ++ (enc n).take ((enc n).length - 1)).drop b.length = (enc n).take ((enc n).length - 1) := List.drop_left
    have hlt : b.length < (b ++ (enc n).take ((enc n).length - 1)).length := by rw [List.length_append, List.length_take]; omega
    by_cases hn : decL ((b ++ (enc n).take ((enc n).length - 1)).drop b.length) = (65533, 1)
    · exact getSign_none hlt hn
    · exfalso
      rw [hd] at hn
      have hne : (enc n).take ((enc n).length - 1) ≠ [] := by intro z; have := congrArg List.length z; rw [List.length_take, List.length_nil] at this; omega
      obtain ⟨ms, me, mk⟩ := decL_sound _ ((enc_bytes hs).take _) hne hn
      have hlen := congrArg List.length me
      rw [List.length_append, List.length_take] at hlen
      have hfull : enc n = enc ((decL ((enc n).take ((enc n).length - 1))).1 : Int) ++ (((enc n).take ((enc n).length - 1)).drop (decL ((enc n).take ((enc n).length - 1))).2 ++ (enc n).drop ((enc n).length - 1)) := by
        rw [← List.append_assoc, ← me, List.take_append_drop]
      have h2 := decL_enc ms (((enc n).take ((enc n).length - 1)).drop (decL ((enc n).take ((enc n).length - 1))).2 ++ (enc n).drop ((enc n).length - 1))
      rw [← hfull] at h2
      have h3 := decL_enc hs []
      rw [List.append_nil, h2] at h3
      injection h3 with _ h4
      omega
theorem FnSigns : laws_FnSigns.Pure := by
  intro l _ _ _
  apply Ev.rounds
  simp only [laws_FnSigns.f]
  by_cases h : (l.length : Int) > 1048576
  · exact ev_call (laws_big_eq l) (ev_pos (decide_eq_true h) (Ev.now _))
  refine ev_call (laws_big_eq l) (ev_neg (by simpa using h) ?_)
  have hl : l.length ≤ 4611686018427387904 := by omega
  obtain ⟨b, n, d1, bb, bl⟩ := DrawPutSign_ev l hl
  obtain ⟨c, i, d2, cb, cl⟩ := DrawGetSign_ev l hl
  obtain ⟨a, d3⟩ := DrawSignOk_ev l hl
  have hen := encOk_length n
  have hj : Ev (fun k => laws_FnSigns.j0 k b n (putSign b n) false) true := by
    refine ev_shift ?_
    simp only [laws_FnSigns.j0]
    refine ev_neg (by simp) (ev_call (impl_SignOk_eq n) ?_)
    by_cases hs : signOk n = true
    · have hp := enc_pos n
      have e : putSign b n = b ++ enc n := by unfold putSign encOk; rw [if_pos hs]
      have hlen : (b ++ enc n).length = b.length + (enc n).length := List.length_append
      have hpl := enc_length n
      have hbb : Bytes (b ++ enc n) := bb.append (enc_bytes hs)
      rw [e]
      refine ev_pos hs (ev_bind (impl_GetSign_ev _ _ hbb (by omega)) ?_)
      have ew : wrap64 (((b ++ enc n).length : Int) - 1) = ((b.length + (enc n).length - 1 : Nat) : Int) := by rw [w64 (by omega) (by omega)]; omega
      rw [ew, Int.toNat_natCast]
      refine ev_pos (by omega) (ev_pos (by omega) (ev_bind (impl_GetSign_ev _ _ (hbb.take _) (by rw [List.length_take]; omega)) ?_))
      rw [getSign_enc hs b, getSign_cut hs b bb]
      exact ev_pos rfl (ev_pos rfl (ev_pos rfl (Ev.now _)))
    · have e : putSign b n = b := by unfold putSign encOk; rw [if_neg hs, List.append_nil]
      rw [e]
      exact ev_neg hs (ev_is (Ev.now _) (by simp))
  refine ev_bind d1 (ev_bind (impl_PutSign_ev b n (by omega)) (ev_bind d2 (ev_bind (impl_GetSign_ev c i cb (by omega)) (ev_bind (spec_GetSign_ev c i cb (by omega)) (ev_bind d3 (ev_call (impl_SignOk_eq a) (ev_call (spec_SignOk_eq a) (ev_neg (by simp) (ev_neg (by simp) ?_)))))))))
  by_cases hin : 0 ≤ i ∧ i < c.length
  · obtain ⟨p, rfl⟩ := Int.eq_ofNat_of_zero_le hin.1
    have hpl : p < c.length := by omega
    by_cases hd : decL (c.drop p) = (65533, 1)
    · rw [getSign_none hpl hd]
      exact ev_neg (by simp) hj
    · have hne : c.drop p ≠ [] := drop_ne hpl
      obtain ⟨hs, he, hk⟩ := decL_sound (c.drop p) (cb.drop p) hne hd
      have h4 := decL_le _ hne
      rw [List.length_drop] at h4
      have e0 : putSign [] ((decL (c.drop p)).1 : Int) = enc ((decL (c.drop p)).1 : Int) := by unfold putSign encOk; rw [if_pos hs]; rfl
      have e1 : (c.take (p + (decL (c.drop p)).2)).drop p = enc ((decL (c.drop p)).1 : Int) := by
        rw [List.drop_take, Nat.add_sub_cancel_left]; exact take_of he hk
      rw [getSign_some hpl hd]
      refine ev_pos rfl (ev_bind (impl_PutSign_ev [] _ (by simp)) ?_)
      simp only
      rw [e0, show ((p : Int) + ((decL (c.drop p)).2 : Int)).toNat = p + (decL (c.drop p)).2 by omega, Int.toNat_natCast, e1]
      refine ev_pos (by omega) (ev_pos (by omega) (ev_pos (by omega) (ev_pos rfl (ev_call (impl_SignOk_eq _) ?_))))
      rw [hs]
      exact hj
  · rw [getSign_out hin]
    exact ev_neg (by simp) hj

end Go.Proofs.YtnmncgbegiegfaaDoor.Pure
