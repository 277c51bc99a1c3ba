/- The law FnExactTextOf answers true at every row of numbers that memory holds: the program's TextOf tells what the reference's tells, and leaves the row as it was. -/
import Derived.Test.YtnmncgbegiegfaaQFnExactTextOfx2
import Derived.Test.YtnmncgbegiegfaaModel
import Derived.Test.YtnmncgbegiegfaaModelC
import Derived.Test.YtnmncgbegiegfaaModelU
namespace Go.Proofs.Ytnmncgbegiegfaa.Pure
open Go.RowKit Go.Proofs.Ytnmncgbegiegfaa.QFnExactTextOf Go.Proofs.YtnmncgbegiegfaaW.PrintWords Go.Proofs.YtnmncgbegiegfaaW.PrintLast Go.Proofs.Ytnmncgbegiegfaa.Ext Go.Proofs.Ytnmncgbegiegfaa.Base Go.Proofs.Ytnmncgbegiegfaa.Model

theorem spec_l1In_eq (a b c : Int) : spec_l1In.f a b c = some (inR a b c) := by
  unfold spec_l1In.f inR; by_cases h : a ≥ b <;> simp [h]
theorem spec_SignOk_eq (n : Int) : spec_SignOk.f n = some (signOk n) := by
  unfold spec_SignOk.f signOk
  simp only [spec_l1In_eq, Option.bind_some]
  cases inR n 0 1114111 <;> simp
theorem spec_PutSign_eq (b : List Int) (n : Int) (h : b.length + 4 < 140737488355328) : spec_PutSign.f b n = some (putSign b n) := by
  have hb : b.length < 140737488355328 := by omega
  unfold spec_PutSign.f putSign encOk
  simp only [Option.bind_some, List.length_nil, Nat.zero_add, List.nil_append, if_pos hb, spec_SignOk_eq]
  by_cases h1 : signOk n = true
  · have hr := signOk_iff.1 h1
    rw [if_pos h1, if_pos h1]
    unfold enc
    simp only [and_63, List.length_cons, List.length_nil]
    by_cases h2 : n ≤ 127
    · rw [if_pos h2, if_pos h2, show n % 256 = n by omega]
    · by_cases h3 : n ≤ 2047
      · rw [if_neg h2, if_pos h3, if_neg h2, if_pos h3, or_192 (by omega) (by omega), or_128 (by omega) (by omega), if_pos (by omega), show (192 + n / 64) % 256 = 192 + n / 64 by omega, show (128 + n % 64) % 256 = 128 + n % 64 by omega]
      · by_cases h4 : n ≤ 65535
        · rw [if_neg h2, if_neg h3, if_pos h4, if_neg h2, if_neg h3, if_pos h4, or_224 (by omega) (by omega), or_128 (by omega) (by omega), or_128 (by omega) (by omega), if_pos (by omega), show (224 + n / 4096) % 256 = 224 + n / 4096 by omega, show (128 + n / 64 % 64) % 256 = 128 + n / 64 % 64 by omega, show (128 + n % 64) % 256 = 128 + n % 64 by omega]
        · rw [if_neg h2, if_neg h3, if_neg h4, if_neg h2, if_neg h3, if_neg h4, or_240 (by omega) (by omega), or_128 (by omega) (by omega), or_128 (by omega) (by omega), or_128 (by omega) (by omega), if_pos (by omega), show (240 + n / 262144) % 256 = 240 + n / 262144 by omega, show (128 + n / 4096 % 64) % 256 = 128 + n / 4096 % 64 by omega, show (128 + n / 64 % 64) % 256 = 128 + n / 64 % 64 by omega, show (128 + n % 64) % 256 = 128 + n % 64 by omega]
  · rw [if_neg h1, if_neg h1]; simp
theorem spec_TextOf_l0 (l : List Int) (hl : l.length ≤ 1048576) (d : Nat) : ∀ (i : Nat) (b : List Int), i + d = l.length → b.length ≤ 4 * i → Ev (fun k => spec_TextOf.l0 k l b (i : Int)) (strOfNums (b ++ (l.drop i).flatMap encOk)) := by
  induction d with
  | zero =>
    intro i b h hb
    refine ev_shift ?_
    simp only [spec_TextOf.l0]
    refine ev_neg (by omega) (ev_is (Ev.now _) ?_)
    rw [List.drop_of_length_le (by omega)]; simp
  | succ d ih =>
    intro i b h hb
    have hi : i < l.length := by omega
    refine ev_shift ?_
    simp only [spec_TextOf.l0, next_nat i (by omega), rd_lt l i hi]
    refine ev_pos (by omega) (ev_pos (by omega) (ev_call (spec_PutSign_eq b l[i] (by omega)) ?_))
    have he := encOk_length l[i]
    refine ev_is (ih (i + 1) (putSign b l[i]) (by omega) (by simp [putSign]; omega)) ?_
    simp only [putSign, List.drop_eq_getElem_cons hi, List.flatMap_cons, List.append_assoc]
theorem spec_TextOf_ev (l : List Int) (hl : l.length ≤ 1048576) : Ev (fun k => spec_TextOf.f k l) (strOfNums (l.flatMap encOk)) := by
  have h := spec_TextOf_l0 l hl l.length 0 [] (by omega) (by simp)
  rw [List.drop_zero, List.nil_append] at h
  simp only [spec_TextOf.f]
  exact h
theorem toIntS_l0 (l : List Int) (hl : l.length ≤ 17592186044416) (d : Nat) : ∀ (i : Nat) (x : List Int), i + d = l.length → x.length = l.length → (∀ j, j < i → x[j]? = l[j]?) → Ev (fun k => laws_toIntS.l0 k l x (i : Int)) l := by
  induction d with
  | zero =>
    intro i x h hx hj
    refine ev_shift ?_
    simp only [laws_toIntS.l0]
    refine ev_neg (by omega) (ev_is (Ev.now _) (List.ext_getElem? fun j => ?_))
    by_cases hji : j < i
    · exact hj j hji
    · rw [List.getElem?_eq_none (by omega), List.getElem?_eq_none (by omega)]
  | succ d ih =>
    intro i x h hx hj
    refine ev_shift ?_
    simp only [laws_toIntS.l0, next_nat i (by omega)]
    refine ev_pos (by omega) (ev_pos (by omega) (ev_pos (by omega) (ih (i + 1) _ (by omega) (by simpa using hx) fun j hji => ?_)))
    have hi : i < l.length := by omega
    rw [rd_lt l i hi, Int.toNat_natCast]
    by_cases e : j = i
    · subst e; rw [List.getElem?_set_self (by omega), List.getElem?_eq_getElem hi]
    · rw [List.getElem?_set_ne (by omega)]; exact hj j (by omega)
theorem toIntS_ev (l : List Int) (hl : l.length ≤ 17592186044416) : Ev (fun k => laws_toIntS.f k l) l := by
  simp only [laws_toIntS.f]
  exact ev_pos (by omega) (ev_pos (by omega) (toIntS_l0 l hl l.length 0 _ (by omega) (by simp) fun j hj => by omega))
theorem impl_joined_1 (a : List Int) (h : a.length < 140737488355328) : Ev (fun k => impl_joined.f k [a]) a := by
  refine ev_shift (ev_shift (ev_same fun k => ?_))
  simp only [impl_joined.f, impl_joined.l0]
  simp [rd_L2, wrap64, h]
theorem impl_joined_2 (a b : List Int) (h : a.length + b.length < 140737488355328) : Ev (fun k => impl_joined.f k [a, b]) (a ++ b) := by
  refine ev_shift (ev_shift (ev_shift (ev_same fun k => ?_)))
  have ha : a.length < 140737488355328 := by omega
  simp only [impl_joined.f, impl_joined.l0]
  simp [rd_L2, wrap64, h, ha]
theorem impl_within_eq (a b c : Int) : impl_within.f a b c = some (inR a b c) := by
  unfold impl_within.f inR; by_cases h : a ≥ b <;> simp [h]
theorem impl_SignOk_eq (n : Int) : impl_SignOk.f n = some (signOk n) := by
  unfold impl_SignOk.f signOk
  simp only [impl_within_eq, Option.bind_some]
  cases inR n 0 1114111 <;> simp
theorem appendRune_j3 (k : Nat) (b : List Int) (n m : Int) (h : b.length + 4 < 140737488355328) (h0 : 0 ≤ n) (h1 : n ≤ 65535) : utf8_appendRuneNonASCII.j0 (k + 1) b n m true = some (b ++ [224 + n / 4096, 128 + n / 64 % 64, 128 + n % 64]) := by
  simp only [utf8_appendRuneNonASCII.j0, Option.bind_some, List.length_cons, List.length_nil]
  rw [if_pos trivial, if_pos (by omega), show n / 4096 % 256 = n / 4096 by omega, u8_or224 _ (by omega) (by omega)]
theorem appendRune_j4 (k : Nat) (b : List Int) (n m : Int) (h : b.length + 4 < 140737488355328) (h0 : 65536 ≤ n) (h1 : n ≤ 1114111) (hm : m = n) : utf8_appendRuneNonASCII.j0 (k + 1) b n m false = some (b ++ [240 + n / 262144, 128 + n / 4096 % 64, 128 + n / 64 % 64, 128 + n % 64]) := by
  subst hm
  simp only [utf8_appendRuneNonASCII.j0, Option.bind_some, List.length_cons, List.length_nil]
  rw [if_neg (by decide), if_pos (by omega), if_pos (by omega), if_pos (by omega), show m / 262144 % 256 = m / 262144 by omega, u8_or240 _ (by omega) (by omega)]
theorem appendRuneNonASCII_eq (k : Nat) (b : List Int) (n : Int) (h : b.length + 4 < 140737488355328) (h1 : signOk n = true) (h2 : 128 ≤ n) : utf8_appendRuneNonASCII.f (k + 1) b n = some (b ++ enc n) := by
  have hr := signOk_iff.1 h1
  have hm : n % 4294967296 = n := by omega
  unfold enc
  simp only [utf8_appendRuneNonASCII.f, Option.bind_some, hm, List.length_cons, List.length_nil]
  rw [if_neg (c := n ≤ 127) (by omega)]
  by_cases h3 : n ≤ 2047
  · rw [if_pos h3, if_pos h3, show n / 64 % 256 = n / 64 by omega, u8_or192 _ (by omega) (by omega), if_pos (by omega)]
  · rw [if_neg h3, if_neg h3]
    by_cases h4 : n ≤ 65535
    · rw [if_pos h4]
      by_cases h5 : n < 55296
      · rw [if_pos h5, decide_eq_true h5]; exact appendRune_j3 k b n n h (by omega) h4
      · rw [if_neg h5, if_pos (by omega), decide_eq_true h4]; exact appendRune_j3 k b n n h (by omega) h4
    · rw [if_neg h4, if_neg (by omega), if_pos (by omega), decide_eq_false h4]; exact appendRune_j4 k b n n h (by omega) (by omega) rfl
theorem AppendRune_eq (k : Nat) (b : List Int) (n : Int) (h : b.length + 4 < 140737488355328) (h1 : signOk n = true) : utf8_AppendRune.f (k + 1) b n = some (b ++ enc n) := by
  have hr := signOk_iff.1 h1
  simp only [utf8_AppendRune.f]
  by_cases h2 : n ≤ 127
  · rw [if_pos (by omega), if_pos (by omega), show n % 256 = n by omega]; unfold enc; rw [if_pos h2]
  · rw [if_neg (by omega), appendRuneNonASCII_eq k b n h h1 (by omega)]; rfl
theorem impl_PutSign_ev (b : List Int) (n : Int) (h : b.length + 4 < 140737488355328) : Ev (fun k => impl_PutSign.f k b n) (putSign b n) := by
  unfold putSign encOk
  simp only [impl_PutSign.f, impl_SignOk_eq]
  refine ev_bind (impl_joined_1 b (by omega)) ?_
  simp only [Option.bind_some]
  by_cases h1 : signOk n = true
  · have hr := signOk_iff.1 h1
    have e : wrap32 n = n := by unfold wrap32; omega
    rw [if_pos h1, e]
    exact ev_pos h1 (ev_bind (ev_shift (ev_same fun k => AppendRune_eq k b n h h1)) (Ev.now _))
  · rw [if_neg h1]
    exact ev_neg h1 (ev_is (Ev.now _) (by simp))
theorem impl_TextOf_l0 (l : List Int) (hl : l.length ≤ 1048576) (d : Nat) : ∀ (i : Nat) (b : List Int), i + d = l.length → b.length ≤ 4 * i → Ev (fun k => impl_TextOf.l0 k b l (l.length : Int) (i : Int)) (strOfNums (b ++ (l.drop i).flatMap encOk)) := by
  induction d with
  | zero =>
    intro i b h hb
    refine ev_shift ?_
    simp only [impl_TextOf.l0]
    refine ev_neg (by omega) (ev_is (Ev.now _) ?_)
    rw [List.drop_of_length_le (by omega)]; simp
  | succ d ih =>
    intro i b h hb
    have hi : i < l.length := by omega
    refine ev_shift ?_
    simp only [impl_TextOf.l0, next_nat i (by omega), rd_lt l i hi]
    refine ev_pos (by omega) (ev_pos (by omega) (ev_pos (by omega) (ev_bind (impl_PutSign_ev b l[i] (by omega)) ?_)))
    have he := encOk_length l[i]
    refine ev_is (ih (i + 1) (putSign b l[i]) (by omega) (by simp [putSign]; omega)) ?_
    simp only [putSign, List.drop_eq_getElem_cons hi, List.flatMap_cons, List.append_assoc]
theorem impl_TextOf_ev (l : List Int) (hl : l.length ≤ 1048576) : Ev (fun k => impl_TextOf.f k l) (strOfNums (l.flatMap encOk)) := by
  have h := impl_TextOf_l0 l hl l.length 0 [] (by omega) (by simp)
  rw [List.drop_zero, List.nil_append] at h
  simp only [impl_TextOf.f]
  exact h
theorem eqIntS_l0 (a b : List Int) (hl : a.length ≤ 4611686018427387904) (hab : a.length = b.length) (d : Nat) : ∀ (i : Nat), i + d = a.length → (∀ j, j < i → a[j]? = b[j]?) → Ev (fun k => laws_eqIntS.l0 k a b (i : Int)) (decide (a = b)) := by
  induction d with
  | zero =>
    intro i h hj
    refine ev_shift ?_
    simp only [laws_eqIntS.l0]
    refine ev_neg (by omega) (ev_is (Ev.now _) ?_)
    rw [eq_comm, decide_eq_true_eq]
    refine List.ext_getElem? fun j => ?_
    by_cases hji : j < i
    · exact hj j hji
    · rw [List.getElem?_eq_none (by omega), List.getElem?_eq_none (by omega)]
  | succ d ih =>
    intro i h hj
    refine ev_shift ?_
    simp only [laws_eqIntS.l0, next_nat i (by omega)]
    have hi : i < a.length := by omega
    have hi2 : i < b.length := by omega
    refine ev_pos (by omega) (ev_pos (by omega) (ev_pos (by omega) ?_))
    by_cases e : rd a (i : Int) = rd b (i : Int)
    · refine ev_pos e (ih (i + 1) (by omega) fun j hji => ?_)
      by_cases e2 : j = i
      · subst e2; rw [rd_lt a j hi, rd_lt b j hi2] at e; rw [List.getElem?_eq_getElem hi, List.getElem?_eq_getElem hi2, e]
      · exact hj j (by omega)
    · refine ev_neg e (ev_is (Ev.now _) ?_)
      rw [eq_comm, decide_eq_false_iff_not]
      intro hE; subst hE; exact e rfl
theorem eqIntS_ev (a b : List Int) (hl : a.length ≤ 4611686018427387904) : Ev (fun k => laws_eqIntS.f k a b) (decide (a = b)) := by
  simp only [laws_eqIntS.f]
  by_cases e : (a.length : Int) = (b.length : Int)
  · exact ev_pos e (eqIntS_l0 a b hl (by omega) a.length 0 (by omega) fun j hj => by omega)
  · refine ev_neg e (ev_is (Ev.now _) ?_)
    rw [eq_comm, decide_eq_false_iff_not]
    intro hE; subst hE; exact e rfl
theorem eqIntS_self (a : List Int) (hl : a.length ≤ 4611686018427387904) : Ev (fun k => laws_eqIntS.f k a a) true := ev_is (eqIntS_ev a a hl) (by simp)

theorem FnExactTextOf : laws_FnExactTextOf.Pure := by
  intro l hm _ _
  apply Ev.rounds
  simp only [laws_FnExactTextOf.f]
  by_cases h : (l.length : Int) > 1048576
  · exact ev_pos h (Ev.now _)
  · exact ev_neg h (ev_bind (toIntS_ev l (by omega)) (ev_bind (spec_TextOf_ev l (by omega)) (ev_bind (toIntS_ev l (by omega)) (ev_bind (impl_TextOf_ev l (by omega)) (ev_pos rfl
      (ev_bind (toIntS_ev l (by omega)) (ev_bind (eqIntS_self l (by omega)) (ev_pos rfl (Ev.now _)))))))))

end Go.Proofs.Ytnmncgbegiegfaa.Pure
