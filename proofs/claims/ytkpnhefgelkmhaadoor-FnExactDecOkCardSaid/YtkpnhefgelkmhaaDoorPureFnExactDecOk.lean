/- The law FnExactDecOk answers true at every state: the program's DecOk tells what the reference's tells, and leaves the state as it was. -/
import Derived.Test.YtkpnhefgelkmhaaDoorQFnExactDecOkx5
import Derived.Test.YtkpnhefgelkmhaaDoorModel
import Derived.Test.YtkpnhefgelkmhaaDoorModelA
import Derived.Test.YtkpnhefgelkmhaaDoorModelC
import Derived.Test.YtkpnhefgelkmhaaDoorModelD
import Derived.Test.YtkpnhefgelkmhaaDoorModelE
import Derived.Test.YtkpnhefgelkmhaaDoorModelF
import Derived.Test.YtkpnhefgelkmhaaDoorModelG
import Derived.Test.YtkpnhefgelkmhaaDoorModelH
import Derived.Test.YtkpnhefgelkmhaaDoorModelS
import Derived.Test.YtkpnhefgelkmhaaDoorModelT
import Derived.Test.YtkpnhefgelkmhaaDoorModelU
namespace Go.Proofs.YtkpnhefgelkmhaaDoor.Pure
open Go.RowKit Go.Proofs.YtkpnhefgelkmhaaDoor.QFnExactDecOk Go.Proofs.YtkpnhefgelkmhaaDoorW.PrintWords Go.Proofs.YtkpnhefgelkmhaaDoorW.PrintLast Go.Proofs.YtkpnhefgelkmhaaDoor.Ext Go.Proofs.YtkpnhefgelkmhaaDoor.Xw Go.Proofs.YtkpnhefgelkmhaaDoor.Base Go.Proofs.YtkpnhefgelkmhaaDoor.Model

theorem szByteS_eq (l : List Int) (a : Int) (h0 : 0 ≤ a) (h1 : a ≤ 1048576) (hl : (l.length : Int) ≤ 9223372036854775807) : laws_szByteS.f l a = some (if (l.length : Int) > a then (-1 : Int) else a - (l.length : Int)) := by
  unfold laws_szByteS.f
  rw [w64 (by omega) (by omega)]
  by_cases h : (l.length : Int) > a
  · rw [if_pos (by omega), if_pos h]
  · rw [if_neg (by omega), if_neg h]
theorem szDec_eq (t : Int) (l : List Int) (c : Bool) (hl : (l.length : Int) ≤ 9223372036854775807) : laws_szDec.f t l c 1048576 = some (if (l.length : Int) > 1048576 then (-1 : Int) else 1048576 - (l.length : Int)) := by
  unfold laws_szDec.f
  rw [szByteS_eq l _ (by omega) (by omega) hl]
  simp only [Option.bind_some]
  by_cases h : (l.length : Int) > 1048576
  · rw [if_pos h, if_pos (by omega)]
  · rw [if_neg h, if_neg (by omega)]
theorem spec_l1In_eq (a b c : Int) : spec_l1In.f a b c = some (inR a b c) := by
  unfold spec_l1In.f inR; by_cases h : a ≥ b <;> simp [h]
theorem spec_l5Cs_eq (n : Int) : spec_l5Cs.f n = some (inR n 0 5) := by
  unfold spec_l5Cs.f; rw [spec_l1In_eq]; rfl
theorem spec_l2Len_eq (a : Int) (h0 : 0 ≤ a) (h1 : a ≤ 255) : spec_l2Len.f a = some ((l2Len a : Nat) : Int) := by
  unfold spec_l2Len.f l2Len
  rw [w64 (by omega) (by omega)]
  simp only [spec_l1In_eq, Option.bind_some, inR_true]
  by_cases c1 : a < 128
  · rw [if_pos c1, if_pos c1]; rfl
  · by_cases c2 : 194 ≤ a ∧ a ≤ 223
    · rw [if_neg c1, if_pos c2, if_neg c1, if_pos c2]; rfl
    · by_cases c3 : 224 ≤ a ∧ a ≤ 239
      · rw [if_neg c1, if_neg c2, if_pos c3, if_neg c1, if_neg c2, if_pos c3]; rfl
      · by_cases c4 : 240 ≤ a ∧ a ≤ 244
        · rw [if_neg c1, if_neg c2, if_neg c3, if_pos c4, if_neg c1, if_neg c2, if_neg c3, if_pos c4]; rfl
        · rw [if_neg c1, if_neg c2, if_neg c3, if_neg c4, if_neg c1, if_neg c2, if_neg c3, if_neg c4]; rfl
theorem spec_SignOk_eq (n : Int) : spec_SignOk.f n = some (signOk n) := by
  unfold spec_SignOk.f signOk
  simp only [spec_l1In_eq, Option.bind_some]
  cases inR n 0 1114111 <;> simp
theorem spec_PutSign_eq (b : List Int) (n : Int) (h : b.length + 4 < 140737488355328) : spec_PutSign.f b n = some (putSign b n) := by
  have hb : b.length < 140737488355328 := by omega
  unfold spec_PutSign.f putSign encOk
  simp only [Option.bind_some, List.length_nil, Nat.zero_add, List.nil_append, if_pos hb, spec_SignOk_eq]
  by_cases h1 : signOk n = true
  · have hr := signOk_iff.1 h1
    rw [if_pos h1, if_pos h1]
    unfold enc
    simp only [and_63, List.length_cons, List.length_nil]
    by_cases h2 : n ≤ 127
    · rw [if_pos h2, if_pos h2, show n % 256 = n by omega]
    · by_cases h3 : n ≤ 2047
      · rw [if_neg h2, if_pos h3, if_neg h2, if_pos h3, or_192 (by omega) (by omega), or_128 (by omega) (by omega), if_pos (by omega), show (192 + n / 64) % 256 = 192 + n / 64 by omega, show (128 + n % 64) % 256 = 128 + n % 64 by omega]
      · by_cases h4 : n ≤ 65535
        · rw [if_neg h2, if_neg h3, if_pos h4, if_neg h2, if_neg h3, if_pos h4, or_224 (by omega) (by omega), or_128 (by omega) (by omega), or_128 (by omega) (by omega), if_pos (by omega), show (224 + n / 4096) % 256 = 224 + n / 4096 by omega, show (128 + n / 64 % 64) % 256 = 128 + n / 64 % 64 by omega, show (128 + n % 64) % 256 = 128 + n % 64 by omega]
        · rw [if_neg h2, if_neg h3, if_neg h4, if_neg h2, if_neg h3, if_neg h4, or_240 (by omega) (by omega), or_128 (by omega) (by omega), or_128 (by omega) (by omega), or_128 (by omega) (by omega), if_pos (by omega), show (240 + n / 262144) % 256 = 240 + n / 262144 by omega, show (128 + n / 4096 % 64) % 256 = 128 + n / 4096 % 64 by omega, show (128 + n / 64 % 64) % 256 = 128 + n / 64 % 64 by omega, show (128 + n % 64) % 256 = 128 + n % 64 by omega]
  · rw [if_neg h1, if_neg h1]; simp
/-- The end: is it a sign, and do its bytes stand there? -/
def endSign (b : List Int) (p k : Nat) (n : Int) : Int × Int × Bool := if signOk n = true ∧ enc n = (b.drop p).take k then (n, (p : Int) + k, true) else (0, 0, false)
theorem spec_GetSign_end (b : List Int) (p k : Nat) (n : Int) (hpk : p + k ≤ b.length) (hb : Bytes b) (hl : b.length ≤ 4611686018427387904) :
    Ev (fun f => spec_GetSign.l0 f b (p : Int) (k : Int) n (k : Int)) (endSign b p k n) := by
  refine ev_shift ?_
  have e : wrap64 ((p : Int) + (k : Int)) = ((p + k : Nat) : Int) := by rw [w64 (by omega) (by omega)]; omega
  have e2 : (b.take (p + k)).drop p = (b.drop p).take k := by rw [List.drop_take]; congr 1; omega
  simp only [spec_GetSign.l0, e, Int.toNat_natCast, e2]
  refine ev_neg (by omega) (ev_call (spec_SignOk_eq n) ?_)
  unfold endSign
  by_cases hs : signOk n = true
  · refine ev_pos hs (ev_call (spec_PutSign_eq [] n (by simp)) (ev_pos (by omega) (ev_pos (by omega) (ev_pos (by omega) ?_))))
    have e3 : putSign [] n = enc n := by unfold putSign encOk; rw [if_pos hs]; rfl
    rw [e3]
    by_cases he : enc n = (b.drop p).take k
    · have hE : (if signOk n = true ∧ enc n = (b.drop p).take k then (n, (p : Int) + (k : Int), true) else (0, 0, false)) = (n, (p : Int) + (k : Int), true) := if_pos ⟨hs, he⟩
      rw [hE]; exact ev_pos (by rw [he]) (ev_is (Ev.now _) (by simp))
    · have hE : (if signOk n = true ∧ enc n = (b.drop p).take k then (n, (p : Int) + (k : Int), true) else (0, 0, false)) = (0, 0, false) := if_neg (fun z => he z.2)
      rw [hE]; exact ev_neg (fun z => he (strOfNums_inj (enc_bytes hs) ((hb.drop p).take k) z)) (Ev.now _)
  · have hE : (if signOk n = true ∧ enc n = (b.drop p).take k then (n, (p : Int) + (k : Int), true) else (0, 0, false)) = (0, 0, false) := if_neg (fun z => hs z.1)
    rw [hE]; exact ev_neg hs (Ev.now _)
/-- The bytes behind the first, one by one. -/
def contSign (b : List Int) (p k : Nat) : Nat → Nat → Int → Int × Int × Bool
  | 0, _, n => endSign b p k n
  | d + 1, i, n => if b.getD (p + i) 0 / 64 = 2 then contSign b p k d (i + 1) (Go.bits .or .i64 (wrap64 (n * 64)) (b.getD (p + i) 0 % 64)) else (0, 0, false)
theorem spec_GetSign_l0 (b : List Int) (p k : Nat) (hpk : p + k ≤ b.length) (hb : Bytes b) (hl : b.length ≤ 4611686018427387904) (d : Nat) :
    ∀ (i : Nat) (n : Int), i + d = k → Ev (fun f => spec_GetSign.l0 f b (p : Int) (k : Int) n (i : Int)) (contSign b p k d i n) := by
  induction d with
  | zero => intro i n h; obtain rfl : i = k := (by omega); exact spec_GetSign_end b p i n hpk hb hl
  | succ d ih =>
    intro i n h
    refine ev_shift ?_
    have e : wrap64 ((p : Int) + (i : Int)) = ((p + i : Nat) : Int) := by rw [w64 (by omega) (by omega)]; omega
    have hr := hb.rd ((p + i : Nat) : Int)
    rw [rd_nat] at hr
    have e2 : wrap64 (Go.bits .and .u8 (b.getD (p + i) 0) 63) = b.getD (p + i) 0 % 64 := by rw [u8_and63 _ (by omega) (by omega), w64 (by omega) (by omega)]
    simp only [spec_GetSign.l0, e, rd_nat, and192 hr.1 hr.2, e2, next_nat i (by omega)]
    refine ev_pos (by omega) (ev_pos (by omega) (ev_pos (by omega) ?_))
    unfold contSign
    by_cases hc : b.getD (p + i) 0 / 64 = 2
    · rw [if_pos hc]; exact ev_pos (by omega) (ih (i + 1) _ (by omega))
    · rw [if_neg hc]; exact ev_neg (by omega) (Ev.now _)
theorem u64_small (n : Nat) (h : n ≤ 4) : IntKind.u64.wrap (n : Int) = (n : Int) := by
  simp [IntKind.wrap, IntKind.bits, IntKind.signed]; omega
/-- What the first byte gives. -/
def headSign (a : Int) : Int := if l2Len a > 1 then Go.bits .and .i64 a (shr .i64 127 (IntKind.u64.wrap (l2Len a : Int))) else a
theorem spec_GetSign_walk (b : List Int) (p : Nat) (hb : Bytes b) (hl : b.length ≤ 4611686018427387904) (hp : p < b.length) :
    Ev (fun f => spec_GetSign.f f b (p : Int)) (if l2Len (b.getD p 0) = 0 ∨ p + l2Len (b.getD p 0) > b.length then (0, 0, false) else contSign b p (l2Len (b.getD p 0)) (l2Len (b.getD p 0) - 1) 1 (headSign (b.getD p 0))) := by
  have hr := hb.rd (p : Int)
  rw [rd_nat] at hr
  have h4 := l2Len_le (b.getD p 0)
  simp only [spec_GetSign.f, spec_l1In_eq, Option.bind_some, inR_true]
  rw [w64 (x := (b.length : Int) - 1) (by omega) (by omega)]
  refine ev_pos (by omega) (ev_pos (by omega) (ev_pos (by omega) ?_))
  rw [rd_nat]
  refine ev_call (spec_l2Len_eq _ hr.1 hr.2) ?_
  rw [w64 (x := (b.length : Int) - (p : Int)) (by omega) (by omega)]
  by_cases h0 : l2Len (b.getD p 0) = 0
  · rw [if_pos (Or.inl h0)]
    refine ev_pos (by omega) (ev_shift ?_)
    simp only [spec_GetSign.j0]
    exact ev_pos trivial (Ev.now _)
  · refine ev_neg (by omega) (ev_shift ?_)
    simp only [spec_GetSign.j0]
    by_cases h1 : p + l2Len (b.getD p 0) > b.length
    · rw [if_pos (Or.inr h1)]; exact ev_pos (by rw [decide_eq_true_eq]; omega) (Ev.now _)
    · rw [if_neg (by omega)]
      refine ev_neg (by rw [decide_eq_true_eq]; omega) (ev_pos (by omega) (ev_pos (by omega) ?_))
      rw [rd_nat, w64 (x := b.getD p 0) (by omega) (by omega)]
      unfold headSign
      by_cases h2 : l2Len (b.getD p 0) > 1
      · rw [if_pos h2]
        refine ev_pos (by omega) (ev_pos (by rw [u64_small _ h4]; omega) (ev_shift ?_))
        simp only [spec_GetSign.j1]
        exact spec_GetSign_l0 b p _ (by omega) hb hl _ 1 _ (by omega)
      · rw [if_neg h2]
        refine ev_neg (by omega) (ev_shift ?_)
        simp only [spec_GetSign.j1]
        exact spec_GetSign_l0 b p _ (by omega) hb hl _ 1 _ (by omega)
theorem contSign_none (b : List Int) (p k : Nat) (h : decL (b.drop p) = (65533, 1)) (d : Nat) : ∀ (i : Nat) (n : Int), contSign b p k d i n = (0, 0, false) := by
  induction d with
  | zero =>
    intro i n
    unfold contSign endSign
    exact if_neg fun z => decL_none h z.1 z.2
  | succ d ih =>
    intro i n
    unfold contSign
    by_cases hc : b.getD (p + i) 0 / 64 = 2
    · rw [if_pos hc]; exact ih _ _
    · rw [if_neg hc]
theorem or_64 {x y : Int} (h0 : 0 ≤ x) (h1 : x ≤ 100000000) (h2 : 0 ≤ y) (h3 : y < 64) : Go.bits .or .i64 (wrap64 (x * 64)) y = x * 64 + y := by
  rw [w64 (by omega) (by omega)]
  exact bits_join .i64 62 (by decide) wraps_i64 6 (x * 64) y (by omega) (by omega) (by omega) h2 (by omega) (by omega)
theorem and_i64_31 (x : Int) (h0 : 0 ≤ x) (h1 : x ≤ 255) : Go.bits .and .i64 x 31 = x % 32 := bits_mask .i64 62 (by decide) wraps_i64 5 (by decide) x h0 (by omega)
theorem and_i64_15 (x : Int) (h0 : 0 ≤ x) (h1 : x ≤ 255) : Go.bits .and .i64 x 15 = x % 16 := bits_mask .i64 62 (by decide) wraps_i64 4 (by decide) x h0 (by omega)
theorem and_i64_7 (x : Int) (h0 : 0 ≤ x) (h1 : x ≤ 255) : Go.bits .and .i64 x 7 = x % 8 := bits_mask .i64 62 (by decide) wraps_i64 3 (by decide) x h0 (by omega)
theorem shr_2 : shr .i64 127 (IntKind.u64.wrap ((2 : Nat) : Int)) = 31 := by decide
theorem shr_3 : shr .i64 127 (IntKind.u64.wrap ((3 : Nat) : Int)) = 15 := by decide
theorem shr_4 : shr .i64 127 (IntKind.u64.wrap ((4 : Nat) : Int)) = 7 := by decide
theorem contSign_enc (b : List Int) (p : Nat) (n : Int) (hs : signOk n = true) (he : enc n = (b.drop p).take (enc n).length) (hpk : p + (enc n).length ≤ b.length) :
    l2Len (b.getD p 0) = (enc n).length ∧ contSign b p (enc n).length ((enc n).length - 1) 1 (headSign (b.getD p 0)) = (n, (p : Int) + (enc n).length, true) := by
  have hg : ∀ i, i < (enc n).length → b.getD (p + i) 0 = (enc n).getD i 0 := by
    intro i hi
    have h1 : (enc n)[i]? = b[p + i]? := by
      have h2 : ((b.drop p).take (enc n).length)[i]? = b[p + i]? := by rw [List.getElem?_take_of_lt hi, List.getElem?_drop]
      rw [← he] at h2; exact h2
    rw [List.getD_eq_getElem?_getD, List.getD_eq_getElem?_getD, h1]
  have hend : ∀ m : Int, m = n → endSign b p (enc n).length m = (n, (p : Int) + (enc n).length, true) := by
    intro m hm; subst hm; unfold endSign; rw [if_pos ⟨hs, he⟩]
  rcases enc_cases hs with ⟨a, c, e⟩ | ⟨a, c, e⟩ | ⟨a, c, c2, e⟩ | ⟨a, c, e⟩
  · have g0 := hg 0 (by rw [e]; simp)
    rw [Nat.add_zero, e] at g0
    simp only [List.getD_cons_zero] at g0
    have hl : l2Len n = 1 := by unfold l2Len; rw [if_pos (by omega)]
    rw [g0, hl]
    refine ⟨by rw [e]; rfl, ?_⟩
    rw [show (enc n).length - 1 = 0 by rw [e]; rfl]
    unfold contSign
    refine hend _ ?_
    unfold headSign; rw [hl]; rfl
  · have g0 := hg 0 (by rw [e]; simp)
    have g1 := hg 1 (by rw [e]; simp)
    rw [e] at g0 g1
    rw [Nat.add_zero] at g0
    simp only [List.getD_cons_zero, List.getD_cons_succ] at g0 g1
    have hl : l2Len (192 + n / 64) = 2 := by unfold l2Len; rw [if_neg (by omega), if_pos (by omega)]
    have hh : headSign (192 + n / 64) = n / 64 := by
      unfold headSign; rw [hl, if_pos (by decide), shr_2, and_i64_31 _ (by omega) (by omega)]; omega
    rw [g0, hl, hh]
    refine ⟨by rw [e]; rfl, ?_⟩
    rw [show (enc n).length - 1 = 1 by rw [e]; rfl]
    unfold contSign
    rw [g1, if_pos (by omega), or_64 (by omega) (by omega) (by omega) (by omega)]
    unfold contSign
    exact hend _ (by omega)
  · have g0 := hg 0 (by rw [e]; simp)
    have g1 := hg 1 (by rw [e]; simp)
    have g2 := hg 2 (by rw [e]; simp)
    rw [e] at g0 g1 g2
    rw [Nat.add_zero] at g0
    simp only [List.getD_cons_zero, List.getD_cons_succ] at g0 g1 g2
    have hl : l2Len (224 + n / 4096) = 3 := by unfold l2Len; rw [if_neg (by omega), if_neg (by omega), if_pos (by omega)]
    have hh : headSign (224 + n / 4096) = n / 4096 := by
      unfold headSign; rw [hl, if_pos (by decide), shr_3, and_i64_15 _ (by omega) (by omega)]; omega
    rw [g0, hl, hh]
    refine ⟨by rw [e]; rfl, ?_⟩
    rw [show (enc n).length - 1 = 2 by rw [e]; rfl]
    unfold contSign
    rw [g1, if_pos (by omega), or_64 (by omega) (by omega) (by omega) (by omega)]
    unfold contSign
    rw [g2, if_pos (by omega), or_64 (by omega) (by omega) (by omega) (by omega)]
    unfold contSign
    exact hend _ (by omega)
  · have g0 := hg 0 (by rw [e]; simp)
    have g1 := hg 1 (by rw [e]; simp)
    have g2 := hg 2 (by rw [e]; simp)
    have g3 := hg 3 (by rw [e]; simp)
    rw [e] at g0 g1 g2 g3
    rw [Nat.add_zero] at g0
    simp only [List.getD_cons_zero, List.getD_cons_succ] at g0 g1 g2 g3
    have hl : l2Len (240 + n / 262144) = 4 := by unfold l2Len; rw [if_neg (by omega), if_neg (by omega), if_neg (by omega), if_pos (by omega)]
    have hh : headSign (240 + n / 262144) = n / 262144 := by
      unfold headSign; rw [hl, if_pos (by decide), shr_4, and_i64_7 _ (by omega) (by omega)]; omega
    rw [g0, hl, hh]
    refine ⟨by rw [e]; rfl, ?_⟩
    rw [show (enc n).length - 1 = 3 by rw [e]; rfl]
    unfold contSign
    rw [g1, if_pos (by omega), or_64 (by omega) (by omega) (by omega) (by omega)]
    unfold contSign
    rw [g2, if_pos (by omega), or_64 (by omega) (by omega) (by omega) (by omega)]
    unfold contSign
    rw [g3, if_pos (by omega), or_64 (by omega) (by omega) (by omega) (by omega)]
    unfold contSign
    exact hend _ (by omega)
theorem spec_GetSign_ev (b : List Int) (p : Int) (hb : Bytes b) (hl : b.length ≤ 4611686018427387904) : Ev (fun f => spec_GetSign.f f b p) (getSign b p) := by
  unfold getSign
  by_cases hp : 0 ≤ p ∧ p < b.length
  · rw [if_pos hp]
    obtain ⟨p, rfl⟩ := Int.eq_ofNat_of_zero_le hp.1
    rw [Int.toNat_natCast]
    have hpl : p < b.length := by omega
    refine ev_is (spec_GetSign_walk b p hb hl hpl) ?_
    by_cases hd : decL (b.drop p) = (65533, 1)
    · rw [if_pos hd]
      by_cases h1 : l2Len (b.getD p 0) = 0 ∨ p + l2Len (b.getD p 0) > b.length
      · rw [if_pos h1]
      · rw [if_neg h1]; exact contSign_none b p _ hd _ _ _
    · rw [if_neg hd]
      obtain ⟨hs, he, hk⟩ := decL_sound (b.drop p) (hb.drop p) (by intro z; have := congrArg List.length z; simp at this; omega) hd
      have hle : (enc ((decL (b.drop p)).1 : Int)).length ≤ (b.drop p).length := by have h9 := congrArg List.length he; rw [List.length_append] at h9; omega
      have he2 : enc ((decL (b.drop p)).1 : Int) = (b.drop p).take (enc ((decL (b.drop p)).1 : Int)).length := (take_of he rfl).symm
      rw [List.length_drop] at hle
      obtain ⟨h1, h2⟩ := contSign_enc b p _ hs he2 (by omega)
      rw [h1, if_neg (by have := enc_pos ((decL (b.drop p)).1 : Int); omega), h2, hk]
  · rw [if_neg hp]
    simp only [spec_GetSign.f, spec_l1In_eq, Option.bind_some, inR_true]
    rw [w64 (x := (b.length : Int) - 1) (by omega) (by omega)]
    exact ev_neg (by omega) (Ev.now _)
theorem set_at_one (x : Int) (l : List Int) : l.set (1 : Int).toNat x = l.set 1 x := rfl
theorem good_of {b : List Int} : (getSign b 0).2.2 = good b := rfl
theorem and_good {f : Nat → Option (Int × Int × Bool)} {g : Nat → Option (Int × Int × Bool)} {a b : List Int} {r : Bool} (h1 : Ev f (getSign a 0)) (h2 : Ev g (getSign b 0)) (h : (good a && good b) = r) :
    Ev (fun k => (f k).bind fun x => (g k).bind fun y => if x.2.2 = true then some y.2.2 else some false) r := by
  refine ev_bind h1 (ev_bind h2 ?_)
  rw [good_of, good_of]
  by_cases z : good a = true
  · rw [z, Bool.true_and] at h; exact ev_pos z (ev_is (Ev.now _) h)
  · rw [Bool.eq_false_iff.2 z, Bool.false_and] at h; exact ev_neg z (ev_is (Ev.now _) h)
theorem spec_l6Utf_end (l : List Int) (hb : Bytes l) (hl : l ≠ []) (h : l.length < l2Len (l.getD 0 0)) :
    Ev (fun k => spec_l6Utf.l0 k l (l2Len (l.getD 0 0) : Nat) (l ++ List.replicate (l2Len (l.getD 0 0) - l.length) 128) (l ++ List.replicate (l2Len (l.getD 0 0) - l.length) 191)) (begUtf l) := by
  have h0 : 0 < l.length := List.length_pos_iff.2 hl
  have h4 := l2Len_le (l.getD 0 0)
  have hr := hb.rd 0
  have er : rd l 0 = l.getD 0 0 := rd_nat l 0
  rw [er] at hr
  have lenL : ∀ x : Int, (l ++ List.replicate (l2Len (l.getD 0 0) - l.length) x).length = l2Len (l.getD 0 0) := fun x => by rw [List.length_append, List.length_replicate]; omega
  have byL : ∀ x : Int, 0 ≤ x ∧ x ≤ 255 → Bytes (l ++ List.replicate (l2Len (l.getD 0 0) - l.length) x) := fun x hx => hb.append (fun y hy => by
    have := (List.mem_replicate.1 hy).2
    omega)
  have bySet : ∀ (a : List Int) (x : Int), Bytes a → 0 ≤ x ∧ x ≤ 255 → Bytes (a.set 1 x) := fun a x ha hx y hy => by
    rcases List.mem_or_eq_of_mem_set hy with z | z
    · exact ha y z
    · omega
  refine ev_shift ?_
  simp only [spec_l6Utf.l0, set_at_one, er]
  refine ev_neg (by rw [lenL]; omega) ?_
  have ev : ∀ a : List Int, Bytes a → a.length ≤ 8 → Ev (fun k => spec_GetSign.f k a 0) (getSign a 0) := fun a ha hl => spec_GetSign_ev a 0 ha (by omega)
  have bl := byL 128 (by omega); have bh := byL 191 (by omega)
  have nl := lenL 128; have nh := lenL 191
  by_cases h1 : l.length = 1
  · obtain ⟨a, rfl⟩ := List.length_eq_one_iff.1 h1
    have k := one_good hr.1 hr.2 (by omega)
    simp only [List.getD_cons_zero, List.length_singleton, List.singleton_append] at k nl nh bl bh h h4 ⊢
    generalize hL : a :: List.replicate (l2Len a - 1) 128 = L at *
    generalize hH : a :: List.replicate (l2Len a - 1) 191 = H at *
    unfold fixLow fixHigh at k
    refine ev_pos (by simp) (ev_pos (by simp) ?_)
    by_cases a0 : a = 224
    · rw [if_pos a0, if_neg (by omega), if_neg (by omega)] at k
      exact ev_pos a0 (ev_pos (by omega) (and_good (ev _ (bySet _ _ bl (by omega)) (by rw [List.length_set]; omega)) (ev _ bh (by omega)) (by rw [k.1, k.2.1, k.2.2]; rfl)))
    · refine ev_neg a0 ?_
      by_cases a1 : a = 237
      · rw [if_neg a0, if_neg (by omega), if_pos a1] at k
        exact ev_pos a1 (ev_pos (by omega) (and_good (ev _ bl (by omega)) (ev _ (bySet _ _ bh (by omega)) (by rw [List.length_set]; omega)) (by rw [k.1, k.2.1, k.2.2]; rfl)))
      · refine ev_neg a1 ?_
        by_cases a2 : a = 240
        · rw [if_neg a0, if_pos a2, if_neg a1, if_neg (by omega)] at k
          exact ev_pos a2 (ev_pos (by omega) (and_good (ev _ (bySet _ _ bl (by omega)) (by rw [List.length_set]; omega)) (ev _ bh (by omega)) (by rw [k.1, k.2.1, k.2.2]; rfl)))
        · refine ev_neg a2 ?_
          by_cases a3 : a = 244
          · rw [if_neg a0, if_neg a2, if_neg a1, if_pos a3] at k
            exact ev_pos a3 (ev_pos (by omega) (and_good (ev _ bl (by omega)) (ev _ (bySet _ _ bh (by omega)) (by rw [List.length_set]; omega)) (by rw [k.1, k.2.1, k.2.2]; rfl)))
          · rw [if_neg a0, if_neg a2, if_neg a1, if_neg a3] at k
            exact ev_neg a3 (and_good (ev _ bl (by omega)) (ev _ bh (by omega)) (by rw [k.1, k.2.1, k.2.2]; rfl))
  · refine ev_neg (by omega) (and_good (ev _ bl (by omega)) (ev _ bh (by omega)) ?_)
    rw [more_good hb 128 (.inl rfl) (by omega) h, more_good hb 191 (.inr rfl) (by omega) h, Bool.and_self]
theorem spec_l6Utf_l0 (l : List Int) (sz : Nat) (hsz : sz ≤ 4) (r : Bool) (d : Nat) : ∀ low high : List Int, low.length + d = sz → high.length + d = sz →
    Ev (fun k => spec_l6Utf.l0 k l (sz : Int) (low ++ List.replicate d 128) (high ++ List.replicate d 191)) r → Ev (fun k => spec_l6Utf.l0 k l (sz : Int) low high) r := by
  induction d with
  | zero => intro low high _ _ h; simpa using h
  | succ d ih =>
    intro low high h1 h2 h
    refine ev_shift ?_
    simp only [spec_l6Utf.l0]
    refine ev_pos (by omega) (ev_pos (by omega) (ev_pos (by omega) (ih (low ++ [128]) (high ++ [191]) (by rw [List.length_append]; show low.length + 1 + d = sz; omega) (by rw [List.length_append]; show high.length + 1 + d = sz; omega) ?_)))
    rw [List.append_assoc, List.append_assoc]
    exact h
theorem spec_l6Utf_ev (l : List Int) (hb : Bytes l) (hlen : l.length ≤ 4611686018427387904) : Ev (fun k => spec_l6Utf.f k l) (begUtf l) := by
  simp only [spec_l6Utf.f]
  by_cases hl : l = []
  · subst hl; exact ev_pos (by simp) (ev_is (Ev.now _) rfl)
  · have h0 : 0 < l.length := List.length_pos_iff.2 hl
    have hr := hb.rd 0
    have er : rd l 0 = l.getD 0 0 := rd_nat l 0
    refine ev_neg (by omega) (ev_pos (by omega) (ev_call (spec_l2Len_eq _ hr.1 hr.2) ?_))
    rw [er]
    have h4 := l2Len_le (l.getD 0 0)
    by_cases h : (l2Len (l.getD 0 0) : Nat) ≤ l.length
    · exact ev_pos (by omega) (ev_is (Ev.now _) (beg_short hb h (byte_nat hb 0)).symm)
    · simp only [Option.bind_some, List.nil_append, List.length_nil, Nat.zero_add]
      refine ev_neg (by omega) (ev_pos (by omega) (ev_pos (by omega) ?_))
      exact spec_l6Utf_l0 l _ h4 _ (l2Len (l.getD 0 0) - l.length) l l (by omega) (by omega) (spec_l6Utf_end l hb hl (by omega))
theorem begins_5 (l : List Int) : begins 5 l = (decide (l.length = 1) && inR (rd l 0) 164 165) := by unfold begins; rw [if_neg (by decide), if_pos rfl]
theorem begins_0 (l : List Int) : begins 0 l = begUtf l := by unfold begins; rw [if_pos rfl]
theorem begins_no {cs : Int} (c0 : cs ≠ 0) (c5 : cs ≠ 5) (l : List Int) : begins cs l = false := by unfold begins; rw [if_neg c0, if_neg c5]
theorem spec_l6Begins_ev (cs : Int) (l : List Int) (hb : Bytes l) (hl : l.length ≤ 4611686018427387904) : Ev (fun k => spec_l6Begins.f k cs l) (begins cs l) := by
  simp only [spec_l6Begins.f]
  by_cases c5 : cs = 5
  · subst c5
    rw [begins_5]
    refine ev_pos rfl ?_
    by_cases h1 : l.length = 1
    · rw [decide_eq_true h1, Bool.true_and]
      refine ev_pos (by omega) (ev_pos (by omega) ?_)
      by_cases h2 : rd l 0 = 164
      · exact ev_pos h2 (ev_is (Ev.now _) (by rw [h2]; rfl))
      · refine ev_neg h2 (ev_is (Ev.now _) ?_)
        rw [Bool.eq_iff_iff, beq_iff_eq, inR_true]; omega
    · rw [decide_eq_false h1, Bool.false_and]; exact ev_neg (by omega) (Ev.now _)
  · refine ev_neg c5 ?_
    by_cases c0 : cs = 0
    · subst c0; rw [begins_0]; exact ev_pos rfl (ev_bind (spec_l6Utf_ev l hb hl) (Ev.now _))
    · rw [begins_no c0 c5]; exact ev_neg c0 (Ev.now _)
theorem spec_DecOk_ev (cs : Int) (l : List Int) (c : Bool) (hb : Bytes l) (hl : l.length ≤ 4611686018427387904) : Ev (fun k => spec_DecOk.f k cs l c) (decOk cs l c) := by
  simp only [spec_DecOk.f]
  refine ev_call (spec_l5Cs_eq cs) ?_
  unfold decOk
  by_cases h : inR cs 0 5 = true
  · rw [h, Bool.true_and]
    refine ev_pos rfl ?_
    by_cases hn : l = []
    · subst hn; exact ev_pos (by simp) (ev_is (Ev.now _) (by simp))
    · have h1 : 0 < l.length := List.length_pos_iff.2 hn
      rw [decide_eq_false hn, Bool.false_or]
      refine ev_neg (by omega) ?_
      cases c with
      | true => exact ev_pos rfl (Ev.now _)
      | false => exact ev_neg (by simp) (ev_bind (spec_l6Begins_ev cs l hb hl) (ev_is (Ev.now _) (by simp)))
  · rw [Bool.eq_false_iff.2 h, Bool.false_and]; exact ev_neg (by simp) (Ev.now _)
theorem toByteS_l0 (l : List Int) (hl : l.length ≤ 140737488355328) (d : Nat) : ∀ (i : Nat) (x : List Int), i + d = l.length → x.length = l.length → (∀ j, j < i → x[j]? = l[j]?) → Ev (fun k => laws_toByteS.l0 k l x (i : Int)) l := by
  induction d with
  | zero =>
    intro i x h hx hj
    refine ev_shift ?_
    simp only [laws_toByteS.l0]
    refine ev_neg (by omega) (ev_is (Ev.now _) (List.ext_getElem? fun j => ?_))
    by_cases hji : j < i
    · exact hj j hji
    · rw [List.getElem?_eq_none (by omega), List.getElem?_eq_none (by omega)]
  | succ d ih =>
    intro i x h hx hj
    refine ev_shift ?_
    simp only [laws_toByteS.l0, next_nat i (by omega)]
    refine ev_pos (by omega) (ev_pos (by omega) (ev_pos (by omega) (ih (i + 1) _ (by omega) (by simpa using hx) fun j hji => ?_)))
    have hi : i < l.length := by omega
    rw [rd_lt l i hi, Int.toNat_natCast]
    by_cases e : j = i
    · subst e; rw [List.getElem?_set_self (by omega), List.getElem?_eq_getElem hi]
    · rw [List.getElem?_set_ne (by omega)]; exact hj j (by omega)
theorem toByteS_ev (l : List Int) (hl : l.length ≤ 140737488355328) : Ev (fun k => laws_toByteS.f k l) l := by
  simp only [laws_toByteS.f]
  exact ev_pos (by omega) (ev_pos (by omega) (toByteS_l0 l hl l.length 0 _ (by omega) (by simp) fun j hj => by omega))
theorem toDec_ev (t : Int) (l : List Int) (c : Bool) (hl : l.length ≤ 140737488355328) : Ev (fun k => laws_toDec.f k t l c) (t, l, c) := by
  simp only [laws_toDec.f]
  exact ev_bind (toByteS_ev l hl) (Ev.now _)
theorem impl_within_eq (a b c : Int) : impl_within.f a b c = some (inR a b c) := by
  unfold impl_within.f inR; by_cases h : a ≥ b <;> simp [h]
theorem impl_isSet_eq (n : Int) : impl_isSet.f n = some (inR n 0 5) := by
  unfold impl_isSet.f; simp only [impl_within_eq, Option.bind_some]
theorem impl_begins_eq (cs : Int) (l : List Int) (hb : Bytes l) : impl_begins.f cs l = some (begins cs l) := by
  unfold impl_begins.f begins begUtf
  by_cases hl : l = []
  · subst hl
    rw [if_pos (by simp), if_pos rfl]
    by_cases c0 : cs = 0
    · rw [if_pos c0]
    · rw [if_neg c0]; simp
  · have h1 : 0 < l.length := List.length_pos_iff.2 hl
    rw [if_neg (by omega), if_neg hl]
    by_cases c0 : cs = 0
    · rw [if_pos c0, if_pos c0]
      have e : utf8_FullRune.f l = some (fullR l) := by unfold utf8_FullRune.f; rw [if_pos (bytesOk_iff.2 hb)]
      rw [e]; rfl
    · rw [if_neg c0, if_neg c0]
      by_cases c5 : cs = 5
      · rw [if_pos c5, if_pos c5]
        have r0 := hb.rd 0
        by_cases h2 : l.length = 1
        · rw [if_pos (by omega), if_pos (by omega), w64 (by omega) (by omega), impl_within_eq, decide_eq_true h2]; simp
        · rw [if_neg (by omega), decide_eq_false h2]; simp
      · rw [if_neg c5, if_neg c5]
theorem impl_DecOk_eq (cs : Int) (l : List Int) (c : Bool) (hb : Bytes l) : impl_DecOk.f cs l c = some (decOk cs l c) := by
  unfold impl_DecOk.f decOk
  rw [impl_isSet_eq]
  simp only [Option.bind_some]
  by_cases h : inR cs 0 5 = true
  · rw [if_pos h, h, Bool.true_and]
    by_cases hl : l = []
    · subst hl; simp
    · have h1 : 0 < l.length := List.length_pos_iff.2 hl
      rw [if_neg (by omega), decide_eq_false hl, impl_begins_eq cs l hb]
      cases c <;> simp
  · rw [if_neg h, Bool.eq_false_iff.2 h]; rfl
theorem eqByteS_l0 (a b : List Int) (hl : a.length ≤ 4611686018427387904) (hab : a.length = b.length) (d : Nat) : ∀ (i : Nat), i + d = a.length → (∀ j, j < i → a[j]? = b[j]?) → Ev (fun k => laws_eqByteS.l0 k a b (i : Int)) (decide (a = b)) := by
  induction d with
  | zero =>
    intro i h hj
    refine ev_shift ?_
    simp only [laws_eqByteS.l0]
    refine ev_neg (by omega) (ev_is (Ev.now _) ?_)
    rw [eq_comm, decide_eq_true_eq]
    refine List.ext_getElem? fun j => ?_
    by_cases hji : j < i
    · exact hj j hji
    · rw [List.getElem?_eq_none (by omega), List.getElem?_eq_none (by omega)]
  | succ d ih =>
    intro i h hj
    refine ev_shift ?_
    simp only [laws_eqByteS.l0, next_nat i (by omega)]
    have hi : i < a.length := by omega
    have hi2 : i < b.length := by omega
    refine ev_pos (by omega) (ev_pos (by omega) (ev_pos (by omega) ?_))
    by_cases e : rd a (i : Int) = rd b (i : Int)
    · refine ev_pos e (ih (i + 1) (by omega) fun j hji => ?_)
      by_cases e2 : j = i
      · subst e2; rw [rd_lt a j hi, rd_lt b j hi2] at e; rw [List.getElem?_eq_getElem hi, List.getElem?_eq_getElem hi2, e]
      · exact hj j (by omega)
    · refine ev_neg e (ev_is (Ev.now _) ?_)
      rw [eq_comm, decide_eq_false_iff_not]
      intro hE; subst hE; exact e rfl
theorem eqByteS_ev (a b : List Int) (hl : a.length ≤ 4611686018427387904) : Ev (fun k => laws_eqByteS.f k a b) (decide (a = b)) := by
  simp only [laws_eqByteS.f]
  by_cases e : (a.length : Int) = (b.length : Int)
  · exact ev_pos e (eqByteS_l0 a b hl (by omega) a.length 0 (by omega) fun j hj => by omega)
  · refine ev_neg e (ev_is (Ev.now _) ?_)
    rw [eq_comm, decide_eq_false_iff_not]
    intro hE; subst hE; exact e rfl
theorem eqByteS_self (a : List Int) (hl : a.length ≤ 4611686018427387904) : Ev (fun k => laws_eqByteS.f k a a) true := ev_is (eqByteS_ev a a hl) (by simp)
theorem eqDec_ev (a : Int) (l : List Int) (c : Bool) (a' : Int) (l' : List Int) (c' : Bool) (hl : l.length ≤ 4611686018427387904) : Ev (fun k => laws_eqDec.f k a l c a' l' c') (decide ((a, l, c) = (a', l', c'))) := by
  simp only [laws_eqDec.f]
  by_cases h : a = a'
  · refine ev_pos h (ev_bind (eqByteS_ev l l' hl) ?_)
    by_cases h2 : l = l'
    · refine ev_pos (by simpa using h2) ?_
      by_cases h3 : c = c'
      · exact ev_neg (by simp [h3]) (ev_is (Ev.now _) (by simp [h, h2, h3]))
      · exact ev_pos (by simpa using h3) (ev_is (Ev.now _) (by simp [h3]))
    · exact ev_neg (by simpa using h2) (ev_is (Ev.now _) (by simp [h2]))
  · exact ev_neg h (ev_is (Ev.now _) (by simp [h]))
theorem eqDec_self (a : Int) (l : List Int) (c : Bool) (hl : l.length ≤ 4611686018427387904) : Ev (fun k => laws_eqDec.f k a l c a l c) true := ev_is (eqDec_ev a l c a l c hl) (by simp)

theorem FnExactDecOk : ∀ (a0 : Int) (l0 : List Int) (b0 : Bool), (Lit.int .i64 a0).wf = true → l0.length ≤ maxLen → (∀ x ∈ l0, (Lit.int .u8 x).wf = true) → ∃ k, laws_FnExactDecOk.f k a0 l0 b0 = some true := by
  intro t l c _ hm hb0
  have hb := Bytes.of hb0
  have hmi : (l.length : Int) ≤ 9223372036854775807 := by unfold maxLen at hm; omega
  apply Ev.rounds
  simp only [laws_FnExactDecOk.f]
  refine ev_call (szDec_eq t l c hmi) ?_
  by_cases h : (l.length : Int) > 1048576
  · rw [if_pos h]; exact ev_pos (by omega) (Ev.now _)
  · rw [if_neg h]
    refine ev_neg (by omega) (ev_bind (toDec_ev t l c (by omega)) (ev_bind (spec_DecOk_ev t l c hb (by omega)) (ev_bind (toDec_ev t l c (by omega)) (ev_call (impl_DecOk_eq t l c hb) (ev_neg (by simp) ?_)))))
    exact ev_bind (toDec_ev t l c (by omega)) (ev_bind (eqDec_self t l c (by omega)) (ev_pos rfl (Ev.now _)))

end Go.Proofs.YtkpnhefgelkmhaaDoor.Pure
