/- The law FnExactUtf8Ok answers true at every text: the program's Utf8Ok tells what the reference's tells. -/
import Derived.Test.YtfbogcecphnjeaaDoorQFnExactUtf8Okx3
import Derived.Test.YtfbogcecphnjeaaDoorModel
import Derived.Test.YtfbogcecphnjeaaDoorModelC
import Derived.Test.YtfbogcecphnjeaaDoorModelS
import Derived.Test.YtfbogcecphnjeaaDoorModelU
namespace Go.Proofs.YtfbogcecphnjeaaDoor.Pure
open Go.RowKit Go.Proofs.YtfbogcecphnjeaaDoor.QFnExactUtf8Ok Go.Proofs.YtfbogcecphnjeaaDoorW.PrintWords Go.Proofs.YtfbogcecphnjeaaDoorW.PrintLast Go.Proofs.YtfbogcecphnjeaaDoor.Ext Go.Proofs.YtfbogcecphnjeaaDoor.Xw Go.Proofs.YtfbogcecphnjeaaDoor.Base Go.Proofs.YtfbogcecphnjeaaDoor.Model

theorem spec_l1In_eq (a b c : Int) : spec_l1In.f a b c = some (inR a b c) := by
  unfold spec_l1In.f inR; by_cases h : a ≥ b <;> simp [h]
theorem spec_l2Len_eq (a : Int) (h0 : 0 ≤ a) (h1 : a ≤ 255) : spec_l2Len.f a = some ((l2Len a : Nat) : Int) := by
  unfold spec_l2Len.f l2Len
  rw [w64 (by omega) (by omega)]
  simp only [spec_l1In_eq, Option.bind_some, inR_true]
  by_cases c1 : a < 128
  · rw [if_pos c1, if_pos c1]; rfl
  · by_cases c2 : 194 ≤ a ∧ a ≤ 223
    · rw [if_neg c1, if_pos c2, if_neg c1, if_pos c2]; rfl
    · by_cases c3 : 224 ≤ a ∧ a ≤ 239
      · rw [if_neg c1, if_neg c2, if_pos c3, if_neg c1, if_neg c2, if_pos c3]; rfl
      · by_cases c4 : 240 ≤ a ∧ a ≤ 244
        · rw [if_neg c1, if_neg c2, if_neg c3, if_pos c4, if_neg c1, if_neg c2, if_neg c3, if_pos c4]; rfl
        · rw [if_neg c1, if_neg c2, if_neg c3, if_neg c4, if_neg c1, if_neg c2, if_neg c3, if_neg c4]; rfl
theorem spec_SignOk_eq (n : Int) : spec_SignOk.f n = some (signOk n) := by
  unfold spec_SignOk.f signOk
  simp only [spec_l1In_eq, Option.bind_some]
  cases inR n 0 1114111 <;> simp
theorem spec_PutSign_eq (b : List Int) (n : Int) (h : b.length + 4 < 140737488355328) : spec_PutSign.f b n = some (putSign b n) := by
  have hb : b.length < 140737488355328 := by omega
  unfold spec_PutSign.f putSign encOk
  simp only [Option.bind_some, List.length_nil, Nat.zero_add, List.nil_append, if_pos hb, spec_SignOk_eq]
  by_cases h1 : signOk n = true
  · have hr := signOk_iff.1 h1
    rw [if_pos h1, if_pos h1]
    unfold enc
    simp only [and_63, List.length_cons, List.length_nil]
    by_cases h2 : n ≤ 127
    · rw [if_pos h2, if_pos h2, show n % 256 = n by omega]
    · by_cases h3 : n ≤ 2047
      · rw [if_neg h2, if_pos h3, if_neg h2, if_pos h3, or_192 (by omega) (by omega), or_128 (by omega) (by omega), if_pos (by omega), show (192 + n / 64) % 256 = 192 + n / 64 by omega, show (128 + n % 64) % 256 = 128 + n % 64 by omega]
      · by_cases h4 : n ≤ 65535
        · rw [if_neg h2, if_neg h3, if_pos h4, if_neg h2, if_neg h3, if_pos h4, or_224 (by omega) (by omega), or_128 (by omega) (by omega), or_128 (by omega) (by omega), if_pos (by omega), show (224 + n / 4096) % 256 = 224 + n / 4096 by omega, show (128 + n / 64 % 64) % 256 = 128 + n / 64 % 64 by omega, show (128 + n % 64) % 256 = 128 + n % 64 by omega]
        · rw [if_neg h2, if_neg h3, if_neg h4, if_neg h2, if_neg h3, if_neg h4, or_240 (by omega) (by omega), or_128 (by omega) (by omega), or_128 (by omega) (by omega), or_128 (by omega) (by omega), if_pos (by omega), show (240 + n / 262144) % 256 = 240 + n / 262144 by omega, show (128 + n / 4096 % 64) % 256 = 128 + n / 4096 % 64 by omega, show (128 + n / 64 % 64) % 256 = 128 + n / 64 % 64 by omega, show (128 + n % 64) % 256 = 128 + n % 64 by omega]
  · rw [if_neg h1, if_neg h1]; simp
/-- The end: is it a sign, and do its bytes stand there? -/
def endSign (b : List Int) (p k : Nat) (n : Int) : Int × Int × Bool := if signOk n = true ∧ enc n = (b.drop p).take k then (n, (p : Int) + k, true) else (0, 0, false)
theorem spec_GetSign_end (b : List Int) (p k : Nat) (n : Int) (hpk : p + k ≤ b.length) (hb : Bytes b) (hl : b.length ≤ 4611686018427387904) :
    Ev (fun f => spec_GetSign.l0 f b (p : Int) (k : Int) n (k : Int)) (endSign b p k n) := by
  refine ev_shift ?_
  have e : wrap64 ((p : Int) + (k : Int)) = ((p + k : Nat) : Int) := by rw [w64 (by omega) (by omega)]; omega
  have e2 : (b.take (p + k)).drop p = (b.drop p).take k := by rw [List.drop_take]; congr 1; omega
  simp only [spec_GetSign.l0, e, Int.toNat_natCast, e2]
  refine ev_neg (by omega) (ev_call (spec_SignOk_eq n) ?_)
  unfold endSign
  by_cases hs : signOk n = true
  · refine ev_pos hs (ev_call (spec_PutSign_eq [] n (by simp)) (ev_pos (by omega) (ev_pos (by omega) (ev_pos (by omega) ?_))))
    have e3 : putSign [] n = enc n := by unfold putSign encOk; rw [if_pos hs]; rfl
    rw [e3]
    by_cases he : enc n = (b.drop p).take k
    · have hE : (if signOk n = true ∧ enc n = (b.drop p).take k then (n, (p : Int) + (k : Int), true) else (0, 0, false)) = (n, (p : Int) + (k : Int), true) := if_pos ⟨hs, he⟩
      rw [hE]; exact ev_pos (by rw [he]) (ev_is (Ev.now _) (by simp))
    · have hE : (if signOk n = true ∧ enc n = (b.drop p).take k then (n, (p : Int) + (k : Int), true) else (0, 0, false)) = (0, 0, false) := if_neg (fun z => he z.2)
      rw [hE]; exact ev_neg (fun z => he (strOfNums_inj (enc_bytes hs) ((hb.drop p).take k) z)) (Ev.now _)
  · have hE : (if signOk n = true ∧ enc n = (b.drop p).take k then (n, (p : Int) + (k : Int), true) else (0, 0, false)) = (0, 0, false) := if_neg (fun z => hs z.1)
    rw [hE]; exact ev_neg hs (Ev.now _)
/-- The bytes behind the first, one by one. -/
def contSign (b : List Int) (p k : Nat) : Nat → Nat → Int → Int × Int × Bool
  | 0, _, n => endSign b p k n
  | d + 1, i, n => if b.getD (p + i) 0 / 64 = 2 then contSign b p k d (i + 1) (Go.bits .or .i64 (wrap64 (n * 64)) (b.getD (p + i) 0 % 64)) else (0, 0, false)
theorem spec_GetSign_l0 (b : List Int) (p k : Nat) (hpk : p + k ≤ b.length) (hb : Bytes b) (hl : b.length ≤ 4611686018427387904) (d : Nat) :
    ∀ (i : Nat) (n : Int), i + d = k → Ev (fun f => spec_GetSign.l0 f b (p : Int) (k : Int) n (i : Int)) (contSign b p k d i n) := by
  induction d with
  | zero => intro i n h; obtain rfl : i = k := (by omega); exact spec_GetSign_end b p i n hpk hb hl
  | succ d ih =>
    intro i n h
    refine ev_shift ?_
    have e : wrap64 ((p : Int) + (i : Int)) = ((p + i : Nat) : Int) := by rw [w64 (by omega) (by omega)]; omega
    have hr := hb.rd ((p + i : Nat) : Int)
    rw [rd_nat] at hr
    have e2 : wrap64 (Go.bits .and .u8 (b.getD (p + i) 0) 63) = b.getD (p + i) 0 % 64 := by rw [u8_and63 _ (by omega) (by omega), w64 (by omega) (by omega)]
    simp only [spec_GetSign.l0, e, rd_nat, and192 hr.1 hr.2, e2, next_nat i (by omega)]
    refine ev_pos (by omega) (ev_pos (by omega) (ev_pos (by omega) ?_))
    unfold contSign
    by_cases hc : b.getD (p + i) 0 / 64 = 2
    · rw [if_pos hc]; exact ev_pos (by omega) (ih (i + 1) _ (by omega))
    · rw [if_neg hc]; exact ev_neg (by omega) (Ev.now _)
theorem u64_small (n : Nat) (h : n ≤ 4) : IntKind.u64.wrap (n : Int) = (n : Int) := by
  simp [IntKind.wrap, IntKind.bits, IntKind.signed]; omega
/-- What the first byte gives. -/
def headSign (a : Int) : Int := if l2Len a > 1 then Go.bits .and .i64 a (shr .i64 127 (IntKind.u64.wrap (l2Len a : Int))) else a
theorem spec_GetSign_walk (b : List Int) (p : Nat) (hb : Bytes b) (hl : b.length ≤ 4611686018427387904) (hp : p < b.length) :
    Ev (fun f => spec_GetSign.f f b (p : Int)) (if l2Len (b.getD p 0) = 0 ∨ p + l2Len (b.getD p 0) > b.length then (0, 0, false) else contSign b p (l2Len (b.getD p 0)) (l2Len (b.getD p 0) - 1) 1 (headSign (b.getD p 0))) := by
  have hr := hb.rd (p : Int)
  rw [rd_nat] at hr
  have h4 := l2Len_le (b.getD p 0)
  simp only [spec_GetSign.f, spec_l1In_eq, Option.bind_some, inR_true]
  rw [w64 (x := (b.length : Int) - 1) (by omega) (by omega)]
  refine ev_pos (by omega) (ev_pos (by omega) (ev_pos (by omega) ?_))
  rw [rd_nat]
  refine ev_call (spec_l2Len_eq _ hr.1 hr.2) ?_
  rw [w64 (x := (b.length : Int) - (p : Int)) (by omega) (by omega)]
  by_cases h0 : l2Len (b.getD p 0) = 0
  · rw [if_pos (Or.inl h0)]
    refine ev_pos (by omega) (ev_shift ?_)
    simp only [spec_GetSign.j0]
    exact ev_pos trivial (Ev.now _)
  · refine ev_neg (by omega) (ev_shift ?_)
    simp only [spec_GetSign.j0]
    by_cases h1 : p + l2Len (b.getD p 0) > b.length
    · rw [if_pos (Or.inr h1)]; exact ev_pos (by rw [decide_eq_true_eq]; omega) (Ev.now _)
    · rw [if_neg (by omega)]
      refine ev_neg (by rw [decide_eq_true_eq]; omega) (ev_pos (by omega) (ev_pos (by omega) ?_))
      rw [rd_nat, w64 (x := b.getD p 0) (by omega) (by omega)]
      unfold headSign
      by_cases h2 : l2Len (b.getD p 0) > 1
      · rw [if_pos h2]
        refine ev_pos (by omega) (ev_pos (by rw [u64_small _ h4]; omega) (ev_shift ?_))
        simp only [spec_GetSign.j1]
        exact spec_GetSign_l0 b p _ (by omega) hb hl _ 1 _ (by omega)
      · rw [if_neg h2]
        refine ev_neg (by omega) (ev_shift ?_)
        simp only [spec_GetSign.j1]
        exact spec_GetSign_l0 b p _ (by omega) hb hl _ 1 _ (by omega)
theorem contSign_none (b : List Int) (p k : Nat) (h : decL (b.drop p) = (65533, 1)) (d : Nat) : ∀ (i : Nat) (n : Int), contSign b p k d i n = (0, 0, false) := by
  induction d with
  | zero =>
    intro i n
    unfold contSign endSign
    exact if_neg fun z => decL_none h z.1 z.2
  | succ d ih =>
    intro i n
    unfold contSign
    by_cases hc : b.getD (p + i) 0 / 64 = 2
    · rw [if_pos hc]; exact ih _ _
    · rw [if_neg hc]
theorem or_64 {x y : Int} (h0 : 0 ≤ x) (h1 : x ≤ 100000000) (h2 : 0 ≤ y) (h3 : y < 64) : Go.bits .or .i64 (wrap64 (x * 64)) y = x * 64 + y := by
  rw [w64 (by omega) (by omega)]
  exact bits_join .i64 62 (by decide) wraps_i64 6 (x * 64) y (by omega) (by omega) (by omega) h2 (by omega) (by omega)
theorem and_i64_31 (x : Int) (h0 : 0 ≤ x) (h1 : x ≤ 255) : Go.bits .and .i64 x 31 = x % 32 := bits_mask .i64 62 (by decide) wraps_i64 5 (by decide) x h0 (by omega)
theorem and_i64_15 (x : Int) (h0 : 0 ≤ x) (h1 : x ≤ 255) : Go.bits .and .i64 x 15 = x % 16 := bits_mask .i64 62 (by decide) wraps_i64 4 (by decide) x h0 (by omega)
theorem and_i64_7 (x : Int) (h0 : 0 ≤ x) (h1 : x ≤ 255) : Go.bits .and .i64 x 7 = x % 8 := bits_mask .i64 62 (by decide) wraps_i64 3 (by decide) x h0 (by omega)
theorem shr_2 : shr .i64 127 (IntKind.u64.wrap ((2 : Nat) : Int)) = 31 := by decide
theorem shr_3 : shr .i64 127 (IntKind.u64.wrap ((3 : Nat) : Int)) = 15 := by decide
theorem shr_4 : shr .i64 127 (IntKind.u64.wrap ((4 : Nat) : Int)) = 7 := by decide
theorem contSign_enc (b : List Int) (p : Nat) (n : Int) (hs : signOk n = true) (he : enc n = (b.drop p).take (enc n).length) (hpk : p + (enc n).length ≤ b.length) :
    l2Len (b.getD p 0) = (enc n).length ∧ contSign b p (enc n).length ((enc n).length - 1) 1 (headSign (b.getD p 0)) = (n, (p : Int) + (enc n).length, true) := by
  have hg : ∀ i, i < (enc n).length → b.getD (p + i) 0 = (enc n).getD i 0 := by
    intro i hi
    have h1 : (enc n)[i]? = b[p + i]? := by
      have h2 : ((b.drop p).take (enc n).length)[i]? = b[p + i]? := by rw [List.getElem?_take_of_lt hi, List.getElem?_drop]
      rw [← he] at h2; exact h2
    rw [List.getD_eq_getElem?_getD, List.getD_eq_getElem?_getD, h1]
  have hend : ∀ m : Int, m = n → endSign b p (enc n).length m = (n, (p : Int) + (enc n).length, true) := by
    intro m hm; subst hm; unfold endSign; rw [if_pos ⟨hs, he⟩]
  rcases enc_cases hs with ⟨a, c, e⟩ | ⟨a, c, e⟩ | ⟨a, c, c2, e⟩ | ⟨a, c, e⟩
  · have g0 := hg 0 (by rw [e]; simp)
    rw [Nat.add_zero, e] at g0
    simp only [List.getD_cons_zero] at g0
    have hl : l2Len n = 1 := by unfold l2Len; rw [if_pos (by omega)]
    rw [g0, hl]
    refine ⟨by rw [e]; rfl, ?_⟩
    rw [show (enc n).length - 1 = 0 by rw [e]; rfl]
    unfold contSign
    refine hend _ ?_
    unfold headSign; rw [hl]; rfl
  · have g0 := hg 0 (by rw [e]; simp)
    have g1 := hg 1 (by rw [e]; simp)
    rw [e] at g0 g1
    rw [Nat.add_zero] at g0
    simp only [List.getD_cons_zero, List.getD_cons_succ] at g0 g1
    have hl : l2Len (192 + n / 64) = 2 := by unfold l2Len; rw [if_neg (by omega), if_pos (by omega)]
    have hh : headSign (192 + n / 64) = n / 64 := by
      unfold headSign; rw [hl, if_pos (by decide), shr_2, and_i64_31 _ (by omega) (by omega)]; omega
    rw [g0, hl, hh]
    refine ⟨by rw [e]; rfl, ?_⟩
    rw [show (enc n).length - 1 = 1 by rw [e]; rfl]
    unfold contSign
    rw [g1, if_pos (by omega), or_64 (by omega) (by omega) (by omega) (by omega)]
    unfold contSign
    exact hend _ (by omega)
  · have g0 := hg 0 (by rw [e]; simp)
    have g1 := hg 1 (by rw [e]; simp)
    have g2 := hg 2 (by rw [e]; simp)
    rw [e] at g0 g1 g2
    rw [Nat.add_zero] at g0
    simp only [List.getD_cons_zero, List.getD_cons_succ] at g0 g1 g2
    have hl : l2Len (224 + n / 4096) = 3 := by unfold l2Len; rw [if_neg (by omega), if_neg (by omega), if_pos (by omega)]
    have hh : headSign (224 + n / 4096) = n / 4096 := by
      unfold headSign; rw [hl, if_pos (by decide), shr_3, and_i64_15 _ (by omega) (by omega)]; omega
    rw [g0, hl, hh]
    refine ⟨by rw [e]; rfl, ?_⟩
    rw [show (enc n).length - 1 = 2 by rw [e]; rfl]
    unfold contSign
    rw [g1, if_pos (by omega), or_64 (by omega) (by omega) (by omega) (by omega)]
    unfold contSign
    rw [g2, if_pos (by omega), or_64 (by omega) (by omega) (by omega) (by omega)]
    unfold contSign
    exact hend _ (by omega)
  · have g0 := hg 0 (by rw [e]; simp)
    have g1 := hg 1 (by rw [e]; simp)
    have g2 := hg 2 (by rw [e]; simp)
    have g3 := hg 3 (by rw [e]; simp)
    rw [e] at g0 g1 g2 g3
    rw [Nat.add_zero] at g0
    simp only [List.getD_cons_zero, List.getD_cons_succ] at g0 g1 g2 g3
    have hl : l2Len (240 + n / 262144) = 4 := by unfold l2Len; rw [if_neg (by omega), if_neg (by omega), if_neg (by omega), if_pos (by omega)]
    have hh : headSign (240 + n / 262144) = n / 262144 := by
      unfold headSign; rw [hl, if_pos (by decide), shr_4, and_i64_7 _ (by omega) (by omega)]; omega
    rw [g0, hl, hh]
    refine ⟨by rw [e]; rfl, ?_⟩
    rw [show (enc n).length - 1 = 3 by rw [e]; rfl]
    unfold contSign
    rw [g1, if_pos (by omega), or_64 (by omega) (by omega) (by omega) (by omega)]
    unfold contSign
    rw [g2, if_pos (by omega), or_64 (by omega) (by omega) (by omega) (by omega)]
    unfold contSign
    rw [g3, if_pos (by omega), or_64 (by omega) (by omega) (by omega) (by omega)]
    unfold contSign
    exact hend _ (by omega)
theorem spec_GetSign_ev (b : List Int) (p : Int) (hb : Bytes b) (hl : b.length ≤ 4611686018427387904) : Ev (fun f => spec_GetSign.f f b p) (getSign b p) := by
  unfold getSign
  by_cases hp : 0 ≤ p ∧ p < b.length
  · rw [if_pos hp]
    obtain ⟨p, rfl⟩ := Int.eq_ofNat_of_zero_le hp.1
    rw [Int.toNat_natCast]
    have hpl : p < b.length := by omega
    refine ev_is (spec_GetSign_walk b p hb hl hpl) ?_
    by_cases hd : decL (b.drop p) = (65533, 1)
    · rw [if_pos hd]
      by_cases h1 : l2Len (b.getD p 0) = 0 ∨ p + l2Len (b.getD p 0) > b.length
      · rw [if_pos h1]
      · rw [if_neg h1]; exact contSign_none b p _ hd _ _ _
    · rw [if_neg hd]
      obtain ⟨hs, he, hk⟩ := decL_sound (b.drop p) (hb.drop p) (by intro z; have := congrArg List.length z; simp at this; omega) hd
      have hle : (enc ((decL (b.drop p)).1 : Int)).length ≤ (b.drop p).length := by have h9 := congrArg List.length he; rw [List.length_append] at h9; omega
      have he2 : enc ((decL (b.drop p)).1 : Int) = (b.drop p).take (enc ((decL (b.drop p)).1 : Int)).length := (take_of he rfl).symm
      rw [List.length_drop] at hle
      obtain ⟨h1, h2⟩ := contSign_enc b p _ hs he2 (by omega)
      rw [h1, if_neg (by have := enc_pos ((decL (b.drop p)).1 : Int); omega), h2, hk]
  · rw [if_neg hp]
    simp only [spec_GetSign.f, spec_l1In_eq, Option.bind_some, inR_true]
    rw [w64 (x := (b.length : Int) - 1) (by omega) (by omega)]
    exact ev_neg (by omega) (Ev.now _)
theorem spec_Signs_l0 (b : List Int) (hb : Bytes b) (hl : b.length ≤ 1099511627776) (d : Nat) : ∀ (p : Nat) (out : List Int), b.length ≤ p + d → p ≤ b.length → out.length ≤ p →
    Ev (fun k => spec_Signs.l0 k out b (p : Int)) (match readAll utfGet (b.drop p) with | some ns => (out ++ ns, true) | none => ([], false)) := by
  induction d with
  | zero =>
    intro p out h0 h1 h2
    refine ev_shift ?_
    simp only [spec_Signs.l0]
    rw [List.drop_of_length_le (by omega), readAll_nil]
    exact ev_neg (by omega) (ev_is (Ev.now _) (by simp))
  | succ d ih =>
    intro p out h0 h1 h2
    refine ev_shift ?_
    simp only [spec_Signs.l0]
    by_cases hp : p < b.length
    · have hne : b.drop p ≠ [] := by intro z; have := congrArg List.length z; simp at this; omega
      have hk := decL_le _ hne
      rw [List.length_drop] at hk
      refine ev_pos (by omega) (ev_bind (spec_GetSign_ev b p hb (by omega)) ?_)
      rw [readAll_cons utf_codes.toReads hne]
      by_cases he : decL (b.drop p) = (65533, 1)
      · rw [utfGet_none hne he]
        have e : getSign b (p : Int) = (0, 0, false) := by unfold getSign; rw [if_pos (by omega), Int.toNat_natCast, if_pos he]
        rw [e]
        exact ev_neg (by simp) (Ev.now _)
      · rw [utfGet_some hne he]
        have e : getSign b (p : Int) = (((decL (b.drop p)).1 : Int), ((p + (decL (b.drop p)).2 : Nat) : Int), true) := by
          unfold getSign; rw [if_pos (by omega), Int.toNat_natCast, if_neg he]; simp
        rw [e]
        refine ev_pos rfl (ev_pos (by omega) (ev_is (ih (p + (decL (b.drop p)).2) (out ++ [((decL (b.drop p)).1 : Int)]) (by omega) (by omega) (by rw [List.length_append]; show out.length + 1 ≤ _; omega)) ?_))
        simp only [List.drop_drop]
        cases readAll utfGet (b.drop (p + (decL (b.drop p)).2)) with
        | none => rfl
        | some ns => simp
    · rw [List.drop_of_length_le (by omega), readAll_nil]
      exact ev_neg (by omega) (ev_is (Ev.now _) (by simp))
theorem spec_Signs_ev (s : ByteArray) (hl : s.size ≤ 1099511627776) : Ev (fun k => spec_Signs.f k s) (signs (numsOf s)) := by
  have hn := numsOf_length s
  have h := spec_Signs_l0 (numsOf s) (numsOf_bytes s) (by omega) (numsOf s).length 0 [] (by omega) (by omega) (by simp)
  simp only [spec_Signs.f]
  refine ev_pos (by omega) (ev_is h ?_)
  rw [List.drop_zero]
  unfold signs
  cases readAll utfGet (numsOf s) with
  | none => rfl
  | some ns => simp
theorem spec_Utf8Ok_ev (s : ByteArray) (h : s.size ≤ 1099511627776) : Ev (fun k => spec_Utf8Ok.f k s) (signs (numsOf s)).2 := by
  simp only [spec_Utf8Ok.f]
  exact ev_bind (spec_Signs_ev s h) (Ev.now _)
theorem valid_eq (s : ByteArray) (h : s.size ≤ 1099511627776) : utf8_ValidString.f s = some (signs (numsOf s)).2 := by
  unfold utf8_ValidString.f; rw [if_pos (by omega), valid_read, signs_snd]
theorem impl_Utf8Ok_eq (s : ByteArray) (h : s.size ≤ 1099511627776) : impl_Utf8Ok.f s = some (signs (numsOf s)).2 := by
  unfold impl_Utf8Ok.f; rw [valid_eq s h]; rfl

theorem FnExactUtf8Ok : laws_FnExactUtf8Ok.Pure := by
  intro s _
  apply Ev.rounds
  simp only [laws_FnExactUtf8Ok.f]
  by_cases h : (s.size : Int) > 1048576
  · exact ev_pos h (Ev.now _)
  · exact ev_neg h (ev_bind (spec_Utf8Ok_ev s (by omega)) (ev_call (impl_Utf8Ok_eq s (by omega)) (ev_neg (by simp) (Ev.now _))))

end Go.Proofs.YtfbogcecphnjeaaDoor.Pure
