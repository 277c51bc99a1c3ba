/- The law FnExactEncodeLossy answers true at every set and every text: the program's EncodeLossy tells what the reference's tells, in memory of its own. -/
import Derived.Test.YtpmimhbnmjffpaaDoorQFnExactEncodeLossyx7
import Derived.Test.YtpmimhbnmjffpaaDoorModel
import Derived.Test.YtpmimhbnmjffpaaDoorModelA
import Derived.Test.YtpmimhbnmjffpaaDoorModelC
import Derived.Test.YtpmimhbnmjffpaaDoorModelD
import Derived.Test.YtpmimhbnmjffpaaDoorModelE
import Derived.Test.YtpmimhbnmjffpaaDoorModelF
import Derived.Test.YtpmimhbnmjffpaaDoorModelG
import Derived.Test.YtpmimhbnmjffpaaDoorModelH
import Derived.Test.YtpmimhbnmjffpaaDoorModelS
import Derived.Test.YtpmimhbnmjffpaaDoorModelT
import Derived.Test.YtpmimhbnmjffpaaDoorModelU
namespace Go.Proofs.YtpmimhbnmjffpaaDoor.Pure
open Go.RowKit Go.Proofs.YtpmimhbnmjffpaaDoor.QFnExactEncodeLossy Go.Proofs.YtpmimhbnmjffpaaDoorW.PrintWords Go.Proofs.YtpmimhbnmjffpaaDoorW.PrintLast Go.Proofs.YtpmimhbnmjffpaaDoor.Ext Go.Proofs.YtpmimhbnmjffpaaDoor.Xw Go.Proofs.YtpmimhbnmjffpaaDoor.Base Go.Proofs.YtpmimhbnmjffpaaDoor.Model

theorem eqByteS_l0 (a b : List Int) (hl : a.length ≤ 4611686018427387904) (hab : a.length = b.length) (d : Nat) : ∀ (i : Nat), i + d = a.length → (∀ j, j < i → a[j]? = b[j]?) → Ev (fun k => laws_eqByteS.l0 k a b (i : Int)) (decide (a = b)) := by
  induction d with
  | zero =>
    intro i h hj
    refine ev_shift ?_
    simp only [laws_eqByteS.l0]
    refine ev_neg (by omega) (ev_is (Ev.now _) ?_)
    rw [eq_comm, decide_eq_true_eq]
    refine List.ext_getElem? fun j => ?_
    by_cases hji : j < i
    · exact hj j hji
    · rw [List.getElem?_eq_none (by omega), List.getElem?_eq_none (by omega)]
  | succ d ih =>
    intro i h hj
    refine ev_shift ?_
    simp only [laws_eqByteS.l0, next_nat i (by omega)]
    have hi : i < a.length := by omega
    have hi2 : i < b.length := by omega
    refine ev_pos (by omega) (ev_pos (by omega) (ev_pos (by omega) ?_))
    by_cases e : rd a (i : Int) = rd b (i : Int)
    · refine ev_pos e (ih (i + 1) (by omega) fun j hji => ?_)
      by_cases e2 : j = i
      · subst e2; rw [rd_lt a j hi, rd_lt b j hi2] at e; rw [List.getElem?_eq_getElem hi, List.getElem?_eq_getElem hi2, e]
      · exact hj j (by omega)
    · refine ev_neg e (ev_is (Ev.now _) ?_)
      rw [eq_comm, decide_eq_false_iff_not]
      intro hE; subst hE; exact e rfl
theorem eqByteS_ev (a b : List Int) (hl : a.length ≤ 4611686018427387904) : Ev (fun k => laws_eqByteS.f k a b) (decide (a = b)) := by
  simp only [laws_eqByteS.f]
  by_cases e : (a.length : Int) = (b.length : Int)
  · exact ev_pos e (eqByteS_l0 a b hl (by omega) a.length 0 (by omega) fun j hj => by omega)
  · refine ev_neg e (ev_is (Ev.now _) ?_)
    rw [eq_comm, decide_eq_false_iff_not]
    intro hE; subst hE; exact e rfl
theorem eqByteS_self (a : List Int) (hl : a.length ≤ 4611686018427387904) : Ev (fun k => laws_eqByteS.f k a a) true := ev_is (eqByteS_ev a a hl) (by simp)
theorem markByteS_l0 (m : Int) (n : Nat) (hm : 0 ≤ m) (hn : m + n ≤ 4611686018427387904) (d : Nat) : ∀ (i : Nat) (x : List Int), i + d = n → x.length = n → (∀ j, j < i → x[j]? = (marks m n)[j]?) → Ev (fun k => laws_markByteS.l0 k x (m + (i : Int)) (i : Int)) (m + (n : Int), marks m n) := by
  induction d with
  | zero =>
    intro i x h hx hj
    refine ev_shift ?_
    simp only [laws_markByteS.l0]
    refine ev_neg (by omega) (ev_is (Ev.now _) ?_)
    have : x = marks m n := List.ext_getElem? fun j => by
      by_cases hji : j < i
      · exact hj j hji
      · rw [List.getElem?_eq_none (by omega), List.getElem?_eq_none (by rw [marks_length]; omega)]
    rw [this, show i = n by omega]
  | succ d ih =>
    intro i x h hx hj
    refine ev_shift ?_
    simp only [laws_markByteS.l0, next_nat i (by omega)]
    have e : wrap64 (m + (i : Int) + 1) = m + ((i + 1 : Nat) : Int) := by rw [w64 (by omega) (by omega)]; omega
    rw [e]
    refine ev_pos (by omega) (ev_pos (by omega) (ih (i + 1) _ (by omega) (by simpa using hx) fun j hji => ?_))
    rw [Int.toNat_natCast]
    by_cases e : j = i
    · subst e; rw [List.getElem?_set_self (by omega), marks_get m n j (by omega)]
    · rw [List.getElem?_set_ne (by omega)]; exact hj j (by omega)
theorem markByteS_ev (l : List Int) (m : Int) (hm : 0 ≤ m) (hn : m + l.length ≤ 4611686018427387904) : Ev (fun k => laws_markByteS.f k l m) (m + (l.length : Int), marks m l.length) := by
  have h := markByteS_l0 m l.length hm hn l.length 0 l (by omega) rfl (fun j hj => by omega)
  simp only [laws_markByteS.f]
  simpa using h
theorem heldByteS_l0 (m : Int) (n : Nat) (hm : 0 ≤ m) (hn : m + n ≤ 4611686018427387904) (d : Nat) : ∀ (i : Nat), i + d = n → Ev (fun k => laws_heldByteS.l0 k (marks m n) (m + (i : Int)) (i : Int)) (m + (n : Int)) := by
  induction d with
  | zero =>
    intro i h
    refine ev_shift ?_
    simp only [laws_heldByteS.l0, marks_length]
    exact ev_neg (by omega) (ev_is (Ev.now _) (by omega))
  | succ d ih =>
    intro i h
    refine ev_shift ?_
    simp only [laws_heldByteS.l0, next_nat i (by omega), marks_length]
    have e : wrap64 (m + (i : Int) + 1) = m + ((i + 1 : Nat) : Int) := by rw [w64 (by omega) (by omega)]; omega
    rw [e]
    have hi : i < (marks m n).length := by rw [marks_length]; omega
    have g : rd (marks m n) (i : Int) = (m + (i : Int)) % 256 := by
      have := marks_get m n i (by omega)
      rw [List.getElem?_eq_getElem hi] at this
      rw [rd_lt _ i hi]; exact Option.some.inj this
    exact ev_pos (by omega) (ev_pos (by omega) (ev_pos g (ih (i + 1) (by omega))))
theorem heldByteS_ev (m : Int) (n : Nat) (hm : 0 ≤ m) (hn : m + n ≤ 4611686018427387904) : Ev (fun k => laws_heldByteS.f k (marks m n) m) (m + (n : Int)) := by
  have h := heldByteS_l0 m n hm hn n 0 (by omega)
  simp only [laws_heldByteS.f]
  simpa using h
theorem spec_l1In_eq (a b c : Int) : spec_l1In.f a b c = some (inR a b c) := by
  unfold spec_l1In.f inR; by_cases h : a ≥ b <;> simp [h]
theorem spec_SignOk_eq (n : Int) : spec_SignOk.f n = some (signOk n) := by
  unfold spec_SignOk.f signOk
  simp only [spec_l1In_eq, Option.bind_some]
  cases inR n 0 1114111 <;> simp
theorem spec_PutSign_eq (b : List Int) (n : Int) (h : b.length + 4 < 140737488355328) : spec_PutSign.f b n = some (putSign b n) := by
  have hb : b.length < 140737488355328 := by omega
  unfold spec_PutSign.f putSign encOk
  simp only [Option.bind_some, List.length_nil, Nat.zero_add, List.nil_append, if_pos hb, spec_SignOk_eq]
  by_cases h1 : signOk n = true
  · have hr := signOk_iff.1 h1
    rw [if_pos h1, if_pos h1]
    unfold enc
    simp only [and_63, List.length_cons, List.length_nil]
    by_cases h2 : n ≤ 127
    · rw [if_pos h2, if_pos h2, show n % 256 = n by omega]
    · by_cases h3 : n ≤ 2047
      · rw [if_neg h2, if_pos h3, if_neg h2, if_pos h3, or_192 (by omega) (by omega), or_128 (by omega) (by omega), if_pos (by omega), show (192 + n / 64) % 256 = 192 + n / 64 by omega, show (128 + n % 64) % 256 = 128 + n % 64 by omega]
      · by_cases h4 : n ≤ 65535
        · rw [if_neg h2, if_neg h3, if_pos h4, if_neg h2, if_neg h3, if_pos h4, or_224 (by omega) (by omega), or_128 (by omega) (by omega), or_128 (by omega) (by omega), if_pos (by omega), show (224 + n / 4096) % 256 = 224 + n / 4096 by omega, show (128 + n / 64 % 64) % 256 = 128 + n / 64 % 64 by omega, show (128 + n % 64) % 256 = 128 + n % 64 by omega]
        · rw [if_neg h2, if_neg h3, if_neg h4, if_neg h2, if_neg h3, if_neg h4, or_240 (by omega) (by omega), or_128 (by omega) (by omega), or_128 (by omega) (by omega), or_128 (by omega) (by omega), if_pos (by omega), show (240 + n / 262144) % 256 = 240 + n / 262144 by omega, show (128 + n / 4096 % 64) % 256 = 128 + n / 4096 % 64 by omega, show (128 + n / 64 % 64) % 256 = 128 + n / 64 % 64 by omega, show (128 + n % 64) % 256 = 128 + n % 64 by omega]
  · rw [if_neg h1, if_neg h1]; simp
theorem spec_l2Len_eq (a : Int) (h0 : 0 ≤ a) (h1 : a ≤ 255) : spec_l2Len.f a = some ((l2Len a : Nat) : Int) := by
  unfold spec_l2Len.f l2Len
  rw [w64 (by omega) (by omega)]
  simp only [spec_l1In_eq, Option.bind_some, inR_true]
  by_cases c1 : a < 128
  · rw [if_pos c1, if_pos c1]; rfl
  · by_cases c2 : 194 ≤ a ∧ a ≤ 223
    · rw [if_neg c1, if_pos c2, if_neg c1, if_pos c2]; rfl
    · by_cases c3 : 224 ≤ a ∧ a ≤ 239
      · rw [if_neg c1, if_neg c2, if_pos c3, if_neg c1, if_neg c2, if_pos c3]; rfl
      · by_cases c4 : 240 ≤ a ∧ a ≤ 244
        · rw [if_neg c1, if_neg c2, if_neg c3, if_pos c4, if_neg c1, if_neg c2, if_neg c3, if_pos c4]; rfl
        · rw [if_neg c1, if_neg c2, if_neg c3, if_neg c4, if_neg c1, if_neg c2, if_neg c3, if_neg c4]; rfl
/-- The end: is it a sign, and do its bytes stand there? -/
def endSign (b : List Int) (p k : Nat) (n : Int) : Int × Int × Bool := if signOk n = true ∧ enc n = (b.drop p).take k then (n, (p : Int) + k, true) else (0, 0, false)
theorem spec_GetSign_end (b : List Int) (p k : Nat) (n : Int) (hpk : p + k ≤ b.length) (hb : Bytes b) (hl : b.length ≤ 4611686018427387904) :
    Ev (fun f => spec_GetSign.l0 f b (p : Int) (k : Int) n (k : Int)) (endSign b p k n) := by
  refine ev_shift ?_
  have e : wrap64 ((p : Int) + (k : Int)) = ((p + k : Nat) : Int) := by rw [w64 (by omega) (by omega)]; omega
  have e2 : (b.take (p + k)).drop p = (b.drop p).take k := by rw [List.drop_take]; congr 1; omega
  simp only [spec_GetSign.l0, e, Int.toNat_natCast, e2]
  refine ev_neg (by omega) (ev_call (spec_SignOk_eq n) ?_)
  unfold endSign
  by_cases hs : signOk n = true
  · refine ev_pos hs (ev_call (spec_PutSign_eq [] n (by simp)) (ev_pos (by omega) (ev_pos (by omega) (ev_pos (by omega) ?_))))
    have e3 : putSign [] n = enc n := by unfold putSign encOk; rw [if_pos hs]; rfl
    rw [e3]
    by_cases he : enc n = (b.drop p).take k
    · have hE : (if signOk n = true ∧ enc n = (b.drop p).take k then (n, (p : Int) + (k : Int), true) else (0, 0, false)) = (n, (p : Int) + (k : Int), true) := if_pos ⟨hs, he⟩
      rw [hE]; exact ev_pos (by rw [he]) (ev_is (Ev.now _) (by simp))
    · have hE : (if signOk n = true ∧ enc n = (b.drop p).take k then (n, (p : Int) + (k : Int), true) else (0, 0, false)) = (0, 0, false) := if_neg (fun z => he z.2)
      rw [hE]; exact ev_neg (fun z => he (strOfNums_inj (enc_bytes hs) ((hb.drop p).take k) z)) (Ev.now _)
  · have hE : (if signOk n = true ∧ enc n = (b.drop p).take k then (n, (p : Int) + (k : Int), true) else (0, 0, false)) = (0, 0, false) := if_neg (fun z => hs z.1)
    rw [hE]; exact ev_neg hs (Ev.now _)
/-- The bytes behind the first, one by one. -/
def contSign (b : List Int) (p k : Nat) : Nat → Nat → Int → Int × Int × Bool
  | 0, _, n => endSign b p k n
  | d + 1, i, n => if b.getD (p + i) 0 / 64 = 2 then contSign b p k d (i + 1) (Go.bits .or .i64 (wrap64 (n * 64)) (b.getD (p + i) 0 % 64)) else (0, 0, false)
theorem spec_GetSign_l0 (b : List Int) (p k : Nat) (hpk : p + k ≤ b.length) (hb : Bytes b) (hl : b.length ≤ 4611686018427387904) (d : Nat) :
    ∀ (i : Nat) (n : Int), i + d = k → Ev (fun f => spec_GetSign.l0 f b (p : Int) (k : Int) n (i : Int)) (contSign b p k d i n) := by
  induction d with
  | zero => intro i n h; obtain rfl : i = k := (by omega); exact spec_GetSign_end b p i n hpk hb hl
  | succ d ih =>
    intro i n h
    refine ev_shift ?_
    have e : wrap64 ((p : Int) + (i : Int)) = ((p + i : Nat) : Int) := by rw [w64 (by omega) (by omega)]; omega
    have hr := hb.rd ((p + i : Nat) : Int)
    rw [rd_nat] at hr
    have e2 : wrap64 (Go.bits .and .u8 (b.getD (p + i) 0) 63) = b.getD (p + i) 0 % 64 := by rw [u8_and63 _ (by omega) (by omega), w64 (by omega) (by omega)]
    simp only [spec_GetSign.l0, e, rd_nat, and192 hr.1 hr.2, e2, next_nat i (by omega)]
    refine ev_pos (by omega) (ev_pos (by omega) (ev_pos (by omega) ?_))
    unfold contSign
    by_cases hc : b.getD (p + i) 0 / 64 = 2
    · rw [if_pos hc]; exact ev_pos (by omega) (ih (i + 1) _ (by omega))
    · rw [if_neg hc]; exact ev_neg (by omega) (Ev.now _)
theorem u64_small (n : Nat) (h : n ≤ 4) : IntKind.u64.wrap (n : Int) = (n : Int) := by
  simp [IntKind.wrap, IntKind.bits, IntKind.signed]; omega
/-- What the first byte gives. -/
def headSign (a : Int) : Int := if l2Len a > 1 then Go.bits .and .i64 a (shr .i64 127 (IntKind.u64.wrap (l2Len a : Int))) else a
theorem spec_GetSign_walk (b : List Int) (p : Nat) (hb : Bytes b) (hl : b.length ≤ 4611686018427387904) (hp : p < b.length) :
    Ev (fun f => spec_GetSign.f f b (p : Int)) (if l2Len (b.getD p 0) = 0 ∨ p + l2Len (b.getD p 0) > b.length then (0, 0, false) else contSign b p (l2Len (b.getD p 0)) (l2Len (b.getD p 0) - 1) 1 (headSign (b.getD p 0))) := by
  have hr := hb.rd (p : Int)
  rw [rd_nat] at hr
  have h4 := l2Len_le (b.getD p 0)
  simp only [spec_GetSign.f, spec_l1In_eq, Option.bind_some, inR_true]
  rw [w64 (x := (b.length : Int) - 1) (by omega) (by omega)]
  refine ev_pos (by omega) (ev_pos (by omega) (ev_pos (by omega) ?_))
  rw [rd_nat]
  refine ev_call (spec_l2Len_eq _ hr.1 hr.2) ?_
  rw [w64 (x := (b.length : Int) - (p : Int)) (by omega) (by omega)]
  by_cases h0 : l2Len (b.getD p 0) = 0
  · rw [if_pos (Or.inl h0)]
    refine ev_pos (by omega) (ev_shift ?_)
    simp only [spec_GetSign.j0]
    exact ev_pos trivial (Ev.now _)
  · refine ev_neg (by omega) (ev_shift ?_)
    simp only [spec_GetSign.j0]
    by_cases h1 : p + l2Len (b.getD p 0) > b.length
    · rw [if_pos (Or.inr h1)]; exact ev_pos (by rw [decide_eq_true_eq]; omega) (Ev.now _)
    · rw [if_neg (by omega)]
      refine ev_neg (by rw [decide_eq_true_eq]; omega) (ev_pos (by omega) (ev_pos (by omega) ?_))
      rw [rd_nat, w64 (x := b.getD p 0) (by omega) (by omega)]
      unfold headSign
      by_cases h2 : l2Len (b.getD p 0) > 1
      · rw [if_pos h2]
        refine ev_pos (by omega) (ev_pos (by rw [u64_small _ h4]; omega) (ev_shift ?_))
        simp only [spec_GetSign.j1]
        exact spec_GetSign_l0 b p _ (by omega) hb hl _ 1 _ (by omega)
      · rw [if_neg h2]
        refine ev_neg (by omega) (ev_shift ?_)
        simp only [spec_GetSign.j1]
        exact spec_GetSign_l0 b p _ (by omega) hb hl _ 1 _ (by omega)
theorem contSign_none (b : List Int) (p k : Nat) (h : decL (b.drop p) = (65533, 1)) (d : Nat) : ∀ (i : Nat) (n : Int), contSign b p k d i n = (0, 0, false) := by
  induction d with
  | zero =>
    intro i n
    unfold contSign endSign
    exact if_neg fun z => decL_none h z.1 z.2
  | succ d ih =>
    intro i n
    unfold contSign
    by_cases hc : b.getD (p + i) 0 / 64 = 2
    · rw [if_pos hc]; exact ih _ _
    · rw [if_neg hc]
theorem or_64 {x y : Int} (h0 : 0 ≤ x) (h1 : x ≤ 100000000) (h2 : 0 ≤ y) (h3 : y < 64) : Go.bits .or .i64 (wrap64 (x * 64)) y = x * 64 + y := by
  rw [w64 (by omega) (by omega)]
  exact bits_join .i64 62 (by decide) wraps_i64 6 (x * 64) y (by omega) (by omega) (by omega) h2 (by omega) (by omega)
theorem and_i64_31 (x : Int) (h0 : 0 ≤ x) (h1 : x ≤ 255) : Go.bits .and .i64 x 31 = x % 32 := bits_mask .i64 62 (by decide) wraps_i64 5 (by decide) x h0 (by omega)
theorem and_i64_15 (x : Int) (h0 : 0 ≤ x) (h1 : x ≤ 255) : Go.bits .and .i64 x 15 = x % 16 := bits_mask .i64 62 (by decide) wraps_i64 4 (by decide) x h0 (by omega)
theorem and_i64_7 (x : Int) (h0 : 0 ≤ x) (h1 : x ≤ 255) : Go.bits .and .i64 x 7 = x % 8 := bits_mask .i64 62 (by decide) wraps_i64 3 (by decide) x h0 (by omega)
theorem shr_2 : shr .i64 127 (IntKind.u64.wrap ((2 : Nat) : Int)) = 31 := by decide
theorem shr_3 : shr .i64 127 (IntKind.u64.wrap ((3 : Nat) : Int)) = 15 := by decide
theorem shr_4 : shr .i64 127 (IntKind.u64.wrap ((4 : Nat) : Int)) = 7 := by decide
theorem contSign_enc (b : List Int) (p : Nat) (n : Int) (hs : signOk n = true) (he : enc n = (b.drop p).take (enc n).length) (hpk : p + (enc n).length ≤ b.length) :
    l2Len (b.getD p 0) = (enc n).length ∧ contSign b p (enc n).length ((enc n).length - 1) 1 (headSign (b.getD p 0)) = (n, (p : Int) + (enc n).length, true) := by
  have hg : ∀ i, i < (enc n).length → b.getD (p + i) 0 = (enc n).getD i 0 := by
    intro i hi
    have h1 : (enc n)[i]? = b[p + i]? := by
      have h2 : ((b.drop p).take (enc n).length)[i]? = b[p + i]? := by rw [List.getElem?_take_of_lt hi, List.getElem?_drop]
      rw [← he] at h2; exact h2
    rw [List.getD_eq_getElem?_getD, List.getD_eq_getElem?_getD, h1]
  have hend : ∀ m : Int, m = n → endSign b p (enc n).length m = (n, (p : Int) + (enc n).length, true) := by
    intro m hm; subst hm; unfold endSign; rw [if_pos ⟨hs, he⟩]
  rcases enc_cases hs with ⟨a, c, e⟩ | ⟨a, c, e⟩ | ⟨a, c, c2, e⟩ | ⟨a, c, e⟩
  · have g0 := hg 0 (by rw [e]; simp)
    rw [Nat.add_zero, e] at g0
    simp only [List.getD_cons_zero] at g0
    have hl : l2Len n = 1 := by unfold l2Len; rw [if_pos (by omega)]
    rw [g0, hl]
    refine ⟨by rw [e]; rfl, ?_⟩
    rw [show (enc n).length - 1 = 0 by rw [e]; rfl]
    unfold contSign
    refine hend _ ?_
    unfold headSign; rw [hl]; rfl
  · have g0 := hg 0 (by rw [e]; simp)
    have g1 := hg 1 (by rw [e]; simp)
    rw [e] at g0 g1
    rw [Nat.add_zero] at g0
    simp only [List.getD_cons_zero, List.getD_cons_succ] at g0 g1
    have hl : l2Len (192 + n / 64) = 2 := by unfold l2Len; rw [if_neg (by omega), if_pos (by omega)]
    have hh : headSign (192 + n / 64) = n / 64 := by
      unfold headSign; rw [hl, if_pos (by decide), shr_2, and_i64_31 _ (by omega) (by omega)]; omega
    rw [g0, hl, hh]
    refine ⟨by rw [e]; rfl, ?_⟩
    rw [show (enc n).length - 1 = 1 by rw [e]; rfl]
    unfold contSign
    rw [g1, if_pos (by omega), or_64 (by omega) (by omega) (by omega) (by omega)]
    unfold contSign
    exact hend _ (by omega)
  · have g0 := hg 0 (by rw [e]; simp)
    have g1 := hg 1 (by rw [e]; simp)
    have g2 := hg 2 (by rw [e]; simp)
    rw [e] at g0 g1 g2
    rw [Nat.add_zero] at g0
    simp only [List.getD_cons_zero, List.getD_cons_succ] at g0 g1 g2
    have hl : l2Len (224 + n / 4096) = 3 := by unfold l2Len; rw [if_neg (by omega), if_neg (by omega), if_pos (by omega)]
    have hh : headSign (224 + n / 4096) = n / 4096 := by
      unfold headSign; rw [hl, if_pos (by decide), shr_3, and_i64_15 _ (by omega) (by omega)]; omega
    rw [g0, hl, hh]
    refine ⟨by rw [e]; rfl, ?_⟩
    rw [show (enc n).length - 1 = 2 by rw [e]; rfl]
    unfold contSign
    rw [g1, if_pos (by omega), or_64 (by omega) (by omega) (by omega) (by omega)]
    unfold contSign
    rw [g2, if_pos (by omega), or_64 (by omega) (by omega) (by omega) (by omega)]
    unfold contSign
    exact hend _ (by omega)
  · have g0 := hg 0 (by rw [e]; simp)
    have g1 := hg 1 (by rw [e]; simp)
    have g2 := hg 2 (by rw [e]; simp)
    have g3 := hg 3 (by rw [e]; simp)
    rw [e] at g0 g1 g2 g3
    rw [Nat.add_zero] at g0
    simp only [List.getD_cons_zero, List.getD_cons_succ] at g0 g1 g2 g3
    have hl : l2Len (240 + n / 262144) = 4 := by unfold l2Len; rw [if_neg (by omega), if_neg (by omega), if_neg (by omega), if_pos (by omega)]
    have hh : headSign (240 + n / 262144) = n / 262144 := by
      unfold headSign; rw [hl, if_pos (by decide), shr_4, and_i64_7 _ (by omega) (by omega)]; omega
    rw [g0, hl, hh]
    refine ⟨by rw [e]; rfl, ?_⟩
    rw [show (enc n).length - 1 = 3 by rw [e]; rfl]
    unfold contSign
    rw [g1, if_pos (by omega), or_64 (by omega) (by omega) (by omega) (by omega)]
    unfold contSign
    rw [g2, if_pos (by omega), or_64 (by omega) (by omega) (by omega) (by omega)]
    unfold contSign
    rw [g3, if_pos (by omega), or_64 (by omega) (by omega) (by omega) (by omega)]
    unfold contSign
    exact hend _ (by omega)
theorem spec_GetSign_ev (b : List Int) (p : Int) (hb : Bytes b) (hl : b.length ≤ 4611686018427387904) : Ev (fun f => spec_GetSign.f f b p) (getSign b p) := by
  unfold getSign
  by_cases hp : 0 ≤ p ∧ p < b.length
  · rw [if_pos hp]
    obtain ⟨p, rfl⟩ := Int.eq_ofNat_of_zero_le hp.1
    rw [Int.toNat_natCast]
    have hpl : p < b.length := by omega
    refine ev_is (spec_GetSign_walk b p hb hl hpl) ?_
    by_cases hd : decL (b.drop p) = (65533, 1)
    · rw [if_pos hd]
      by_cases h1 : l2Len (b.getD p 0) = 0 ∨ p + l2Len (b.getD p 0) > b.length
      · rw [if_pos h1]
      · rw [if_neg h1]; exact contSign_none b p _ hd _ _ _
    · rw [if_neg hd]
      obtain ⟨hs, he, hk⟩ := decL_sound (b.drop p) (hb.drop p) (by intro z; have := congrArg List.length z; simp at this; omega) hd
      have hle : (enc ((decL (b.drop p)).1 : Int)).length ≤ (b.drop p).length := by have h9 := congrArg List.length he; rw [List.length_append] at h9; omega
      have he2 : enc ((decL (b.drop p)).1 : Int) = (b.drop p).take (enc ((decL (b.drop p)).1 : Int)).length := (take_of he rfl).symm
      rw [List.length_drop] at hle
      obtain ⟨h1, h2⟩ := contSign_enc b p _ hs he2 (by omega)
      rw [h1, if_neg (by have := enc_pos ((decL (b.drop p)).1 : Int); omega), h2, hk]
  · rw [if_neg hp]
    simp only [spec_GetSign.f, spec_l1In_eq, Option.bind_some, inR_true]
    rw [w64 (x := (b.length : Int) - 1) (by omega) (by omega)]
    exact ev_neg (by omega) (Ev.now _)
theorem spec_Signs_l0 (b : List Int) (hb : Bytes b) (hl : b.length ≤ 1099511627776) (d : Nat) : ∀ (p : Nat) (out : List Int), b.length ≤ p + d → p ≤ b.length → out.length ≤ p →
    Ev (fun k => spec_Signs.l0 k out b (p : Int)) (match readAll utfGet (b.drop p) with | some ns => (out ++ ns, true) | none => ([], false)) := by
  induction d with
  | zero =>
    intro p out h0 h1 h2
    refine ev_shift ?_
    simp only [spec_Signs.l0]
    rw [List.drop_of_length_le (by omega), readAll_nil]
    exact ev_neg (by omega) (ev_is (Ev.now _) (by simp))
  | succ d ih =>
    intro p out h0 h1 h2
    refine ev_shift ?_
    simp only [spec_Signs.l0]
    by_cases hp : p < b.length
    · have hne : b.drop p ≠ [] := by intro z; have := congrArg List.length z; simp at this; omega
      have hk := decL_le _ hne
      rw [List.length_drop] at hk
      refine ev_pos (by omega) (ev_bind (spec_GetSign_ev b p hb (by omega)) ?_)
      rw [readAll_cons utf_codes.toReads hne]
      by_cases he : decL (b.drop p) = (65533, 1)
      · rw [utfGet_none hne he]
        have e : getSign b (p : Int) = (0, 0, false) := by unfold getSign; rw [if_pos (by omega), Int.toNat_natCast, if_pos he]
        rw [e]
        exact ev_neg (by simp) (Ev.now _)
      · rw [utfGet_some hne he]
        have e : getSign b (p : Int) = (((decL (b.drop p)).1 : Int), ((p + (decL (b.drop p)).2 : Nat) : Int), true) := by
          unfold getSign; rw [if_pos (by omega), Int.toNat_natCast, if_neg he]; simp
        rw [e]
        refine ev_pos rfl (ev_pos (by omega) (ev_is (ih (p + (decL (b.drop p)).2) (out ++ [((decL (b.drop p)).1 : Int)]) (by omega) (by omega) (by rw [List.length_append]; show out.length + 1 ≤ _; omega)) ?_))
        simp only [List.drop_drop]
        cases readAll utfGet (b.drop (p + (decL (b.drop p)).2)) with
        | none => rfl
        | some ns => simp
    · rw [List.drop_of_length_le (by omega), readAll_nil]
      exact ev_neg (by omega) (ev_is (Ev.now _) (by simp))
theorem spec_Signs_ev (s : ByteArray) (hl : s.size ≤ 1099511627776) : Ev (fun k => spec_Signs.f k s) (signs (numsOf s)) := by
  have hn := numsOf_length s
  have h := spec_Signs_l0 (numsOf s) (numsOf_bytes s) (by omega) (numsOf s).length 0 [] (by omega) (by omega) (by simp)
  simp only [spec_Signs.f]
  refine ev_pos (by omega) (ev_is h ?_)
  rw [List.drop_zero]
  unfold signs
  cases readAll utfGet (numsOf s) with
  | none => rfl
  | some ns => simp
theorem spec_l5Cs_eq (n : Int) : spec_l5Cs.f n = some (inR n 0 5) := by
  unfold spec_l5Cs.f; rw [spec_l1In_eq]; rfl
theorem spec_SignPair_eq (n : Int) : spec_SignPair.f n = some (signPair n) := by
  unfold spec_SignPair.f signPair
  simp only [spec_l1In_eq, Option.bind_some, inR_true]
  by_cases h : 12353 ≤ n ∧ n ≤ 12435
  · rw [if_pos h, if_pos h, w64 (x := n - 12353) (by omega) (by omega), w64 (by omega) (by omega)]
  · rw [if_neg h, if_neg h]
    by_cases h2 : 12449 ≤ n ∧ n ≤ 12534
    · rw [if_pos h2, if_pos h2, w64 (x := n - 12449) (by omega) (by omega), w64 (by omega) (by omega)]
    · rw [if_neg h2, if_neg h2]
theorem spec_PutEuc_eq (b : List Int) (n : Int) (h : b.length + 2 < 140737488355328) : spec_PutEuc.f b n = some (b ++ (eucOf n).1, (eucOf n).2) := by
  have hb : b.length < 140737488355328 := by omega
  unfold spec_PutEuc.f eucOf
  simp only [Option.bind_some, List.length_nil, Nat.zero_add, List.nil_append, if_pos hb, spec_l1In_eq, spec_SignPair_eq, inR_true]
  by_cases h1 : 0 ≤ n ∧ n ≤ 127
  · rw [if_pos h1, if_pos h1]; simp only []; rw [show n % 256 = n by omega]
  · rw [if_neg h1, if_neg h1]
    by_cases h2 : (signPair n).2.2 = true
    · have e : (signPair n).1 % 256 = (signPair n).1 ∧ (signPair n).2.1 % 256 = (signPair n).2.1 := signPair_mod n
      rw [if_pos h2, if_pos h2, e.1, e.2]
      simp only [List.length_cons, List.length_nil]
      rw [if_pos (by omega)]
    · rw [if_neg h2, if_neg h2]; simp
theorem spec_l3Nine_eq (b : Int) : spec_l3Nine.f b = some (nineM b) := by
  unfold spec_l3Nine.f nineM
  simp only [apply_ite some]
theorem spec_l3Koi_eq (b : Int) (h0 : 128 ≤ b) (h1 : b ≤ 255) : spec_l3Koi.f b = some (if koiM b = 0 then -1 else koiM b) :=
  high_of (P := fun b => spec_l3Koi.f b = some (if koiM b = 0 then -1 else koiM b)) (by decide +kernel) b h0 h1
theorem koi_pos (b : Int) (h0 : 128 ≤ b) (h1 : b ≤ 255) : 0 ≤ koiM b := high_of (P := fun b => 0 ≤ koiM b) (by decide +kernel) b h0 h1
theorem spec_l3Win_eq (b : Int) (h0 : 128 ≤ b) (h1 : b ≤ 255) : spec_l3Win.f b = some (if winM b = 0 then -1 else winM b) :=
  high_of (P := fun b => spec_l3Win.f b = some (if winM b = 0 then -1 else winM b)) (by decide +kernel) b h0 h1
theorem win_pos (b : Int) (h0 : 128 ≤ b) (h1 : b ≤ 255) : 0 ≤ winM b := high_of (P := fun b => 0 ≤ winM b) (by decide +kernel) b h0 h1
theorem nine_pos (b : Int) (h0 : 128 ≤ b) (h1 : b ≤ 255) : 1 ≤ nineM b := high_of (P := fun b => 1 ≤ nineM b) (by decide +kernel) b h0 h1
theorem spec_ByteSign_ev (cs b : Int) : Ev (fun k => spec_ByteSign.f k cs b) (byteSign cs b) := by
  unfold byteSign
  refine ev_shift (ev_same fun k => ?_)
  simp only [spec_ByteSign.f, spec_ByteSign.j0, spec_l1In_eq, Option.bind_some, inR_true]
  by_cases h1 : 1 ≤ cs ∧ cs ≤ 4
  · by_cases h2 : 0 ≤ b ∧ b ≤ 255
    · rw [if_pos h1, if_pos (c := (1 ≤ cs ∧ cs ≤ 4) ∧ (0 ≤ b ∧ b ≤ 255)) ⟨h1, h2⟩, inR_true.2 h2]
      simp only [Bool.not_true, Bool.false_eq_true, if_false]
      by_cases h3 : b ≤ 127
      · rw [if_neg (by omega), if_neg (by omega), if_pos h3]
      · rw [if_pos (by omega), if_neg h3]
        have hb0 : 128 ≤ b := by omega
        unfold highM
        by_cases c2 : cs = 2
        · have := nine_pos b hb0 h2.2
          rw [if_pos c2, if_pos c2, spec_l3Nine_eq]; simp only [Option.bind_some]
          rw [if_neg (by omega), if_neg (by omega)]
        · rw [if_neg c2, if_neg c2]
          by_cases c3 : cs = 3
          · have := koi_pos b hb0 h2.2
            rw [if_pos c3, if_pos c3, spec_l3Koi_eq b hb0 h2.2]; simp only [Option.bind_some]
            by_cases z : koiM b = 0
            · rw [if_pos z, if_pos z, if_pos (by decide)]
            · rw [if_neg z, if_neg z, if_neg (by omega)]
          · rw [if_neg c3, if_neg c3]
            by_cases c4 : cs = 4
            · have := win_pos b hb0 h2.2
              rw [if_pos c4, if_pos c4, spec_l3Win_eq b hb0 h2.2]; simp only [Option.bind_some]
              by_cases z : winM b = 0
              · rw [if_pos z, if_pos z, if_pos (by decide)]
              · rw [if_neg z, if_neg z, if_neg (by omega)]
            · rw [if_neg c4, if_neg c4, if_neg (by omega), if_neg (by omega)]
    · rw [if_pos h1, if_neg (c := (1 ≤ cs ∧ cs ≤ 4) ∧ (0 ≤ b ∧ b ≤ 255)) (fun z => h2 z.2), inR_false.2 h2]; rfl
  · rw [if_neg h1, if_neg (c := (1 ≤ cs ∧ cs ≤ 4) ∧ (0 ≤ b ∧ b ≤ 255)) (fun z => h1 z.1)]; rfl
theorem spec_SignByte_l0 (cs n : Int) (d : Nat) : ∀ b : Int, 0 ≤ b → b + d = 256 → Ev (fun k => spec_SignByte.l0 k cs n b) (signByteFrom cs n d b) := by
  induction d with
  | zero =>
    intro b h0 h
    refine ev_shift ?_
    simp only [spec_SignByte.l0]
    exact ev_neg (by omega) (Ev.now _)
  | succ d ih =>
    intro b h0 h
    refine ev_shift ?_
    simp only [spec_SignByte.l0]
    rw [w64 (x := b + 1) (by omega) (by omega)]
    refine ev_pos (by omega) (ev_bind (spec_ByteSign_ev cs b) ?_)
    unfold signByteFrom
    by_cases h1 : (byteSign cs b).2 = true
    · by_cases h2 : (byteSign cs b).1 = n
      · rw [if_pos ⟨h1, h2⟩]; exact ev_pos h1 (ev_pos h2 (Ev.now _))
      · rw [if_neg (fun z => h2 z.2)]; exact ev_pos h1 (ev_neg h2 (ih (b + 1) (by omega) (by omega)))
    · rw [if_neg (fun z => h1 z.1)]; exact ev_neg h1 (ih (b + 1) (by omega) (by omega))
theorem spec_SignByte_ev (cs n : Int) : Ev (fun k => spec_SignByte.f k cs n) (signByte cs n) := spec_SignByte_l0 cs n 256 0 (by omega) (by omega)
theorem spec_l5Put_ev (cs : Int) (b : List Int) (n : Int) (h : b.length + 8 < 140737488355328) : Ev (fun k => spec_l5Put.f k cs b n) (putIn cs b n) := by
  simp only [spec_l5Put.f]
  by_cases c0 : cs = 0
  · subst c0
    refine ev_pos rfl (ev_call (spec_PutSign_eq b n (by omega)) (ev_call (spec_SignOk_eq n) (ev_is (Ev.now _) ?_)))
    unfold putSign encOk
    by_cases hs : signOk n = true
    · rw [putIn_utf hs, if_pos hs, hs]
    · rw [putIn_utf_no hs, if_neg hs]; simp [Bool.eq_false_iff.2 hs]
  · by_cases c5 : cs = 5
    · subst c5
      rw [putIn_euc]
      exact ev_neg c0 (ev_pos rfl (ev_call (spec_PutEuc_eq b n (by omega)) (Ev.now _)))
    · refine ev_neg c0 (ev_neg c5 (ev_bind (spec_SignByte_ev cs n) ?_))
      simp only [Option.bind_some, List.nil_append, List.length_nil, Nat.zero_add]
      by_cases hs : (signByte cs n).2 = true
      · rw [putIn_byte c0 c5 hs]
        exact ev_pos hs (ev_pos (by omega) (ev_pos (by omega) (Ev.now _)))
      · rw [putIn_byte_no c0 c5 hs]
        exact ev_neg hs (ev_pos (by omega) (Ev.now _))
theorem spec_EncodeLossy_l0 (cs : Int) (ns : List Int) (_hs : ∀ n ∈ ns, signOk n = true) (hl : ns.length ≤ 1048576) (d : Nat) : ∀ (i : Nat) (out : List Int) (c : Nat), i + d = ns.length → out.length ≤ 4 * i → c ≤ i →
    Ev (fun k => spec_EncodeLossy.l0 k cs out (c : Int) ns (i : Int)) (out ++ (writeLossy (codePut cs) (ns.drop i)).1, ((c + (writeLossy (codePut cs) (ns.drop i)).2 : Nat) : Int)) := by
  induction d with
  | zero =>
    intro i out c h0 h1 h2
    refine ev_shift ?_
    simp only [spec_EncodeLossy.l0]
    rw [List.drop_of_length_le (by omega)]
    exact ev_neg (by omega) (ev_is (Ev.now _) (by simp [writeLossy]))
  | succ d ih =>
    intro i out c h0 h1 h2
    have hi : i < ns.length := by omega
    refine ev_shift ?_
    simp only [spec_EncodeLossy.l0, next_nat i (by omega), next_nat c (by omega), Option.bind_some, List.nil_append, List.length_nil, Nat.zero_add]
    rw [drop_cons_at ns i hi]
    refine ev_pos (by omega) (ev_pos (by omega) (ev_bind (spec_l5Put_ev cs out (rd ns (i : Int)) (by omega)) ?_))
    unfold writeLossy putIn
    cases hx : codePut cs (rd ns (i : Int)) with
    | none =>
      refine ev_neg (by simp) (ev_pos (by omega) (ev_pos (by omega) (ev_is (ih (i + 1) (out ++ [63]) (c + 1) (by omega) (by rw [List.length_append]; show out.length + 1 ≤ _; omega) (by omega)) ?_)))
      simp only [List.append_assoc, List.singleton_append]
      rw [show c + 1 + (writeLossy (codePut cs) (ns.drop (i + 1))).2 = c + ((writeLossy (codePut cs) (ns.drop (i + 1))).2 + 1) by omega]
    | some x =>
      have hxl := codePut_length hx
      refine ev_pos rfl (ev_is (ih (i + 1) (out ++ x) c (by omega) (by rw [List.length_append]; omega) (by omega)) ?_)
      simp only [List.append_assoc]
theorem spec_EncodeLossy_ev (cs : Int) (s : ByteArray) (h : s.size ≤ 1048576) : Ev (fun k => spec_EncodeLossy.f k cs s) (encodeLossy cs s) := by
  have hn := numsOf_length s
  simp only [spec_EncodeLossy.f, Option.bind_some]
  refine ev_bind (spec_Signs_ev s (by omega)) (ev_call (spec_l5Cs_eq cs) ?_)
  unfold encodeLossy
  by_cases hc : inR cs 0 5 = true
  · rw [if_pos hc]
    refine ev_pos hc (ev_shift ?_)
    simp only [spec_EncodeLossy.j0]
    cases hr : readAll utfGet (numsOf s) with
    | none => rw [signs_none hr]; exact ev_pos (by simp) (Ev.now _)
    | some ns =>
      have h1 := readN_length utf_codes.toReads _ _ hr
      rw [signs_some hr]
      refine ev_neg (by simp) (ev_is (spec_EncodeLossy_l0 cs ns (utf_range (numsOf_bytes s) hr) (by omega) ns.length 0 [] 0 (by omega) (by simp) (by omega)) ?_)
      rw [List.drop_zero, List.nil_append, Nat.zero_add]
  · rw [if_neg hc]
    refine ev_neg hc (ev_shift ?_)
    simp only [spec_EncodeLossy.j0]
    exact ev_pos trivial (Ev.now _)
theorem impl_within_eq (a b c : Int) : impl_within.f a b c = some (inR a b c) := by
  unfold impl_within.f inR; by_cases h : a ≥ b <;> simp [h]
theorem impl_isSet_eq (n : Int) : impl_isSet.f n = some (inR n 0 5) := by
  unfold impl_isSet.f; simp only [impl_within_eq, Option.bind_some]
theorem impl_joined_1 (a : List Int) (h : a.length < 140737488355328) : Ev (fun k => impl_joined.f k [a]) a := by
  refine ev_shift (ev_shift (ev_same fun k => ?_))
  simp only [impl_joined.f, impl_joined.l0]
  simp [rd_L2, wrap64, h]
theorem impl_joined_2 (a b : List Int) (h : a.length + b.length < 140737488355328) : Ev (fun k => impl_joined.f k [a, b]) (a ++ b) := by
  refine ev_shift (ev_shift (ev_shift (ev_same fun k => ?_)))
  have ha : a.length < 140737488355328 := by omega
  simp only [impl_joined.f, impl_joined.l0]
  simp [rd_L2, wrap64, h, ha]
theorem impl_SignOk_eq (n : Int) : impl_SignOk.f n = some (signOk n) := by
  unfold impl_SignOk.f signOk
  simp only [impl_within_eq, Option.bind_some]
  cases inR n 0 1114111 <;> simp
theorem appendRune_j3 (k : Nat) (b : List Int) (n m : Int) (h : b.length + 4 < 140737488355328) (h0 : 0 ≤ n) (h1 : n ≤ 65535) : utf8_appendRuneNonASCII.j0 (k + 1) b n m true = some (b ++ [224 + n / 4096, 128 + n / 64 % 64, 128 + n % 64]) := by
  simp only [utf8_appendRuneNonASCII.j0, Option.bind_some, List.length_cons, List.length_nil]
  rw [if_pos trivial, if_pos (by omega), show n / 4096 % 256 = n / 4096 by omega, u8_or224 _ (by omega) (by omega)]
theorem appendRune_j4 (k : Nat) (b : List Int) (n m : Int) (h : b.length + 4 < 140737488355328) (h0 : 65536 ≤ n) (h1 : n ≤ 1114111) (hm : m = n) : utf8_appendRuneNonASCII.j0 (k + 1) b n m false = some (b ++ [240 + n / 262144, 128 + n / 4096 % 64, 128 + n / 64 % 64, 128 + n % 64]) := by
  subst hm
  simp only [utf8_appendRuneNonASCII.j0, Option.bind_some, List.length_cons, List.length_nil]
  rw [if_neg (by decide), if_pos (by omega), if_pos (by omega), if_pos (by omega), show m / 262144 % 256 = m / 262144 by omega, u8_or240 _ (by omega) (by omega)]
theorem appendRuneNonASCII_eq (k : Nat) (b : List Int) (n : Int) (h : b.length + 4 < 140737488355328) (h1 : signOk n = true) (h2 : 128 ≤ n) : utf8_appendRuneNonASCII.f (k + 1) b n = some (b ++ enc n) := by
  have hr := signOk_iff.1 h1
  have hm : n % 4294967296 = n := by omega
  unfold enc
  simp only [utf8_appendRuneNonASCII.f, Option.bind_some, hm, List.length_cons, List.length_nil]
  rw [if_neg (c := n ≤ 127) (by omega)]
  by_cases h3 : n ≤ 2047
  · rw [if_pos h3, if_pos h3, show n / 64 % 256 = n / 64 by omega, u8_or192 _ (by omega) (by omega), if_pos (by omega)]
  · rw [if_neg h3, if_neg h3]
    by_cases h4 : n ≤ 65535
    · rw [if_pos h4]
      by_cases h5 : n < 55296
      · rw [if_pos h5, decide_eq_true h5]; exact appendRune_j3 k b n n h (by omega) h4
      · rw [if_neg h5, if_pos (by omega), decide_eq_true h4]; exact appendRune_j3 k b n n h (by omega) h4
    · rw [if_neg h4, if_neg (by omega), if_pos (by omega), decide_eq_false h4]; exact appendRune_j4 k b n n h (by omega) (by omega) rfl
theorem AppendRune_eq (k : Nat) (b : List Int) (n : Int) (h : b.length + 4 < 140737488355328) (h1 : signOk n = true) : utf8_AppendRune.f (k + 1) b n = some (b ++ enc n) := by
  have hr := signOk_iff.1 h1
  simp only [utf8_AppendRune.f]
  by_cases h2 : n ≤ 127
  · rw [if_pos (by omega), if_pos (by omega), show n % 256 = n by omega]; unfold enc; rw [if_pos h2]
  · rw [if_neg (by omega), appendRuneNonASCII_eq k b n h h1 (by omega)]; rfl
theorem impl_PutSign_ev (b : List Int) (n : Int) (h : b.length + 4 < 140737488355328) : Ev (fun k => impl_PutSign.f k b n) (putSign b n) := by
  unfold putSign encOk
  simp only [impl_PutSign.f, impl_SignOk_eq]
  refine ev_bind (impl_joined_1 b (by omega)) ?_
  simp only [Option.bind_some]
  by_cases h1 : signOk n = true
  · have hr := signOk_iff.1 h1
    have e : wrap32 n = n := by unfold wrap32; omega
    rw [if_pos h1, e]
    exact ev_pos h1 (ev_bind (ev_shift (ev_same fun k => AppendRune_eq k b n h h1)) (Ev.now _))
  · rw [if_neg h1]
    exact ev_neg h1 (ev_is (Ev.now _) (by simp))
theorem impl_SignPair_eq (n : Int) : impl_SignPair.f n = some (signPair n) := by
  unfold impl_SignPair.f signPair
  simp only [impl_within_eq, Option.bind_some, inR_true]
  by_cases h : 12353 ≤ n ∧ n ≤ 12435
  · rw [if_pos h, if_pos h, w64 (x := n - 12353) (by omega) (by omega), w64 (by omega) (by omega)]
  · rw [if_neg h, if_neg h]
    by_cases h2 : 12449 ≤ n ∧ n ≤ 12534
    · rw [if_pos h2, if_pos h2, w64 (x := n - 12449) (by omega) (by omega), w64 (by omega) (by omega)]
    · rw [if_neg h2, if_neg h2]
theorem impl_PutEuc_ev (b : List Int) (n : Int) (h : b.length + 2 < 140737488355328) : Ev (fun k => impl_PutEuc.f k b n) (b ++ (eucOf n).1, (eucOf n).2) := by
  unfold eucOf
  simp only [impl_PutEuc.f, Option.bind_some, impl_within_eq, impl_SignPair_eq, inR_true]
  by_cases h1 : 0 ≤ n ∧ n ≤ 127
  · rw [if_pos h1, show n % 256 = n by omega]
    exact ev_pos h1 (ev_bind (impl_joined_2 b [n] (by simp; omega)) (Ev.now _))
  · rw [if_neg h1]
    refine ev_neg h1 ?_
    have e : (signPair n).1 % 256 = (signPair n).1 ∧ (signPair n).2.1 % 256 = (signPair n).2.1 := signPair_mod n
    rw [e.1, e.2]
    by_cases h2 : (signPair n).2.2 = true
    · rw [if_pos h2]; exact ev_pos h2 (ev_bind (impl_joined_2 b _ (by simp; omega)) (Ev.now _))
    · rw [if_neg h2]; exact ev_neg h2 (ev_bind (impl_joined_1 b (by omega)) (ev_is (Ev.now _) (by simp)))
theorem impl_nineSign_eq (b : Int) : impl_nineSign.f b = some (nineM b) := by
  unfold impl_nineSign.f nineM
  simp only [apply_ite some]
theorem impl_koiSign_eq (b : Int) (h0 : 128 ≤ b) (h1 : b ≤ 255) : impl_koiSign.f b = some (koiM b) :=
  high_of (P := fun b => impl_koiSign.f b = some (koiM b)) (by decide +kernel) b h0 h1
theorem impl_winSign_eq (b : Int) (h0 : 128 ≤ b) (h1 : b ≤ 255) : impl_winSign.f b = some (winM b) :=
  high_of (P := fun b => impl_winSign.f b = some (winM b)) (by decide +kernel) b h0 h1
theorem impl_ByteSign_ev (cs b : Int) : Ev (fun k => impl_ByteSign.f k cs b) (byteSign cs b) := by
  unfold byteSign
  refine ev_shift (ev_same fun k => ?_)
  simp only [impl_ByteSign.f, impl_ByteSign.j0, impl_within_eq, Option.bind_some, inR_true]
  have fin : ∀ n : Int, (some (n, (n != 0)) : Option (Int × Bool)) = some (if n = 0 then (0, false) else (n, true)) := by
    intro n
    by_cases z : n = 0
    · rw [if_pos z, z]; rfl
    · rw [if_neg z, bne_iff_ne.2 z]
  by_cases h1 : 1 ≤ cs ∧ cs ≤ 4
  · by_cases h2 : 0 ≤ b ∧ b ≤ 255
    · rw [if_pos h1, if_pos (c := (1 ≤ cs ∧ cs ≤ 4) ∧ (0 ≤ b ∧ b ≤ 255)) ⟨h1, h2⟩, inR_true.2 h2]
      simp only [Bool.not_true, Bool.false_eq_true, if_false]
      by_cases h3 : b ≤ 127
      · rw [if_pos h3, if_pos h3]
      · rw [if_neg h3, if_neg h3]
        have hb0 : 128 ≤ b := by omega
        unfold highM
        by_cases c2 : cs = 2
        · rw [if_pos c2, if_pos c2, impl_nineSign_eq]; exact fin _
        · rw [if_neg c2, if_neg c2]
          by_cases c3 : cs = 3
          · rw [if_pos c3, if_pos c3, impl_koiSign_eq b hb0 h2.2]; exact fin _
          · rw [if_neg c3, if_neg c3]
            by_cases c4 : cs = 4
            · rw [if_pos c4, if_pos c4, impl_winSign_eq b hb0 h2.2]; exact fin _
            · rw [if_neg c4, if_neg c4]; exact fin _
    · rw [if_pos h1, if_neg (c := (1 ≤ cs ∧ cs ≤ 4) ∧ (0 ≤ b ∧ b ≤ 255)) (fun z => h2 z.2), inR_false.2 h2]; rfl
  · rw [if_neg h1, if_neg (c := (1 ≤ cs ∧ cs ≤ 4) ∧ (0 ≤ b ∧ b ≤ 255)) (fun z => h1 z.1)]; rfl
theorem impl_SignByte_l0 (cs n : Int) (d : Nat) : ∀ b : Int, 0 ≤ b → b + d = 256 → Ev (fun k => impl_SignByte.l0 k cs n b) (signByteFrom cs n d b) := by
  induction d with
  | zero =>
    intro b h0 h
    refine ev_shift ?_
    simp only [impl_SignByte.l0]
    exact ev_neg (by omega) (Ev.now _)
  | succ d ih =>
    intro b h0 h
    refine ev_shift ?_
    simp only [impl_SignByte.l0]
    rw [w64 (x := b + 1) (by omega) (by omega)]
    refine ev_pos (by omega) (ev_bind (impl_ByteSign_ev cs b) ?_)
    unfold signByteFrom
    by_cases h1 : (byteSign cs b).2 = true
    · by_cases h2 : (byteSign cs b).1 = n
      · rw [if_pos ⟨h1, h2⟩]; exact ev_pos h1 (ev_pos h2 (Ev.now _))
      · rw [if_neg (fun z => h2 z.2)]; exact ev_pos h1 (ev_neg h2 (ih (b + 1) (by omega) (by omega)))
    · rw [if_neg (fun z => h1 z.1)]; exact ev_neg h1 (ih (b + 1) (by omega) (by omega))
theorem impl_SignByte_ev (cs n : Int) : Ev (fun k => impl_SignByte.f k cs n) (signByte cs n) := impl_SignByte_l0 cs n 256 0 (by omega) (by omega)
theorem impl_putIn_ev (cs : Int) (b : List Int) (n : Int) (h : b.length + 8 < 140737488355328) (hn : signOk n = true) : Ev (fun k => impl_putIn.f k cs b n) (putIn cs b n) := by
  simp only [impl_putIn.f]
  by_cases c0 : cs = 0
  · subst c0
    refine ev_pos rfl (ev_bind (impl_PutSign_ev b n (by omega)) (ev_is (Ev.now _) ?_))
    unfold putSign encOk
    rw [putIn_utf hn, if_pos hn]
  · by_cases c5 : cs = 5
    · subst c5
      rw [putIn_euc]
      exact ev_neg c0 (ev_pos rfl (ev_bind (impl_PutEuc_ev b n (by omega)) (Ev.now _)))
    · refine ev_neg c0 (ev_neg c5 (ev_bind (impl_SignByte_ev cs n) ?_))
      by_cases hs : (signByte cs n).2 = true
      · rw [putIn_byte c0 c5 hs]
        exact ev_pos hs (ev_pos (by omega) (Ev.now _))
      · rw [putIn_byte_no c0 c5 hs]
        exact ev_neg hs (Ev.now _)
theorem runes_read (s : ByteArray) : ∀ (l : List Int) (p : Nat), p ≤ s.size → l = (numsOf s).drop p → ∀ ns, readAll utfGet l = some ns → runesFrom s s.size p = ns := by
  have hn := numsOf_length s
  refine read_induct utf_codes.toReads ?_ ?_ ?_
  · intro p hp h ns h2
    rw [readAll_nil] at h2
    obtain rfl := Option.some.inj h2
    have := congrArg List.length h
    rw [List.length_drop, hn, List.length_nil] at this
    exact runes_end s s.size p (by omega)
  · intro l hl hg _ p _ _ ns h2
    rw [readAll_cons utf_codes.toReads hl, hg] at h2; cases h2
  · intro l n k hl hg ih p hp h ns h2
    have h3 := hg
    rw [readAll_cons utf_codes.toReads hl, hg] at h2
    simp only at h2
    obtain ⟨ms, hm, rfl⟩ := Option.map_eq_some_iff.1 h2
    obtain ⟨k1, k2⟩ := utf_codes.toReads.pos hl hg
    have hlen := congrArg List.length h
    rw [List.length_drop, hn] at hlen
    have hps : p < s.size := by omega
    by_cases he : decL l = (65533, 1)
    · rw [utfGet_none hl he] at hg; cases hg
    · rw [utfGet_some hl he] at hg
      injection hg with hg; injection hg with g1 g2
      have hr := (decL_sound l (by rw [h]; exact (numsOf_bytes s).drop p) hl he).1
      have hr2 := signOk_iff.1 hr
      rw [runes_step s p hps, decode_nums s p, ← h, g2, w64 (by omega) (by omega), g1]
      congr 1
      exact ih (p + k) (by omega) (by rw [h, List.drop_drop]) ms hm
theorem impl_Signs_eq (s : ByteArray) (h : s.size ≤ 1099511627776) : impl_Signs.f s = some (signs (numsOf s)) := by
  unfold impl_Signs.f
  rw [if_pos h, valid_read]
  cases hr : readAll utfGet (numsOf s) with
  | none => rw [signs_none hr]; rfl
  | some ns =>
    rw [signs_some hr, runes_read s _ 0 (by omega) (List.drop_zero).symm ns hr]; rfl
theorem impl_EncodeLossy_l0 (cs : Int) (ns : List Int) (hs : ∀ n ∈ ns, signOk n = true) (hl : ns.length ≤ 1048576) (d : Nat) : ∀ (i : Nat) (out : List Int) (c : Nat), i + d = ns.length → out.length ≤ 4 * i → c ≤ i →
    Ev (fun k => impl_EncodeLossy.l0 k cs out (c : Int) ns (ns.length : Int) (i : Int)) (out ++ (writeLossy (codePut cs) (ns.drop i)).1, ((c + (writeLossy (codePut cs) (ns.drop i)).2 : Nat) : Int)) := by
  induction d with
  | zero =>
    intro i out c h0 h1 h2
    refine ev_shift ?_
    simp only [impl_EncodeLossy.l0]
    rw [List.drop_of_length_le (by omega)]
    exact ev_neg (by omega) (ev_is (Ev.now _) (by simp [writeLossy]))
  | succ d ih =>
    intro i out c h0 h1 h2
    have hi : i < ns.length := by omega
    refine ev_shift ?_
    simp only [impl_EncodeLossy.l0, next_nat i (by omega), next_nat c (by omega)]
    rw [drop_cons_at ns i hi]
    refine ev_pos (by omega) (ev_pos (by omega) (ev_pos (by omega) (ev_bind (impl_putIn_ev cs out (rd ns (i : Int)) (by omega) (hs _ (rd_mem ns i hi))) ?_)))
    unfold writeLossy putIn
    cases hx : codePut cs (rd ns (i : Int)) with
    | none =>
      refine ev_neg (by simp) (ev_pos (by omega) (ev_is (ih (i + 1) (out ++ [63]) (c + 1) (by omega) (by rw [List.length_append]; show out.length + 1 ≤ _; omega) (by omega)) ?_))
      simp only [List.append_assoc, List.singleton_append]
      rw [show c + 1 + (writeLossy (codePut cs) (ns.drop (i + 1))).2 = c + ((writeLossy (codePut cs) (ns.drop (i + 1))).2 + 1) by omega]
    | some x =>
      have hxl := codePut_length hx
      refine ev_pos rfl (ev_is (ih (i + 1) (out ++ x) c (by omega) (by rw [List.length_append]; omega) (by omega)) ?_)
      simp only [List.append_assoc]
theorem impl_EncodeLossy_ev (cs : Int) (s : ByteArray) (h : s.size ≤ 1048576) : Ev (fun k => impl_EncodeLossy.f k cs s) (encodeLossy cs s) := by
  have hn := numsOf_length s
  simp only [impl_EncodeLossy.f]
  refine ev_call (impl_Signs_eq s (by omega)) (ev_call (impl_isSet_eq cs) ?_)
  unfold encodeLossy
  by_cases hc : inR cs 0 5 = true
  · rw [if_pos hc]
    refine ev_pos hc (ev_shift ?_)
    simp only [impl_EncodeLossy.j0]
    cases hr : readAll utfGet (numsOf s) with
    | none => rw [signs_none hr]; exact ev_pos (by simp) (Ev.now _)
    | some ns =>
      have h1 := readN_length utf_codes.toReads _ _ hr
      rw [signs_some hr]
      refine ev_neg (by simp) (ev_is (impl_EncodeLossy_l0 cs ns (utf_range (numsOf_bytes s) hr) (by omega) ns.length 0 [] 0 (by omega) (by simp) (by omega)) ?_)
      rw [List.drop_zero, List.nil_append, Nat.zero_add]
  · rw [if_neg hc]
    refine ev_neg hc (ev_shift ?_)
    simp only [impl_EncodeLossy.j0]
    exact ev_pos trivial (Ev.now _)

theorem FnExactEncodeLossy : laws_FnExactEncodeLossy.Pure := by
  intro cs s _ _
  apply Ev.rounds
  simp only [laws_FnExactEncodeLossy.f]
  by_cases h : (s.size : Int) > 1048576
  · exact ev_pos h (Ev.now _)
  · have hw := encodeLossy_length cs s
    refine ev_neg h (ev_bind (spec_EncodeLossy_ev cs s (by omega)) (ev_bind (impl_EncodeLossy_ev cs s (by omega)) (ev_bind (eqByteS_self _ (by omega)) (ev_pos rfl (ev_shift ?_)))))
    simp only [laws_FnExactEncodeLossy.j0]
    refine ev_neg (by simp) (ev_bind (markByteS_ev _ 1 (by omega) (by omega)) (ev_bind (heldByteS_ev 1 _ (by omega) (by omega)) (ev_neg (by omega) (ev_pos rfl ?_))))
    refine ev_bind (impl_EncodeLossy_ev cs s (by omega)) (ev_bind (eqByteS_self _ (by omega)) (ev_pos rfl (ev_shift ?_)))
    simp only [laws_FnExactEncodeLossy.j1]
    exact ev_neg (by simp) (ev_bind (heldByteS_ev 1 _ (by omega) (by omega)) (ev_neg (by omega) (ev_pos rfl (Ev.now _))))

end Go.Proofs.YtpmimhbnmjffpaaDoor.Pure
