/- The law FnExactFeed answers true at every state and every row of bytes: the program's Feed tells what the reference's tells, leaves what it was handed as it was, and hands back memory of its own. -/
import Derived.Test.YtpmimhbnmjffpaaDoorQFnExactFeedx12
import Derived.Test.YtpmimhbnmjffpaaDoorModel
import Derived.Test.YtpmimhbnmjffpaaDoorModelA
import Derived.Test.YtpmimhbnmjffpaaDoorModelC
import Derived.Test.YtpmimhbnmjffpaaDoorModelD
import Derived.Test.YtpmimhbnmjffpaaDoorModelE
import Derived.Test.YtpmimhbnmjffpaaDoorModelF
import Derived.Test.YtpmimhbnmjffpaaDoorModelG
import Derived.Test.YtpmimhbnmjffpaaDoorModelH
import Derived.Test.YtpmimhbnmjffpaaDoorModelS
import Derived.Test.YtpmimhbnmjffpaaDoorModelT
import Derived.Test.YtpmimhbnmjffpaaDoorModelU
namespace Go.Proofs.YtpmimhbnmjffpaaDoor.Pure
open Go.RowKit Go.Proofs.YtpmimhbnmjffpaaDoor.QFnExactFeed Go.Proofs.YtpmimhbnmjffpaaDoorW.PrintWords Go.Proofs.YtpmimhbnmjffpaaDoorW.PrintLast Go.Proofs.YtpmimhbnmjffpaaDoor.Ext Go.Proofs.YtpmimhbnmjffpaaDoor.Xw Go.Proofs.YtpmimhbnmjffpaaDoor.Base Go.Proofs.YtpmimhbnmjffpaaDoor.Model

theorem eqByteS_l0 (a b : List Int) (hl : a.length ≤ 4611686018427387904) (hab : a.length = b.length) (d : Nat) : ∀ (i : Nat), i + d = a.length → (∀ j, j < i → a[j]? = b[j]?) → Ev (fun k => laws_eqByteS.l0 k a b (i : Int)) (decide (a = b)) := by
  induction d with
  | zero =>
    intro i h hj
    refine ev_shift ?_
    simp only [laws_eqByteS.l0]
    refine ev_neg (by omega) (ev_is (Ev.now _) ?_)
    rw [eq_comm, decide_eq_true_eq]
    refine List.ext_getElem? fun j => ?_
    by_cases hji : j < i
    · exact hj j hji
    · rw [List.getElem?_eq_none (by omega), List.getElem?_eq_none (by omega)]
  | succ d ih =>
    intro i h hj
    refine ev_shift ?_
    simp only [laws_eqByteS.l0, next_nat i (by omega)]
    have hi : i < a.length := by omega
    have hi2 : i < b.length := by omega
    refine ev_pos (by omega) (ev_pos (by omega) (ev_pos (by omega) ?_))
    by_cases e : rd a (i : Int) = rd b (i : Int)
    · refine ev_pos e (ih (i + 1) (by omega) fun j hji => ?_)
      by_cases e2 : j = i
      · subst e2; rw [rd_lt a j hi, rd_lt b j hi2] at e; rw [List.getElem?_eq_getElem hi, List.getElem?_eq_getElem hi2, e]
      · exact hj j (by omega)
    · refine ev_neg e (ev_is (Ev.now _) ?_)
      rw [eq_comm, decide_eq_false_iff_not]
      intro hE; subst hE; exact e rfl
theorem eqByteS_ev (a b : List Int) (hl : a.length ≤ 4611686018427387904) : Ev (fun k => laws_eqByteS.f k a b) (decide (a = b)) := by
  simp only [laws_eqByteS.f]
  by_cases e : (a.length : Int) = (b.length : Int)
  · exact ev_pos e (eqByteS_l0 a b hl (by omega) a.length 0 (by omega) fun j hj => by omega)
  · refine ev_neg e (ev_is (Ev.now _) ?_)
    rw [eq_comm, decide_eq_false_iff_not]
    intro hE; subst hE; exact e rfl
theorem eqByteS_self (a : List Int) (hl : a.length ≤ 4611686018427387904) : Ev (fun k => laws_eqByteS.f k a a) true := ev_is (eqByteS_ev a a hl) (by simp)
theorem markByteS_l0 (m : Int) (n : Nat) (hm : 0 ≤ m) (hn : m + n ≤ 4611686018427387904) (d : Nat) : ∀ (i : Nat) (x : List Int), i + d = n → x.length = n → (∀ j, j < i → x[j]? = (marks m n)[j]?) → Ev (fun k => laws_markByteS.l0 k x (m + (i : Int)) (i : Int)) (m + (n : Int), marks m n) := by
  induction d with
  | zero =>
    intro i x h hx hj
    refine ev_shift ?_
    simp only [laws_markByteS.l0]
    refine ev_neg (by omega) (ev_is (Ev.now _) ?_)
    have : x = marks m n := List.ext_getElem? fun j => by
      by_cases hji : j < i
      · exact hj j hji
      · rw [List.getElem?_eq_none (by omega), List.getElem?_eq_none (by rw [marks_length]; omega)]
    rw [this, show i = n by omega]
  | succ d ih =>
    intro i x h hx hj
    refine ev_shift ?_
    simp only [laws_markByteS.l0, next_nat i (by omega)]
    have e : wrap64 (m + (i : Int) + 1) = m + ((i + 1 : Nat) : Int) := by rw [w64 (by omega) (by omega)]; omega
    rw [e]
    refine ev_pos (by omega) (ev_pos (by omega) (ih (i + 1) _ (by omega) (by simpa using hx) fun j hji => ?_))
    rw [Int.toNat_natCast]
    by_cases e : j = i
    · subst e; rw [List.getElem?_set_self (by omega), marks_get m n j (by omega)]
    · rw [List.getElem?_set_ne (by omega)]; exact hj j (by omega)
theorem markByteS_ev (l : List Int) (m : Int) (hm : 0 ≤ m) (hn : m + l.length ≤ 4611686018427387904) : Ev (fun k => laws_markByteS.f k l m) (m + (l.length : Int), marks m l.length) := by
  have h := markByteS_l0 m l.length hm hn l.length 0 l (by omega) rfl (fun j hj => by omega)
  simp only [laws_markByteS.f]
  simpa using h
theorem toByteS_l0 (l : List Int) (hl : l.length ≤ 140737488355328) (d : Nat) : ∀ (i : Nat) (x : List Int), i + d = l.length → x.length = l.length → (∀ j, j < i → x[j]? = l[j]?) → Ev (fun k => laws_toByteS.l0 k l x (i : Int)) l := by
  induction d with
  | zero =>
    intro i x h hx hj
    refine ev_shift ?_
    simp only [laws_toByteS.l0]
    refine ev_neg (by omega) (ev_is (Ev.now _) (List.ext_getElem? fun j => ?_))
    by_cases hji : j < i
    · exact hj j hji
    · rw [List.getElem?_eq_none (by omega), List.getElem?_eq_none (by omega)]
  | succ d ih =>
    intro i x h hx hj
    refine ev_shift ?_
    simp only [laws_toByteS.l0, next_nat i (by omega)]
    refine ev_pos (by omega) (ev_pos (by omega) (ev_pos (by omega) (ih (i + 1) _ (by omega) (by simpa using hx) fun j hji => ?_)))
    have hi : i < l.length := by omega
    rw [rd_lt l i hi, Int.toNat_natCast]
    by_cases e : j = i
    · subst e; rw [List.getElem?_set_self (by omega), List.getElem?_eq_getElem hi]
    · rw [List.getElem?_set_ne (by omega)]; exact hj j (by omega)
theorem toByteS_ev (l : List Int) (hl : l.length ≤ 140737488355328) : Ev (fun k => laws_toByteS.f k l) l := by
  simp only [laws_toByteS.f]
  exact ev_pos (by omega) (ev_pos (by omega) (toByteS_l0 l hl l.length 0 _ (by omega) (by simp) fun j hj => by omega))
theorem szByteS_eq (l : List Int) (a : Int) (h0 : 0 ≤ a) (h1 : a ≤ 1048576) (hl : (l.length : Int) ≤ 9223372036854775807) : laws_szByteS.f l a = some (if (l.length : Int) > a then (-1 : Int) else a - (l.length : Int)) := by
  unfold laws_szByteS.f
  rw [w64 (by omega) (by omega)]
  by_cases h : (l.length : Int) > a
  · rw [if_pos (by omega), if_pos h]
  · rw [if_neg (by omega), if_neg h]
theorem szDec_eq (t : Int) (l : List Int) (c : Bool) (hl : (l.length : Int) ≤ 9223372036854775807) : laws_szDec.f t l c 1048576 = some (if (l.length : Int) > 1048576 then (-1 : Int) else 1048576 - (l.length : Int)) := by
  unfold laws_szDec.f
  rw [szByteS_eq l _ (by omega) (by omega) hl]
  simp only [Option.bind_some]
  by_cases h : (l.length : Int) > 1048576
  · rw [if_pos h, if_pos (by omega)]
  · rw [if_neg h, if_neg (by omega)]
theorem spec_l1In_eq (a b c : Int) : spec_l1In.f a b c = some (inR a b c) := by
  unfold spec_l1In.f inR; by_cases h : a ≥ b <;> simp [h]
theorem spec_l5Cs_eq (n : Int) : spec_l5Cs.f n = some (inR n 0 5) := by
  unfold spec_l5Cs.f; rw [spec_l1In_eq]; rfl
theorem spec_SignOk_eq (n : Int) : spec_SignOk.f n = some (signOk n) := by
  unfold spec_SignOk.f signOk
  simp only [spec_l1In_eq, Option.bind_some]
  cases inR n 0 1114111 <;> simp
theorem spec_PutSign_eq (b : List Int) (n : Int) (h : b.length + 4 < 140737488355328) : spec_PutSign.f b n = some (putSign b n) := by
  have hb : b.length < 140737488355328 := by omega
  unfold spec_PutSign.f putSign encOk
  simp only [Option.bind_some, List.length_nil, Nat.zero_add, List.nil_append, if_pos hb, spec_SignOk_eq]
  by_cases h1 : signOk n = true
  · have hr := signOk_iff.1 h1
    rw [if_pos h1, if_pos h1]
    unfold enc
    simp only [and_63, List.length_cons, List.length_nil]
    by_cases h2 : n ≤ 127
    · rw [if_pos h2, if_pos h2, show n % 256 = n by omega]
    · by_cases h3 : n ≤ 2047
      · rw [if_neg h2, if_pos h3, if_neg h2, if_pos h3, or_192 (by omega) (by omega), or_128 (by omega) (by omega), if_pos (by omega), show (192 + n / 64) % 256 = 192 + n / 64 by omega, show (128 + n % 64) % 256 = 128 + n % 64 by omega]
      · by_cases h4 : n ≤ 65535
        · rw [if_neg h2, if_neg h3, if_pos h4, if_neg h2, if_neg h3, if_pos h4, or_224 (by omega) (by omega), or_128 (by omega) (by omega), or_128 (by omega) (by omega), if_pos (by omega), show (224 + n / 4096) % 256 = 224 + n / 4096 by omega, show (128 + n / 64 % 64) % 256 = 128 + n / 64 % 64 by omega, show (128 + n % 64) % 256 = 128 + n % 64 by omega]
        · rw [if_neg h2, if_neg h3, if_neg h4, if_neg h2, if_neg h3, if_neg h4, or_240 (by omega) (by omega), or_128 (by omega) (by omega), or_128 (by omega) (by omega), or_128 (by omega) (by omega), if_pos (by omega), show (240 + n / 262144) % 256 = 240 + n / 262144 by omega, show (128 + n / 4096 % 64) % 256 = 128 + n / 4096 % 64 by omega, show (128 + n / 64 % 64) % 256 = 128 + n / 64 % 64 by omega, show (128 + n % 64) % 256 = 128 + n % 64 by omega]
  · rw [if_neg h1, if_neg h1]; simp
theorem spec_l2Len_eq (a : Int) (h0 : 0 ≤ a) (h1 : a ≤ 255) : spec_l2Len.f a = some ((l2Len a : Nat) : Int) := by
  unfold spec_l2Len.f l2Len
  rw [w64 (by omega) (by omega)]
  simp only [spec_l1In_eq, Option.bind_some, inR_true]
  by_cases c1 : a < 128
  · rw [if_pos c1, if_pos c1]; rfl
  · by_cases c2 : 194 ≤ a ∧ a ≤ 223
    · rw [if_neg c1, if_pos c2, if_neg c1, if_pos c2]; rfl
    · by_cases c3 : 224 ≤ a ∧ a ≤ 239
      · rw [if_neg c1, if_neg c2, if_pos c3, if_neg c1, if_neg c2, if_pos c3]; rfl
      · by_cases c4 : 240 ≤ a ∧ a ≤ 244
        · rw [if_neg c1, if_neg c2, if_neg c3, if_pos c4, if_neg c1, if_neg c2, if_neg c3, if_pos c4]; rfl
        · rw [if_neg c1, if_neg c2, if_neg c3, if_neg c4, if_neg c1, if_neg c2, if_neg c3, if_neg c4]; rfl
/-- The end: is it a sign, and do its bytes stand there? -/
def endSign (b : List Int) (p k : Nat) (n : Int) : Int × Int × Bool := if signOk n = true ∧ enc n = (b.drop p).take k then (n, (p : Int) + k, true) else (0, 0, false)
theorem spec_GetSign_end (b : List Int) (p k : Nat) (n : Int) (hpk : p + k ≤ b.length) (hb : Bytes b) (hl : b.length ≤ 4611686018427387904) :
    Ev (fun f => spec_GetSign.l0 f b (p : Int) (k : Int) n (k : Int)) (endSign b p k n) := by
  refine ev_shift ?_
  have e : wrap64 ((p : Int) + (k : Int)) = ((p + k : Nat) : Int) := by rw [w64 (by omega) (by omega)]; omega
  have e2 : (b.take (p + k)).drop p = (b.drop p).take k := by rw [List.drop_take]; congr 1; omega
  simp only [spec_GetSign.l0, e, Int.toNat_natCast, e2]
  refine ev_neg (by omega) (ev_call (spec_SignOk_eq n) ?_)
  unfold endSign
  by_cases hs : signOk n = true
  · refine ev_pos hs (ev_call (spec_PutSign_eq [] n (by simp)) (ev_pos (by omega) (ev_pos (by omega) (ev_pos (by omega) ?_))))
    have e3 : putSign [] n = enc n := by unfold putSign encOk; rw [if_pos hs]; rfl
    rw [e3]
    by_cases he : enc n = (b.drop p).take k
    · have hE : (if signOk n = true ∧ enc n = (b.drop p).take k then (n, (p : Int) + (k : Int), true) else (0, 0, false)) = (n, (p : Int) + (k : Int), true) := if_pos ⟨hs, he⟩
      rw [hE]; exact ev_pos (by rw [he]) (ev_is (Ev.now _) (by simp))
    · have hE : (if signOk n = true ∧ enc n = (b.drop p).take k then (n, (p : Int) + (k : Int), true) else (0, 0, false)) = (0, 0, false) := if_neg (fun z => he z.2)
      rw [hE]; exact ev_neg (fun z => he (strOfNums_inj (enc_bytes hs) ((hb.drop p).take k) z)) (Ev.now _)
  · have hE : (if signOk n = true ∧ enc n = (b.drop p).take k then (n, (p : Int) + (k : Int), true) else (0, 0, false)) = (0, 0, false) := if_neg (fun z => hs z.1)
    rw [hE]; exact ev_neg hs (Ev.now _)
/-- The bytes behind the first, one by one. -/
def contSign (b : List Int) (p k : Nat) : Nat → Nat → Int → Int × Int × Bool
  | 0, _, n => endSign b p k n
  | d + 1, i, n => if b.getD (p + i) 0 / 64 = 2 then contSign b p k d (i + 1) (Go.bits .or .i64 (wrap64 (n * 64)) (b.getD (p + i) 0 % 64)) else (0, 0, false)
theorem spec_GetSign_l0 (b : List Int) (p k : Nat) (hpk : p + k ≤ b.length) (hb : Bytes b) (hl : b.length ≤ 4611686018427387904) (d : Nat) :
    ∀ (i : Nat) (n : Int), i + d = k → Ev (fun f => spec_GetSign.l0 f b (p : Int) (k : Int) n (i : Int)) (contSign b p k d i n) := by
  induction d with
  | zero => intro i n h; obtain rfl : i = k := (by omega); exact spec_GetSign_end b p i n hpk hb hl
  | succ d ih =>
    intro i n h
    refine ev_shift ?_
    have e : wrap64 ((p : Int) + (i : Int)) = ((p + i : Nat) : Int) := by rw [w64 (by omega) (by omega)]; omega
    have hr := hb.rd ((p + i : Nat) : Int)
    rw [rd_nat] at hr
    have e2 : wrap64 (Go.bits .and .u8 (b.getD (p + i) 0) 63) = b.getD (p + i) 0 % 64 := by rw [u8_and63 _ (by omega) (by omega), w64 (by omega) (by omega)]
    simp only [spec_GetSign.l0, e, rd_nat, and192 hr.1 hr.2, e2, next_nat i (by omega)]
    refine ev_pos (by omega) (ev_pos (by omega) (ev_pos (by omega) ?_))
    unfold contSign
    by_cases hc : b.getD (p + i) 0 / 64 = 2
    · rw [if_pos hc]; exact ev_pos (by omega) (ih (i + 1) _ (by omega))
    · rw [if_neg hc]; exact ev_neg (by omega) (Ev.now _)
theorem u64_small (n : Nat) (h : n ≤ 4) : IntKind.u64.wrap (n : Int) = (n : Int) := by
  simp [IntKind.wrap, IntKind.bits, IntKind.signed]; omega
/-- What the first byte gives. -/
def headSign (a : Int) : Int := if l2Len a > 1 then Go.bits .and .i64 a (shr .i64 127 (IntKind.u64.wrap (l2Len a : Int))) else a
theorem spec_GetSign_walk (b : List Int) (p : Nat) (hb : Bytes b) (hl : b.length ≤ 4611686018427387904) (hp : p < b.length) :
    Ev (fun f => spec_GetSign.f f b (p : Int)) (if l2Len (b.getD p 0) = 0 ∨ p + l2Len (b.getD p 0) > b.length then (0, 0, false) else contSign b p (l2Len (b.getD p 0)) (l2Len (b.getD p 0) - 1) 1 (headSign (b.getD p 0))) := by
  have hr := hb.rd (p : Int)
  rw [rd_nat] at hr
  have h4 := l2Len_le (b.getD p 0)
  simp only [spec_GetSign.f, spec_l1In_eq, Option.bind_some, inR_true]
  rw [w64 (x := (b.length : Int) - 1) (by omega) (by omega)]
  refine ev_pos (by omega) (ev_pos (by omega) (ev_pos (by omega) ?_))
  rw [rd_nat]
  refine ev_call (spec_l2Len_eq _ hr.1 hr.2) ?_
  rw [w64 (x := (b.length : Int) - (p : Int)) (by omega) (by omega)]
  by_cases h0 : l2Len (b.getD p 0) = 0
  · rw [if_pos (Or.inl h0)]
    refine ev_pos (by omega) (ev_shift ?_)
    simp only [spec_GetSign.j0]
    exact ev_pos trivial (Ev.now _)
  · refine ev_neg (by omega) (ev_shift ?_)
    simp only [spec_GetSign.j0]
    by_cases h1 : p + l2Len (b.getD p 0) > b.length
    · rw [if_pos (Or.inr h1)]; exact ev_pos (by rw [decide_eq_true_eq]; omega) (Ev.now _)
    · rw [if_neg (by omega)]
      refine ev_neg (by rw [decide_eq_true_eq]; omega) (ev_pos (by omega) (ev_pos (by omega) ?_))
      rw [rd_nat, w64 (x := b.getD p 0) (by omega) (by omega)]
      unfold headSign
      by_cases h2 : l2Len (b.getD p 0) > 1
      · rw [if_pos h2]
        refine ev_pos (by omega) (ev_pos (by rw [u64_small _ h4]; omega) (ev_shift ?_))
        simp only [spec_GetSign.j1]
        exact spec_GetSign_l0 b p _ (by omega) hb hl _ 1 _ (by omega)
      · rw [if_neg h2]
        refine ev_neg (by omega) (ev_shift ?_)
        simp only [spec_GetSign.j1]
        exact spec_GetSign_l0 b p _ (by omega) hb hl _ 1 _ (by omega)
theorem contSign_none (b : List Int) (p k : Nat) (h : decL (b.drop p) = (65533, 1)) (d : Nat) : ∀ (i : Nat) (n : Int), contSign b p k d i n = (0, 0, false) := by
  induction d with
  | zero =>
    intro i n
    unfold contSign endSign
    exact if_neg fun z => decL_none h z.1 z.2
  | succ d ih =>
    intro i n
    unfold contSign
    by_cases hc : b.getD (p + i) 0 / 64 = 2
    · rw [if_pos hc]; exact ih _ _
    · rw [if_neg hc]
theorem or_64 {x y : Int} (h0 : 0 ≤ x) (h1 : x ≤ 100000000) (h2 : 0 ≤ y) (h3 : y < 64) : Go.bits .or .i64 (wrap64 (x * 64)) y = x * 64 + y := by
  rw [w64 (by omega) (by omega)]
  exact bits_join .i64 62 (by decide) wraps_i64 6 (x * 64) y (by omega) (by omega) (by omega) h2 (by omega) (by omega)
theorem and_i64_31 (x : Int) (h0 : 0 ≤ x) (h1 : x ≤ 255) : Go.bits .and .i64 x 31 = x % 32 := bits_mask .i64 62 (by decide) wraps_i64 5 (by decide) x h0 (by omega)
theorem and_i64_15 (x : Int) (h0 : 0 ≤ x) (h1 : x ≤ 255) : Go.bits .and .i64 x 15 = x % 16 := bits_mask .i64 62 (by decide) wraps_i64 4 (by decide) x h0 (by omega)
theorem and_i64_7 (x : Int) (h0 : 0 ≤ x) (h1 : x ≤ 255) : Go.bits .and .i64 x 7 = x % 8 := bits_mask .i64 62 (by decide) wraps_i64 3 (by decide) x h0 (by omega)
theorem shr_2 : shr .i64 127 (IntKind.u64.wrap ((2 : Nat) : Int)) = 31 := by decide
theorem shr_3 : shr .i64 127 (IntKind.u64.wrap ((3 : Nat) : Int)) = 15 := by decide
theorem shr_4 : shr .i64 127 (IntKind.u64.wrap ((4 : Nat) : Int)) = 7 := by decide
theorem contSign_enc (b : List Int) (p : Nat) (n : Int) (hs : signOk n = true) (he : enc n = (b.drop p).take (enc n).length) (hpk : p + (enc n).length ≤ b.length) :
    l2Len (b.getD p 0) = (enc n).length ∧ contSign b p (enc n).length ((enc n).length - 1) 1 (headSign (b.getD p 0)) = (n, (p : Int) + (enc n).length, true) := by
  have hg : ∀ i, i < (enc n).length → b.getD (p + i) 0 = (enc n).getD i 0 := by
    intro i hi
    have h1 : (enc n)[i]? = b[p + i]? := by
      have h2 : ((b.drop p).take (enc n).length)[i]? = b[p + i]? := by rw [List.getElem?_take_of_lt hi, List.getElem?_drop]
      rw [← he] at h2; exact h2
    rw [List.getD_eq_getElem?_getD, List.getD_eq_getElem?_getD, h1]
  have hend : ∀ m : Int, m = n → endSign b p (enc n).length m = (n, (p : Int) + (enc n).length, true) := by
    intro m hm; subst hm; unfold endSign; rw [if_pos ⟨hs, he⟩]
  rcases enc_cases hs with ⟨a, c, e⟩ | ⟨a, c, e⟩ | ⟨a, c, c2, e⟩ | ⟨a, c, e⟩
  · have g0 := hg 0 (by rw [e]; simp)
    rw [Nat.add_zero, e] at g0
    simp only [List.getD_cons_zero] at g0
    have hl : l2Len n = 1 := by unfold l2Len; rw [if_pos (by omega)]
    rw [g0, hl]
    refine ⟨by rw [e]; rfl, ?_⟩
    rw [show (enc n).length - 1 = 0 by rw [e]; rfl]
    unfold contSign
    refine hend _ ?_
    unfold headSign; rw [hl]; rfl
  · have g0 := hg 0 (by rw [e]; simp)
    have g1 := hg 1 (by rw [e]; simp)
    rw [e] at g0 g1
    rw [Nat.add_zero] at g0
    simp only [List.getD_cons_zero, List.getD_cons_succ] at g0 g1
    have hl : l2Len (192 + n / 64) = 2 := by unfold l2Len; rw [if_neg (by omega), if_pos (by omega)]
    have hh : headSign (192 + n / 64) = n / 64 := by
      unfold headSign; rw [hl, if_pos (by decide), shr_2, and_i64_31 _ (by omega) (by omega)]; omega
    rw [g0, hl, hh]
    refine ⟨by rw [e]; rfl, ?_⟩
    rw [show (enc n).length - 1 = 1 by rw [e]; rfl]
    unfold contSign
    rw [g1, if_pos (by omega), or_64 (by omega) (by omega) (by omega) (by omega)]
    unfold contSign
    exact hend _ (by omega)
  · have g0 := hg 0 (by rw [e]; simp)
    have g1 := hg 1 (by rw [e]; simp)
    have g2 := hg 2 (by rw [e]; simp)
    rw [e] at g0 g1 g2
    rw [Nat.add_zero] at g0
    simp only [List.getD_cons_zero, List.getD_cons_succ] at g0 g1 g2
    have hl : l2Len (224 + n / 4096) = 3 := by unfold l2Len; rw [if_neg (by omega), if_neg (by omega), if_pos (by omega)]
    have hh : headSign (224 + n / 4096) = n / 4096 := by
      unfold headSign; rw [hl, if_pos (by decide), shr_3, and_i64_15 _ (by omega) (by omega)]; omega
    rw [g0, hl, hh]
    refine ⟨by rw [e]; rfl, ?_⟩
    rw [show (enc n).length - 1 = 2 by rw [e]; rfl]
    unfold contSign
    rw [g1, if_pos (by omega), or_64 (by omega) (by omega) (by omega) (by omega)]
    unfold contSign
    rw [g2, if_pos (by omega), or_64 (by omega) (by omega) (by omega) (by omega)]
    unfold contSign
    exact hend _ (by omega)
  · have g0 := hg 0 (by rw [e]; simp)
    have g1 := hg 1 (by rw [e]; simp)
    have g2 := hg 2 (by rw [e]; simp)
    have g3 := hg 3 (by rw [e]; simp)
    rw [e] at g0 g1 g2 g3
    rw [Nat.add_zero] at g0
    simp only [List.getD_cons_zero, List.getD_cons_succ] at g0 g1 g2 g3
    have hl : l2Len (240 + n / 262144) = 4 := by unfold l2Len; rw [if_neg (by omega), if_neg (by omega), if_neg (by omega), if_pos (by omega)]
    have hh : headSign (240 + n / 262144) = n / 262144 := by
      unfold headSign; rw [hl, if_pos (by decide), shr_4, and_i64_7 _ (by omega) (by omega)]; omega
    rw [g0, hl, hh]
    refine ⟨by rw [e]; rfl, ?_⟩
    rw [show (enc n).length - 1 = 3 by rw [e]; rfl]
    unfold contSign
    rw [g1, if_pos (by omega), or_64 (by omega) (by omega) (by omega) (by omega)]
    unfold contSign
    rw [g2, if_pos (by omega), or_64 (by omega) (by omega) (by omega) (by omega)]
    unfold contSign
    rw [g3, if_pos (by omega), or_64 (by omega) (by omega) (by omega) (by omega)]
    unfold contSign
    exact hend _ (by omega)
theorem spec_GetSign_ev (b : List Int) (p : Int) (hb : Bytes b) (hl : b.length ≤ 4611686018427387904) : Ev (fun f => spec_GetSign.f f b p) (getSign b p) := by
  unfold getSign
  by_cases hp : 0 ≤ p ∧ p < b.length
  · rw [if_pos hp]
    obtain ⟨p, rfl⟩ := Int.eq_ofNat_of_zero_le hp.1
    rw [Int.toNat_natCast]
    have hpl : p < b.length := by omega
    refine ev_is (spec_GetSign_walk b p hb hl hpl) ?_
    by_cases hd : decL (b.drop p) = (65533, 1)
    · rw [if_pos hd]
      by_cases h1 : l2Len (b.getD p 0) = 0 ∨ p + l2Len (b.getD p 0) > b.length
      · rw [if_pos h1]
      · rw [if_neg h1]; exact contSign_none b p _ hd _ _ _
    · rw [if_neg hd]
      obtain ⟨hs, he, hk⟩ := decL_sound (b.drop p) (hb.drop p) (by intro z; have := congrArg List.length z; simp at this; omega) hd
      have hle : (enc ((decL (b.drop p)).1 : Int)).length ≤ (b.drop p).length := by have h9 := congrArg List.length he; rw [List.length_append] at h9; omega
      have he2 : enc ((decL (b.drop p)).1 : Int) = (b.drop p).take (enc ((decL (b.drop p)).1 : Int)).length := (take_of he rfl).symm
      rw [List.length_drop] at hle
      obtain ⟨h1, h2⟩ := contSign_enc b p _ hs he2 (by omega)
      rw [h1, if_neg (by have := enc_pos ((decL (b.drop p)).1 : Int); omega), h2, hk]
  · rw [if_neg hp]
    simp only [spec_GetSign.f, spec_l1In_eq, Option.bind_some, inR_true]
    rw [w64 (x := (b.length : Int) - 1) (by omega) (by omega)]
    exact ev_neg (by omega) (Ev.now _)
theorem set_at_one (x : Int) (l : List Int) : l.set (1 : Int).toNat x = l.set 1 x := rfl
theorem good_of {b : List Int} : (getSign b 0).2.2 = good b := rfl
theorem and_good {f : Nat → Option (Int × Int × Bool)} {g : Nat → Option (Int × Int × Bool)} {a b : List Int} {r : Bool} (h1 : Ev f (getSign a 0)) (h2 : Ev g (getSign b 0)) (h : (good a && good b) = r) :
    Ev (fun k => (f k).bind fun x => (g k).bind fun y => if x.2.2 = true then some y.2.2 else some false) r := by
  refine ev_bind h1 (ev_bind h2 ?_)
  rw [good_of, good_of]
  by_cases z : good a = true
  · rw [z, Bool.true_and] at h; exact ev_pos z (ev_is (Ev.now _) h)
  · rw [Bool.eq_false_iff.2 z, Bool.false_and] at h; exact ev_neg z (ev_is (Ev.now _) h)
theorem spec_l6Utf_end (l : List Int) (hb : Bytes l) (hl : l ≠ []) (h : l.length < l2Len (l.getD 0 0)) :
    Ev (fun k => spec_l6Utf.l0 k l (l2Len (l.getD 0 0) : Nat) (l ++ List.replicate (l2Len (l.getD 0 0) - l.length) 128) (l ++ List.replicate (l2Len (l.getD 0 0) - l.length) 191)) (begUtf l) := by
  have h0 : 0 < l.length := List.length_pos_iff.2 hl
  have h4 := l2Len_le (l.getD 0 0)
  have hr := hb.rd 0
  have er : rd l 0 = l.getD 0 0 := rd_nat l 0
  rw [er] at hr
  have lenL : ∀ x : Int, (l ++ List.replicate (l2Len (l.getD 0 0) - l.length) x).length = l2Len (l.getD 0 0) := fun x => by rw [List.length_append, List.length_replicate]; omega
  have byL : ∀ x : Int, 0 ≤ x ∧ x ≤ 255 → Bytes (l ++ List.replicate (l2Len (l.getD 0 0) - l.length) x) := fun x hx => hb.append (fun y hy => by
    have := (List.mem_replicate.1 hy).2
    omega)
  have bySet : ∀ (a : List Int) (x : Int), Bytes a → 0 ≤ x ∧ x ≤ 255 → Bytes (a.set 1 x) := fun a x ha hx y hy => by
    rcases List.mem_or_eq_of_mem_set hy with z | z
    · exact ha y z
    · omega
  refine ev_shift ?_
  simp only [spec_l6Utf.l0, set_at_one, er]
  refine ev_neg (by rw [lenL]; omega) ?_
  have ev : ∀ a : List Int, Bytes a → a.length ≤ 8 → Ev (fun k => spec_GetSign.f k a 0) (getSign a 0) := fun a ha hl => spec_GetSign_ev a 0 ha (by omega)
  have bl := byL 128 (by omega); have bh := byL 191 (by omega)
  have nl := lenL 128; have nh := lenL 191
  by_cases h1 : l.length = 1
  · obtain ⟨a, rfl⟩ := List.length_eq_one_iff.1 h1
    have k := one_good hr.1 hr.2 (by omega)
    simp only [List.getD_cons_zero, List.length_singleton, List.singleton_append] at k nl nh bl bh h h4 ⊢
    generalize hL : a :: List.replicate (l2Len a - 1) 128 = L at *
    generalize hH : a :: List.replicate (l2Len a - 1) 191 = H at *
    unfold fixLow fixHigh at k
    refine ev_pos (by simp) (ev_pos (by simp) ?_)
    by_cases a0 : a = 224
    · rw [if_pos a0, if_neg (by omega), if_neg (by omega)] at k
      exact ev_pos a0 (ev_pos (by omega) (and_good (ev _ (bySet _ _ bl (by omega)) (by rw [List.length_set]; omega)) (ev _ bh (by omega)) (by rw [k.1, k.2.1, k.2.2]; rfl)))
    · refine ev_neg a0 ?_
      by_cases a1 : a = 237
      · rw [if_neg a0, if_neg (by omega), if_pos a1] at k
        exact ev_pos a1 (ev_pos (by omega) (and_good (ev _ bl (by omega)) (ev _ (bySet _ _ bh (by omega)) (by rw [List.length_set]; omega)) (by rw [k.1, k.2.1, k.2.2]; rfl)))
      · refine ev_neg a1 ?_
        by_cases a2 : a = 240
        · rw [if_neg a0, if_pos a2, if_neg a1, if_neg (by omega)] at k
          exact ev_pos a2 (ev_pos (by omega) (and_good (ev _ (bySet _ _ bl (by omega)) (by rw [List.length_set]; omega)) (ev _ bh (by omega)) (by rw [k.1, k.2.1, k.2.2]; rfl)))
        · refine ev_neg a2 ?_
          by_cases a3 : a = 244
          · rw [if_neg a0, if_neg a2, if_neg a1, if_pos a3] at k
            exact ev_pos a3 (ev_pos (by omega) (and_good (ev _ bl (by omega)) (ev _ (bySet _ _ bh (by omega)) (by rw [List.length_set]; omega)) (by rw [k.1, k.2.1, k.2.2]; rfl)))
          · rw [if_neg a0, if_neg a2, if_neg a1, if_neg a3] at k
            exact ev_neg a3 (and_good (ev _ bl (by omega)) (ev _ bh (by omega)) (by rw [k.1, k.2.1, k.2.2]; rfl))
  · refine ev_neg (by omega) (and_good (ev _ bl (by omega)) (ev _ bh (by omega)) ?_)
    rw [more_good hb 128 (.inl rfl) (by omega) h, more_good hb 191 (.inr rfl) (by omega) h, Bool.and_self]
theorem spec_l6Utf_l0 (l : List Int) (sz : Nat) (hsz : sz ≤ 4) (r : Bool) (d : Nat) : ∀ low high : List Int, low.length + d = sz → high.length + d = sz →
    Ev (fun k => spec_l6Utf.l0 k l (sz : Int) (low ++ List.replicate d 128) (high ++ List.replicate d 191)) r → Ev (fun k => spec_l6Utf.l0 k l (sz : Int) low high) r := by
  induction d with
  | zero => intro low high _ _ h; simpa using h
  | succ d ih =>
    intro low high h1 h2 h
    refine ev_shift ?_
    simp only [spec_l6Utf.l0]
    refine ev_pos (by omega) (ev_pos (by omega) (ev_pos (by omega) (ih (low ++ [128]) (high ++ [191]) (by rw [List.length_append]; show low.length + 1 + d = sz; omega) (by rw [List.length_append]; show high.length + 1 + d = sz; omega) ?_)))
    rw [List.append_assoc, List.append_assoc]
    exact h
theorem spec_l6Utf_ev (l : List Int) (hb : Bytes l) (hlen : l.length ≤ 4611686018427387904) : Ev (fun k => spec_l6Utf.f k l) (begUtf l) := by
  simp only [spec_l6Utf.f]
  by_cases hl : l = []
  · subst hl; exact ev_pos (by simp) (ev_is (Ev.now _) rfl)
  · have h0 : 0 < l.length := List.length_pos_iff.2 hl
    have hr := hb.rd 0
    have er : rd l 0 = l.getD 0 0 := rd_nat l 0
    refine ev_neg (by omega) (ev_pos (by omega) (ev_call (spec_l2Len_eq _ hr.1 hr.2) ?_))
    rw [er]
    have h4 := l2Len_le (l.getD 0 0)
    by_cases h : (l2Len (l.getD 0 0) : Nat) ≤ l.length
    · exact ev_pos (by omega) (ev_is (Ev.now _) (beg_short hb h (byte_nat hb 0)).symm)
    · simp only [Option.bind_some, List.nil_append, List.length_nil, Nat.zero_add]
      refine ev_neg (by omega) (ev_pos (by omega) (ev_pos (by omega) ?_))
      exact spec_l6Utf_l0 l _ h4 _ (l2Len (l.getD 0 0) - l.length) l l (by omega) (by omega) (spec_l6Utf_end l hb hl (by omega))
theorem begins_5 (l : List Int) : begins 5 l = (decide (l.length = 1) && inR (rd l 0) 164 165) := by unfold begins; rw [if_neg (by decide), if_pos rfl]
theorem begins_0 (l : List Int) : begins 0 l = begUtf l := by unfold begins; rw [if_pos rfl]
theorem begins_no {cs : Int} (c0 : cs ≠ 0) (c5 : cs ≠ 5) (l : List Int) : begins cs l = false := by unfold begins; rw [if_neg c0, if_neg c5]
theorem spec_l6Begins_ev (cs : Int) (l : List Int) (hb : Bytes l) (hl : l.length ≤ 4611686018427387904) : Ev (fun k => spec_l6Begins.f k cs l) (begins cs l) := by
  simp only [spec_l6Begins.f]
  by_cases c5 : cs = 5
  · subst c5
    rw [begins_5]
    refine ev_pos rfl ?_
    by_cases h1 : l.length = 1
    · rw [decide_eq_true h1, Bool.true_and]
      refine ev_pos (by omega) (ev_pos (by omega) ?_)
      by_cases h2 : rd l 0 = 164
      · exact ev_pos h2 (ev_is (Ev.now _) (by rw [h2]; rfl))
      · refine ev_neg h2 (ev_is (Ev.now _) ?_)
        rw [Bool.eq_iff_iff, beq_iff_eq, inR_true]; omega
    · rw [decide_eq_false h1, Bool.false_and]; exact ev_neg (by omega) (Ev.now _)
  · refine ev_neg c5 ?_
    by_cases c0 : cs = 0
    · subst c0; rw [begins_0]; exact ev_pos rfl (ev_bind (spec_l6Utf_ev l hb hl) (Ev.now _))
    · rw [begins_no c0 c5]; exact ev_neg c0 (Ev.now _)
theorem spec_DecOk_ev (cs : Int) (l : List Int) (c : Bool) (hb : Bytes l) (hl : l.length ≤ 4611686018427387904) : Ev (fun k => spec_DecOk.f k cs l c) (decOk cs l c) := by
  simp only [spec_DecOk.f]
  refine ev_call (spec_l5Cs_eq cs) ?_
  unfold decOk
  by_cases h : inR cs 0 5 = true
  · rw [h, Bool.true_and]
    refine ev_pos rfl ?_
    by_cases hn : l = []
    · subst hn; exact ev_pos (by simp) (ev_is (Ev.now _) (by simp))
    · have h1 : 0 < l.length := List.length_pos_iff.2 hn
      rw [decide_eq_false hn, Bool.false_or]
      refine ev_neg (by omega) ?_
      cases c with
      | true => exact ev_pos rfl (Ev.now _)
      | false => exact ev_neg (by simp) (ev_bind (spec_l6Begins_ev cs l hb hl) (ev_is (Ev.now _) (by simp)))
  · rw [Bool.eq_false_iff.2 h, Bool.false_and]; exact ev_neg (by simp) (Ev.now _)
theorem spec_PairSign_ev (a b : Int) : Ev (fun k => spec_PairSign.f k a b) (pairSign a b) := by
  refine ev_shift (ev_same fun k => ?_)
  simp only [spec_PairSign.f, spec_PairSign.j0, spec_l1In_eq, Option.bind_some, inR_true]
  unfold pairSign
  by_cases h : a = 164
  · by_cases h2 : 161 ≤ b ∧ b ≤ 243
    · rw [if_pos h, if_pos h2, if_pos ⟨h, h2.1, h2.2⟩, w64 (x := 12353 + b) (by omega) (by omega), w64 (by omega) (by omega)]
    · rw [if_pos h, if_neg h2, if_neg (c := a = 165) (by omega), if_neg (c := a = 164 ∧ 161 ≤ b ∧ b ≤ 243) (by omega), if_neg (c := a = 165 ∧ 161 ≤ b ∧ b ≤ 246) (by omega)]
  · rw [if_neg h, if_neg (by decide), if_neg (c := a = 164 ∧ 161 ≤ b ∧ b ≤ 243) (by omega)]
    by_cases h1 : a = 165
    · by_cases h2 : 161 ≤ b ∧ b ≤ 246
      · rw [if_pos h1, if_pos h2, if_pos ⟨h1, h2.1, h2.2⟩, w64 (x := 12449 + b) (by omega) (by omega), w64 (by omega) (by omega)]
      · rw [if_pos h1, if_neg h2, if_neg (c := a = 165 ∧ 161 ≤ b ∧ b ≤ 246) (by omega)]
    · rw [if_neg h1, if_neg (c := a = 165 ∧ 161 ≤ b ∧ b ≤ 246) (by omega)]
theorem spec_EucSign_ev (b : List Int) (p : Int) (hb : Bytes b) (hl : b.length ≤ 4611686018427387904) : Ev (fun k => spec_EucSign.f k b p) (eucSign b p) := by
  have r0 := hb.rd p
  have r1 := hb.rd (p + 1)
  have e1 : wrap64 ((b.length : Int) - 1) = (b.length : Int) - 1 := w64 (by omega) (by omega)
  have e2 : wrap64 (rd b p) = rd b p := w64 (by omega) (by omega)
  have e3 : wrap64 (rd b (p + 1)) = rd b (p + 1) := w64 (by omega) (by omega)
  unfold eucSign
  simp only [spec_EucSign.f, spec_l1In_eq, Option.bind_some, inR_true, e1, e2]
  by_cases h : 0 ≤ p ∧ p < b.length
  · have e4 : wrap64 (p + 1) = p + 1 := w64 (by omega) (by omega)
    have e5 : wrap64 (p + 2) = p + 2 := w64 (by omega) (by omega)
    rw [if_pos h]
    simp only [e4, e5, e3]
    refine ev_pos (by omega) (ev_pos h.1 (ev_pos h.2 ?_))
    by_cases h1 : rd b p ≤ 127
    · rw [if_pos h1]; exact ev_pos (by omega) (Ev.now _)
    · rw [if_neg h1]
      refine ev_neg (by omega) ?_
      by_cases h2 : p + 1 < b.length
      · refine ev_neg (by omega) (ev_pos (by omega) (ev_pos h2 (ev_bind (spec_PairSign_ev _ _) ?_)))
        by_cases h3 : (pairSign (rd b p) (rd b (p + 1))).2 = true
        · rw [if_pos (c := p + 1 < (b.length : Int) ∧ (pairSign (rd b p) (rd b (p + 1))).2 = true) ⟨h2, h3⟩]; exact ev_pos h3 (Ev.now _)
        · rw [if_neg (c := p + 1 < (b.length : Int) ∧ (pairSign (rd b p) (rd b (p + 1))).2 = true) (fun z => h3 z.2)]; exact ev_neg h3 (Ev.now _)
      · rw [if_neg (c := p + 1 < (b.length : Int) ∧ (pairSign (rd b p) (rd b (p + 1))).2 = true) (fun z => h2 z.1)]; exact ev_pos (by omega) (Ev.now _)
  · rw [if_neg h]; exact ev_neg (by omega) (Ev.now _)
theorem spec_l3Nine_eq (b : Int) : spec_l3Nine.f b = some (nineM b) := by
  unfold spec_l3Nine.f nineM
  simp only [apply_ite some]
theorem spec_l3Koi_eq (b : Int) (h0 : 128 ≤ b) (h1 : b ≤ 255) : spec_l3Koi.f b = some (if koiM b = 0 then -1 else koiM b) :=
  high_of (P := fun b => spec_l3Koi.f b = some (if koiM b = 0 then -1 else koiM b)) (by decide +kernel) b h0 h1
theorem koi_pos (b : Int) (h0 : 128 ≤ b) (h1 : b ≤ 255) : 0 ≤ koiM b := high_of (P := fun b => 0 ≤ koiM b) (by decide +kernel) b h0 h1
theorem spec_l3Win_eq (b : Int) (h0 : 128 ≤ b) (h1 : b ≤ 255) : spec_l3Win.f b = some (if winM b = 0 then -1 else winM b) :=
  high_of (P := fun b => spec_l3Win.f b = some (if winM b = 0 then -1 else winM b)) (by decide +kernel) b h0 h1
theorem win_pos (b : Int) (h0 : 128 ≤ b) (h1 : b ≤ 255) : 0 ≤ winM b := high_of (P := fun b => 0 ≤ winM b) (by decide +kernel) b h0 h1
theorem nine_pos (b : Int) (h0 : 128 ≤ b) (h1 : b ≤ 255) : 1 ≤ nineM b := high_of (P := fun b => 1 ≤ nineM b) (by decide +kernel) b h0 h1
theorem spec_ByteSign_ev (cs b : Int) : Ev (fun k => spec_ByteSign.f k cs b) (byteSign cs b) := by
  unfold byteSign
  refine ev_shift (ev_same fun k => ?_)
  simp only [spec_ByteSign.f, spec_ByteSign.j0, spec_l1In_eq, Option.bind_some, inR_true]
  by_cases h1 : 1 ≤ cs ∧ cs ≤ 4
  · by_cases h2 : 0 ≤ b ∧ b ≤ 255
    · rw [if_pos h1, if_pos (c := (1 ≤ cs ∧ cs ≤ 4) ∧ (0 ≤ b ∧ b ≤ 255)) ⟨h1, h2⟩, inR_true.2 h2]
      simp only [Bool.not_true, Bool.false_eq_true, if_false]
      by_cases h3 : b ≤ 127
      · rw [if_neg (by omega), if_neg (by omega), if_pos h3]
      · rw [if_pos (by omega), if_neg h3]
        have hb0 : 128 ≤ b := by omega
        unfold highM
        by_cases c2 : cs = 2
        · have := nine_pos b hb0 h2.2
          rw [if_pos c2, if_pos c2, spec_l3Nine_eq]; simp only [Option.bind_some]
          rw [if_neg (by omega), if_neg (by omega)]
        · rw [if_neg c2, if_neg c2]
          by_cases c3 : cs = 3
          · have := koi_pos b hb0 h2.2
            rw [if_pos c3, if_pos c3, spec_l3Koi_eq b hb0 h2.2]; simp only [Option.bind_some]
            by_cases z : koiM b = 0
            · rw [if_pos z, if_pos z, if_pos (by decide)]
            · rw [if_neg z, if_neg z, if_neg (by omega)]
          · rw [if_neg c3, if_neg c3]
            by_cases c4 : cs = 4
            · have := win_pos b hb0 h2.2
              rw [if_pos c4, if_pos c4, spec_l3Win_eq b hb0 h2.2]; simp only [Option.bind_some]
              by_cases z : winM b = 0
              · rw [if_pos z, if_pos z, if_pos (by decide)]
              · rw [if_neg z, if_neg z, if_neg (by omega)]
            · rw [if_neg c4, if_neg c4, if_neg (by omega), if_neg (by omega)]
    · rw [if_pos h1, if_neg (c := (1 ≤ cs ∧ cs ≤ 4) ∧ (0 ≤ b ∧ b ≤ 255)) (fun z => h2 z.2), inR_false.2 h2]; rfl
  · rw [if_neg h1, if_neg (c := (1 ≤ cs ∧ cs ≤ 4) ∧ (0 ≤ b ∧ b ≤ 255)) (fun z => h1 z.1)]; rfl
theorem spec_l5Get_ev (cs : Int) (b : List Int) (p : Nat) (hp : p < b.length) (hb : Bytes b) (hl : b.length ≤ 4611686018427387904) : Ev (fun k => spec_l5Get.f k cs b (p : Int)) (signIn cs b (p : Int)) := by
  have hr := hb.rd (p : Int)
  simp only [spec_l5Get.f]
  unfold signIn
  by_cases c0 : cs = 0
  · rw [if_pos c0]; exact ev_pos c0 (ev_bind (spec_GetSign_ev b p hb hl) (Ev.now _))
  · rw [if_neg c0]
    by_cases c5 : cs = 5
    · rw [if_pos c5]; exact ev_neg c0 (ev_pos c5 (ev_bind (spec_EucSign_ev b p hb hl) (Ev.now _)))
    · rw [if_neg c5, w64 (x := rd b (p : Int)) (by omega) (by omega)]
      refine ev_neg c0 (ev_neg c5 (ev_pos (by omega) (ev_pos (by omega) (ev_bind (spec_ByteSign_ev cs (rd b (p : Int))) ?_))))
      rw [w64 (x := (p : Int) + 1) (by omega) (by omega)]
      exact Ev.now _
theorem spec_Feed_l0 (cs : Int) (all : List Int) (hb : Bytes all) (hl : all.length ≤ 2097152) (h0 : List Int) (b0 : Bool) (c0 : Int) (d : Nat) : ∀ (p : Nat) (out : List Int), all.length ≤ p + d → p ≤ all.length → out.length ≤ 4 * p →
    Ev (fun k => spec_Feed.l0 k all out (p : Int) cs h0 b0 c0 [] false) (c0, (feedAll (codeGet cs) (begins cs) (all.drop p)).2.1, (feedAll (codeGet cs) (begins cs) (all.drop p)).2.2, strOfNums (out ++ (feedAll (codeGet cs) (begins cs) (all.drop p)).1.flatMap encOk)) := by
  induction d with
  | zero =>
    intro p out h1 h2 h3
    refine ev_shift ?_
    simp only [spec_Feed.l0]
    rw [show all.drop p = [] from List.drop_of_length_le (by omega), feedAll_nil]
    exact ev_neg (by omega) (ev_is (Ev.now _) (by simp))
  | succ d ih =>
    intro p out h1 h2 h3
    refine ev_shift ?_
    simp only [spec_Feed.l0, Int.toNat_natCast]
    by_cases hp : p < all.length
    · refine ev_pos (by omega) (ev_bind (spec_l5Get_ev cs all p hp hb (by omega)) ?_)
      rcases signIn_at cs all p hp with ⟨n, k, e1, e2⟩ | ⟨e1, e2⟩
      · have hk := (code_reads cs).pos (drop_ne hp) e1
        rw [List.length_drop] at hk
        have hen := encOk_length n
        rw [feedAll_some (code_reads cs) (drop_ne hp) e1, e2]
        refine ev_pos rfl (ev_call (spec_PutSign_eq out n (by omega)) (ev_is (ih (p + k) (putSign out n) (by omega) (by omega) (by unfold putSign; rw [List.length_append]; omega)) ?_))
        simp only [List.drop_drop, putSign, List.flatMap_cons, List.append_assoc]
      · rw [feedAll_none (code_reads cs) (drop_ne hp) e1]
        refine ev_neg (by rw [e2]; simp) (ev_pos (by omega) (ev_pos (by omega) (ev_bind (spec_l6Begins_ev cs (all.drop p) (hb.drop p) (by rw [List.length_drop]; omega)) ?_)))
        by_cases z : begins cs (all.drop p) = true
        · rw [if_pos z, if_pos z]
          simp only [Option.bind_some]
          exact ev_pos (by simp only [List.length_nil, List.length_drop]; omega) (ev_is (Ev.now _) (by simp))
        · rw [if_neg z, if_neg z]; exact ev_is (Ev.now _) (by simp)
    · rw [List.drop_of_length_le (by omega), feedAll_nil]
      exact ev_neg (by omega) (ev_is (Ev.now _) (by simp))
theorem spec_Feed_ev (cs : Int) (h : List Int) (c : Bool) (b : List Int) (hb : Bytes h) (bb : Bytes b) (hl : h.length ≤ 1048576) (bl : b.length ≤ 1048576) : Ev (fun k => spec_Feed.f k cs h c b) (cs, feed cs h c b) := by
  simp only [spec_Feed.f, Option.bind_some, List.nil_append, List.length_nil, Nat.zero_add]
  refine ev_pos (by omega) (ev_bind (spec_DecOk_ev cs h c hb (by omega)) ?_)
  unfold feed
  by_cases z : decOk cs h c = true
  · refine ev_pos z (ev_shift ?_)
    simp only [spec_Feed.j0, Option.bind_some, List.nil_append, List.length_nil, Nat.zero_add]
    cases c with
    | true => rw [if_neg (by simp)]; exact ev_pos rfl (Ev.now _)
    | false =>
      rw [if_pos ⟨z, rfl⟩]
      refine ev_neg (by simp) (ev_pos (by omega) (ev_pos (by omega) (ev_is (spec_Feed_l0 cs (h ++ b) (hb.append bb) (by rw [List.length_append]; omega) h false cs (h ++ b).length 0 [] (by omega) (by omega) (by simp)) ?_)))
      rw [List.drop_zero, List.nil_append]
  · rw [if_neg (fun y => z y.1)]
    refine ev_neg z (ev_shift ?_)
    simp only [spec_Feed.j0]
    exact ev_pos trivial (Ev.now _)
theorem toDec_ev (t : Int) (l : List Int) (c : Bool) (hl : l.length ≤ 140737488355328) : Ev (fun k => laws_toDec.f k t l c) (t, l, c) := by
  simp only [laws_toDec.f]
  exact ev_bind (toByteS_ev l hl) (Ev.now _)
theorem impl_within_eq (a b c : Int) : impl_within.f a b c = some (inR a b c) := by
  unfold impl_within.f inR; by_cases h : a ≥ b <;> simp [h]
theorem impl_isSet_eq (n : Int) : impl_isSet.f n = some (inR n 0 5) := by
  unfold impl_isSet.f; simp only [impl_within_eq, Option.bind_some]
theorem impl_begins_eq (cs : Int) (l : List Int) (hb : Bytes l) : impl_begins.f cs l = some (begins cs l) := by
  unfold impl_begins.f begins begUtf
  by_cases hl : l = []
  · subst hl
    rw [if_pos (by simp), if_pos rfl]
    by_cases c0 : cs = 0
    · rw [if_pos c0]
    · rw [if_neg c0]; simp
  · have h1 : 0 < l.length := List.length_pos_iff.2 hl
    rw [if_neg (by omega), if_neg hl]
    by_cases c0 : cs = 0
    · rw [if_pos c0, if_pos c0]
      have e : utf8_FullRune.f l = some (fullR l) := by unfold utf8_FullRune.f; rw [if_pos (bytesOk_iff.2 hb)]
      rw [e]; rfl
    · rw [if_neg c0, if_neg c0]
      by_cases c5 : cs = 5
      · rw [if_pos c5, if_pos c5]
        have r0 := hb.rd 0
        by_cases h2 : l.length = 1
        · rw [if_pos (by omega), if_pos (by omega), w64 (by omega) (by omega), impl_within_eq, decide_eq_true h2]; simp
        · rw [if_neg (by omega), decide_eq_false h2]; simp
      · rw [if_neg c5, if_neg c5]
theorem impl_DecOk_eq (cs : Int) (l : List Int) (c : Bool) (hb : Bytes l) : impl_DecOk.f cs l c = some (decOk cs l c) := by
  unfold impl_DecOk.f decOk
  rw [impl_isSet_eq]
  simp only [Option.bind_some]
  by_cases h : inR cs 0 5 = true
  · rw [if_pos h, h, Bool.true_and]
    by_cases hl : l = []
    · subst hl; simp
    · have h1 : 0 < l.length := List.length_pos_iff.2 hl
      rw [if_neg (by omega), decide_eq_false hl, impl_begins_eq cs l hb]
      cases c <;> simp
  · rw [if_neg h, Bool.eq_false_iff.2 h]; rfl
theorem impl_joined_1 (a : List Int) (h : a.length < 140737488355328) : Ev (fun k => impl_joined.f k [a]) a := by
  refine ev_shift (ev_shift (ev_same fun k => ?_))
  simp only [impl_joined.f, impl_joined.l0]
  simp [rd_L2, wrap64, h]
theorem impl_joined_2 (a b : List Int) (h : a.length + b.length < 140737488355328) : Ev (fun k => impl_joined.f k [a, b]) (a ++ b) := by
  refine ev_shift (ev_shift (ev_shift (ev_same fun k => ?_)))
  have ha : a.length < 140737488355328 := by omega
  simp only [impl_joined.f, impl_joined.l0]
  simp [rd_L2, wrap64, h, ha]
theorem decL_range (l : List Int) (hb : Bytes l) (hl : l ≠ []) : (decL l).1 ≤ 1114111 ∧ (decL l).2 ≤ 4 := by
  by_cases h : decL l = (65533, 1)
  · rw [h]; exact ⟨by decide, by decide⟩
  · obtain ⟨hs, _, hk⟩ := decL_sound l hb hl h
    have h1 := signOk_iff.1 hs
    have h2 := enc_length ((decL l).1 : Int)
    exact ⟨by omega, by omega⟩
theorem getSign_out {b : List Int} {p : Int} (h : ¬ (0 ≤ p ∧ p < b.length)) : getSign b p = (0, 0, false) := if_neg h
theorem getSign_none {b : List Int} {n : Nat} (h : n < b.length) (e : decL (b.drop n) = (65533, 1)) : getSign b (n : Int) = (0, 0, false) := by
  unfold getSign; rw [if_pos (by omega), Int.toNat_natCast, if_pos e]
theorem getSign_some {b : List Int} {n : Nat} (h : n < b.length) (e : decL (b.drop n) ≠ (65533, 1)) : getSign b (n : Int) = (((decL (b.drop n)).1 : Int), (n : Int) + ((decL (b.drop n)).2 : Int), true) := by
  unfold getSign; rw [if_pos (by omega), Int.toNat_natCast, if_neg e]
theorem impl_GetSign_ev (b : List Int) (p : Int) (hb : Bytes b) (hl : b.length ≤ 4611686018427387904) : Ev (fun k => impl_GetSign.f k b p) (getSign b p) := by
  simp only [impl_GetSign.f]
  by_cases h0 : p < 0
  · rw [getSign_out (by omega)]
    refine ev_pos h0 (ev_shift ?_)
    simp only [impl_GetSign.j0]
    exact ev_pos trivial (Ev.now _)
  · refine ev_neg h0 (ev_shift ?_)
    simp only [impl_GetSign.j0]
    by_cases h1 : p < b.length
    · obtain ⟨n, rfl⟩ := Int.eq_ofNat_of_zero_le (show 0 ≤ p by omega)
      rw [Int.toNat_natCast]
      have hne : b.drop n ≠ [] := by intro z; have := congrArg List.length z; simp at this; omega
      have hr := decL_range _ (hb.drop n) hne
      have hd : utf8_DecodeRune.f (b.drop n) = some (((decL (b.drop n)).1 : Int), ((decL (b.drop n)).2 : Int)) := by
        unfold utf8_DecodeRune.f; rw [if_neg hne, if_pos (bytesOk_iff.2 (hb.drop n))]
      refine ev_neg (by simp; omega) (ev_pos (by omega) (ev_pos (by omega) (ev_call hd ?_)))
      dsimp only
      rw [w64 (x := ((decL (b.drop n)).1 : Int)) (by omega) (by omega), w64 (x := (n : Int) + ((decL (b.drop n)).2 : Int)) (by omega) (by omega)]
      by_cases e : decL (b.drop n) = (65533, 1)
      · rw [getSign_none (by omega) e, e]; exact ev_pos (by decide) (ev_pos (by decide) (Ev.now _))
      · rw [getSign_some (by omega) e]
        by_cases e1 : ((decL (b.drop n)).1 : Int) = 65533
        · refine ev_pos e1 (ev_neg ?_ (Ev.now _))
          have h2 := decL_le (b.drop n) hne
          intro z
          exact e (Prod.ext (by simp only; omega) (by simp only; omega))
        · exact ev_neg e1 (Ev.now _)
    · rw [getSign_out (by omega)]
      exact ev_pos (by rw [decide_eq_true_eq]; omega) (Ev.now _)
theorem impl_PairSign_ev (a b : Int) : Ev (fun k => impl_PairSign.f k a b) (pairSign a b) := by
  refine ev_shift (ev_same fun k => ?_)
  simp only [impl_PairSign.f, impl_PairSign.j0, impl_within_eq, Option.bind_some, inR_true]
  unfold pairSign
  by_cases h : a = 164
  · by_cases h2 : 161 ≤ b ∧ b ≤ 243
    · rw [if_pos h, if_pos h2, if_pos ⟨h, h2.1, h2.2⟩, w64 (x := 12353 + b) (by omega) (by omega), w64 (by omega) (by omega)]
    · rw [if_pos h, if_neg h2, if_neg (c := a = 165) (by omega), if_neg (c := a = 164 ∧ 161 ≤ b ∧ b ≤ 243) (by omega), if_neg (c := a = 165 ∧ 161 ≤ b ∧ b ≤ 246) (by omega)]
  · rw [if_neg h, if_neg (by decide), if_neg (c := a = 164 ∧ 161 ≤ b ∧ b ≤ 243) (by omega)]
    by_cases h1 : a = 165
    · by_cases h2 : 161 ≤ b ∧ b ≤ 246
      · rw [if_pos h1, if_pos h2, if_pos ⟨h1, h2.1, h2.2⟩, w64 (x := 12449 + b) (by omega) (by omega), w64 (by omega) (by omega)]
      · rw [if_pos h1, if_neg h2, if_neg (c := a = 165 ∧ 161 ≤ b ∧ b ≤ 246) (by omega)]
    · rw [if_neg h1, if_neg (c := a = 165 ∧ 161 ≤ b ∧ b ≤ 246) (by omega)]
theorem impl_EucSign_ev (b : List Int) (p : Int) (hb : Bytes b) (hl : b.length ≤ 4611686018427387904) : Ev (fun k => impl_EucSign.f k b p) (eucSign b p) := by
  have r0 := hb.rd p
  have r1 := hb.rd (p + 1)
  have e2 : wrap64 (rd b p) = rd b p := w64 (by omega) (by omega)
  have e3 : wrap64 (rd b (p + 1)) = rd b (p + 1) := w64 (by omega) (by omega)
  unfold eucSign
  refine ev_shift ?_
  simp only [impl_EucSign.f, impl_EucSign.j0, e2]
  by_cases h : 0 ≤ p ∧ p < b.length
  · have e4 : wrap64 (p + 1) = p + 1 := w64 (by omega) (by omega)
    have e5 : wrap64 (p + 2) = p + 2 := w64 (by omega) (by omega)
    rw [if_pos h]
    simp only [e4, e5, e3]
    refine ev_neg (by omega) (ev_neg (by simp; omega) (ev_pos h.1 (ev_pos h.2 ?_)))
    by_cases h1 : rd b p ≤ 127
    · rw [if_pos h1]; exact ev_pos h1 (Ev.now _)
    · rw [if_neg h1]
      refine ev_neg h1 ?_
      by_cases h2 : p + 1 < b.length
      · refine ev_neg (by omega) (ev_pos (by omega) (ev_pos h2 ?_))
        refine ev_bind (impl_PairSign_ev (rd b p) (rd b (p + 1))) ?_
        by_cases h3 : (pairSign (rd b p) (rd b (p + 1))).2 = true
        · rw [if_pos (c := p + 1 < (b.length : Int) ∧ (pairSign (rd b p) (rd b (p + 1))).2 = true) ⟨h2, h3⟩]; exact ev_pos h3 (Ev.now _)
        · rw [if_neg (c := p + 1 < (b.length : Int) ∧ (pairSign (rd b p) (rd b (p + 1))).2 = true) (fun z => h3 z.2)]; exact ev_neg h3 (Ev.now _)
      · rw [if_neg (c := p + 1 < (b.length : Int) ∧ (pairSign (rd b p) (rd b (p + 1))).2 = true) (fun z => h2 z.1)]; exact ev_pos (by omega) (Ev.now _)
  · rw [if_neg h]
    by_cases h0 : p < 0
    · exact ev_pos h0 (ev_pos (by simp) (Ev.now _))
    · exact ev_neg h0 (ev_pos (by simp; omega) (Ev.now _))
theorem impl_nineSign_eq (b : Int) : impl_nineSign.f b = some (nineM b) := by
  unfold impl_nineSign.f nineM
  simp only [apply_ite some]
theorem impl_koiSign_eq (b : Int) (h0 : 128 ≤ b) (h1 : b ≤ 255) : impl_koiSign.f b = some (koiM b) :=
  high_of (P := fun b => impl_koiSign.f b = some (koiM b)) (by decide +kernel) b h0 h1
theorem impl_winSign_eq (b : Int) (h0 : 128 ≤ b) (h1 : b ≤ 255) : impl_winSign.f b = some (winM b) :=
  high_of (P := fun b => impl_winSign.f b = some (winM b)) (by decide +kernel) b h0 h1
theorem impl_ByteSign_ev (cs b : Int) : Ev (fun k => impl_ByteSign.f k cs b) (byteSign cs b) := by
  unfold byteSign
  refine ev_shift (ev_same fun k => ?_)
  simp only [impl_ByteSign.f, impl_ByteSign.j0, impl_within_eq, Option.bind_some, inR_true]
  have fin : ∀ n : Int, (some (n, (n != 0)) : Option (Int × Bool)) = some (if n = 0 then (0, false) else (n, true)) := by
    intro n
    by_cases z : n = 0
    · rw [if_pos z, z]; rfl
    · rw [if_neg z, bne_iff_ne.2 z]
  by_cases h1 : 1 ≤ cs ∧ cs ≤ 4
  · by_cases h2 : 0 ≤ b ∧ b ≤ 255
    · rw [if_pos h1, if_pos (c := (1 ≤ cs ∧ cs ≤ 4) ∧ (0 ≤ b ∧ b ≤ 255)) ⟨h1, h2⟩, inR_true.2 h2]
      simp only [Bool.not_true, Bool.false_eq_true, if_false]
      by_cases h3 : b ≤ 127
      · rw [if_pos h3, if_pos h3]
      · rw [if_neg h3, if_neg h3]
        have hb0 : 128 ≤ b := by omega
        unfold highM
        by_cases c2 : cs = 2
        · rw [if_pos c2, if_pos c2, impl_nineSign_eq]; exact fin _
        · rw [if_neg c2, if_neg c2]
          by_cases c3 : cs = 3
          · rw [if_pos c3, if_pos c3, impl_koiSign_eq b hb0 h2.2]; exact fin _
          · rw [if_neg c3, if_neg c3]
            by_cases c4 : cs = 4
            · rw [if_pos c4, if_pos c4, impl_winSign_eq b hb0 h2.2]; exact fin _
            · rw [if_neg c4, if_neg c4]; exact fin _
    · rw [if_pos h1, if_neg (c := (1 ≤ cs ∧ cs ≤ 4) ∧ (0 ≤ b ∧ b ≤ 255)) (fun z => h2 z.2), inR_false.2 h2]; rfl
  · rw [if_neg h1, if_neg (c := (1 ≤ cs ∧ cs ≤ 4) ∧ (0 ≤ b ∧ b ≤ 255)) (fun z => h1 z.1)]; rfl
theorem impl_signIn_ev (cs : Int) (b : List Int) (p : Nat) (hp : p < b.length) (hb : Bytes b) (hl : b.length ≤ 4611686018427387904) : Ev (fun k => impl_signIn.f k cs b (p : Int)) (signIn cs b (p : Int)) := by
  have hr := hb.rd (p : Int)
  simp only [impl_signIn.f]
  unfold signIn
  by_cases c0 : cs = 0
  · rw [if_pos c0]; exact ev_pos c0 (ev_bind (impl_GetSign_ev b p hb hl) (Ev.now _))
  · rw [if_neg c0]
    by_cases c5 : cs = 5
    · rw [if_pos c5]; exact ev_neg c0 (ev_pos c5 (ev_bind (impl_EucSign_ev b p hb hl) (Ev.now _)))
    · rw [if_neg c5, w64 (x := rd b (p : Int)) (by omega) (by omega)]
      refine ev_neg c0 (ev_neg c5 (ev_pos (by omega) (ev_pos (by omega) (ev_bind (impl_ByteSign_ev cs (rd b (p : Int))) ?_))))
      rw [w64 (x := (p : Int) + 1) (by omega) (by omega)]
      exact Ev.now _
theorem impl_SignOk_eq (n : Int) : impl_SignOk.f n = some (signOk n) := by
  unfold impl_SignOk.f signOk
  simp only [impl_within_eq, Option.bind_some]
  cases inR n 0 1114111 <;> simp
theorem appendRune_j3 (k : Nat) (b : List Int) (n m : Int) (h : b.length + 4 < 140737488355328) (h0 : 0 ≤ n) (h1 : n ≤ 65535) : utf8_appendRuneNonASCII.j0 (k + 1) b n m true = some (b ++ [224 + n / 4096, 128 + n / 64 % 64, 128 + n % 64]) := by
  simp only [utf8_appendRuneNonASCII.j0, Option.bind_some, List.length_cons, List.length_nil]
  rw [if_pos trivial, if_pos (by omega), show n / 4096 % 256 = n / 4096 by omega, u8_or224 _ (by omega) (by omega)]
theorem appendRune_j4 (k : Nat) (b : List Int) (n m : Int) (h : b.length + 4 < 140737488355328) (h0 : 65536 ≤ n) (h1 : n ≤ 1114111) (hm : m = n) : utf8_appendRuneNonASCII.j0 (k + 1) b n m false = some (b ++ [240 + n / 262144, 128 + n / 4096 % 64, 128 + n / 64 % 64, 128 + n % 64]) := by
  subst hm
  simp only [utf8_appendRuneNonASCII.j0, Option.bind_some, List.length_cons, List.length_nil]
  rw [if_neg (by decide), if_pos (by omega), if_pos (by omega), if_pos (by omega), show m / 262144 % 256 = m / 262144 by omega, u8_or240 _ (by omega) (by omega)]
theorem appendRuneNonASCII_eq (k : Nat) (b : List Int) (n : Int) (h : b.length + 4 < 140737488355328) (h1 : signOk n = true) (h2 : 128 ≤ n) : utf8_appendRuneNonASCII.f (k + 1) b n = some (b ++ enc n) := by
  have hr := signOk_iff.1 h1
  have hm : n % 4294967296 = n := by omega
  unfold enc
  simp only [utf8_appendRuneNonASCII.f, Option.bind_some, hm, List.length_cons, List.length_nil]
  rw [if_neg (c := n ≤ 127) (by omega)]
  by_cases h3 : n ≤ 2047
  · rw [if_pos h3, if_pos h3, show n / 64 % 256 = n / 64 by omega, u8_or192 _ (by omega) (by omega), if_pos (by omega)]
  · rw [if_neg h3, if_neg h3]
    by_cases h4 : n ≤ 65535
    · rw [if_pos h4]
      by_cases h5 : n < 55296
      · rw [if_pos h5, decide_eq_true h5]; exact appendRune_j3 k b n n h (by omega) h4
      · rw [if_neg h5, if_pos (by omega), decide_eq_true h4]; exact appendRune_j3 k b n n h (by omega) h4
    · rw [if_neg h4, if_neg (by omega), if_pos (by omega), decide_eq_false h4]; exact appendRune_j4 k b n n h (by omega) (by omega) rfl
theorem AppendRune_eq (k : Nat) (b : List Int) (n : Int) (h : b.length + 4 < 140737488355328) (h1 : signOk n = true) : utf8_AppendRune.f (k + 1) b n = some (b ++ enc n) := by
  have hr := signOk_iff.1 h1
  simp only [utf8_AppendRune.f]
  by_cases h2 : n ≤ 127
  · rw [if_pos (by omega), if_pos (by omega), show n % 256 = n by omega]; unfold enc; rw [if_pos h2]
  · rw [if_neg (by omega), appendRuneNonASCII_eq k b n h h1 (by omega)]; rfl
theorem impl_PutSign_ev (b : List Int) (n : Int) (h : b.length + 4 < 140737488355328) : Ev (fun k => impl_PutSign.f k b n) (putSign b n) := by
  unfold putSign encOk
  simp only [impl_PutSign.f, impl_SignOk_eq]
  refine ev_bind (impl_joined_1 b (by omega)) ?_
  simp only [Option.bind_some]
  by_cases h1 : signOk n = true
  · have hr := signOk_iff.1 h1
    have e : wrap32 n = n := by unfold wrap32; omega
    rw [if_pos h1, e]
    exact ev_pos h1 (ev_bind (ev_shift (ev_same fun k => AppendRune_eq k b n h h1)) (Ev.now _))
  · rw [if_neg h1]
    exact ev_neg h1 (ev_is (Ev.now _) (by simp))
theorem impl_Feed_l0 (cs : Int) (all : List Int) (hb : Bytes all) (hl : all.length ≤ 2097152) (h0 : List Int) (b0 : Bool) (c0 : Int) (d : Nat) : ∀ (p : Nat) (out : List Int), all.length ≤ p + d → p ≤ all.length → out.length ≤ 4 * p →
    Ev (fun k => impl_Feed.l0 k all out (p : Int) cs h0 b0 c0 false) (c0, (feedAll (codeGet cs) (begins cs) (all.drop p)).2.1, (feedAll (codeGet cs) (begins cs) (all.drop p)).2.2, strOfNums (out ++ (feedAll (codeGet cs) (begins cs) (all.drop p)).1.flatMap encOk)) := by
  induction d with
  | zero =>
    intro p out h1 h2 h3
    refine ev_shift ?_
    simp only [impl_Feed.l0]
    rw [show all.drop p = [] from List.drop_of_length_le (by omega), feedAll_nil]
    exact ev_neg (by omega) (ev_is (Ev.now _) (by simp))
  | succ d ih =>
    intro p out h1 h2 h3
    refine ev_shift ?_
    simp only [impl_Feed.l0, Int.toNat_natCast]
    by_cases hp : p < all.length
    · refine ev_pos (by omega) (ev_bind (impl_signIn_ev cs all p hp hb (by omega)) ?_)
      rcases signIn_at cs all p hp with ⟨n, k, e1, e2⟩ | ⟨e1, e2⟩
      · have hk := (code_reads cs).pos (drop_ne hp) e1
        rw [List.length_drop] at hk
        have hen := encOk_length n
        rw [feedAll_some (code_reads cs) (drop_ne hp) e1, e2]
        refine ev_pos rfl (ev_bind (impl_PutSign_ev out n (by omega)) (ev_is (ih (p + k) (putSign out n) (by omega) (by omega) (by unfold putSign; rw [List.length_append]; omega)) ?_))
        simp only [List.drop_drop, putSign, List.flatMap_cons, List.append_assoc]
      · rw [feedAll_none (code_reads cs) (drop_ne hp) e1]
        refine ev_neg (by rw [e2]; simp) (ev_pos (by omega) (ev_pos (by omega) (ev_call (impl_begins_eq cs (all.drop p) (hb.drop p)) ?_)))
        by_cases z : begins cs (all.drop p) = true
        · rw [if_pos z]
          exact ev_pos z (ev_bind (impl_joined_1 (all.drop p) (by rw [List.length_drop]; omega)) (ev_is (Ev.now _) (by simp)))
        · rw [if_neg z]; exact ev_neg z (ev_is (Ev.now _) (by simp))
    · rw [List.drop_of_length_le (by omega), feedAll_nil]
      exact ev_neg (by omega) (ev_is (Ev.now _) (by simp))
theorem impl_Feed_ev (cs : Int) (h : List Int) (c : Bool) (b : List Int) (hb : Bytes h) (bb : Bytes b) (hl : h.length ≤ 1048576) (bl : b.length ≤ 1048576) : Ev (fun k => impl_Feed.f k cs h c b) (cs, feed cs h c b) := by
  simp only [impl_Feed.f]
  refine ev_bind (impl_joined_1 h (by omega)) (ev_call (impl_DecOk_eq cs h c hb) ?_)
  unfold feed
  by_cases z : decOk cs h c = true
  · refine ev_pos z (ev_shift ?_)
    simp only [impl_Feed.j0]
    cases c with
    | true => rw [if_neg (by simp)]; exact ev_pos rfl (Ev.now _)
    | false =>
      rw [if_pos ⟨z, rfl⟩]
      refine ev_neg (by simp) (ev_bind (impl_joined_2 h b (by omega)) (ev_is (impl_Feed_l0 cs (h ++ b) (hb.append bb) (by rw [List.length_append]; omega) h false cs (h ++ b).length 0 [] (by omega) (by omega) (by simp)) ?_))
      rw [List.drop_zero, List.nil_append]
  · rw [if_neg (fun y => z y.1)]
    refine ev_neg z (ev_shift ?_)
    simp only [impl_Feed.j0]
    exact ev_pos trivial (Ev.now _)
theorem eqDec_ev (a : Int) (l : List Int) (c : Bool) (a' : Int) (l' : List Int) (c' : Bool) (hl : l.length ≤ 4611686018427387904) : Ev (fun k => laws_eqDec.f k a l c a' l' c') (decide ((a, l, c) = (a', l', c'))) := by
  simp only [laws_eqDec.f]
  by_cases h : a = a'
  · refine ev_pos h (ev_bind (eqByteS_ev l l' hl) ?_)
    by_cases h2 : l = l'
    · refine ev_pos (by simpa using h2) ?_
      by_cases h3 : c = c'
      · exact ev_neg (by simp [h3]) (ev_is (Ev.now _) (by simp [h, h2, h3]))
      · exact ev_pos (by simpa using h3) (ev_is (Ev.now _) (by simp [h3]))
    · exact ev_neg (by simpa using h2) (ev_is (Ev.now _) (by simp [h2]))
  · exact ev_neg h (ev_is (Ev.now _) (by simp [h]))
theorem eqDec_self (a : Int) (l : List Int) (c : Bool) (hl : l.length ≤ 4611686018427387904) : Ev (fun k => laws_eqDec.f k a l c a l c) true := ev_is (eqDec_ev a l c a l c hl) (by simp)
theorem markDec_ev (a : Int) (l : List Int) (c : Bool) (m : Int) (hm : 0 ≤ m) (hn : m + l.length ≤ 4611686018427387904) : Ev (fun k => laws_markDec.f k a l c m) (m + (l.length : Int), marks m l.length) := by
  simp only [laws_markDec.f]
  exact ev_bind (markByteS_ev l m hm hn) (Ev.now _)
theorem heldByteS_l0 (m : Int) (n : Nat) (hm : 0 ≤ m) (hn : m + n ≤ 4611686018427387904) (d : Nat) : ∀ (i : Nat), i + d = n → Ev (fun k => laws_heldByteS.l0 k (marks m n) (m + (i : Int)) (i : Int)) (m + (n : Int)) := by
  induction d with
  | zero =>
    intro i h
    refine ev_shift ?_
    simp only [laws_heldByteS.l0, marks_length]
    exact ev_neg (by omega) (ev_is (Ev.now _) (by omega))
  | succ d ih =>
    intro i h
    refine ev_shift ?_
    simp only [laws_heldByteS.l0, next_nat i (by omega), marks_length]
    have e : wrap64 (m + (i : Int) + 1) = m + ((i + 1 : Nat) : Int) := by rw [w64 (by omega) (by omega)]; omega
    rw [e]
    have hi : i < (marks m n).length := by rw [marks_length]; omega
    have g : rd (marks m n) (i : Int) = (m + (i : Int)) % 256 := by
      have := marks_get m n i (by omega)
      rw [List.getElem?_eq_getElem hi] at this
      rw [rd_lt _ i hi]; exact Option.some.inj this
    exact ev_pos (by omega) (ev_pos (by omega) (ev_pos g (ih (i + 1) (by omega))))
theorem heldByteS_ev (m : Int) (n : Nat) (hm : 0 ≤ m) (hn : m + n ≤ 4611686018427387904) : Ev (fun k => laws_heldByteS.f k (marks m n) m) (m + (n : Int)) := by
  have h := heldByteS_l0 m n hm hn n 0 (by omega)
  simp only [laws_heldByteS.f]
  simpa using h
theorem heldDec_ev (a : Int) (m : Int) (n : Nat) (c : Bool) (hm : 0 ≤ m) (hn : m + n ≤ 4611686018427387904) : Ev (fun k => laws_heldDec.f k a (marks m n) c m) (m + (n : Int)) := by
  simp only [laws_heldDec.f]
  exact ev_bind (heldByteS_ev m n hm hn) (ev_neg (by omega) (Ev.now _))

theorem FnExactFeed : ∀ (a0 : Int) (l0 : List Int) (b0 : Bool) (l1 : List Int), (Lit.int .i64 a0).wf = true → l0.length ≤ maxLen → (∀ x ∈ l0, (Lit.int .u8 x).wf = true) → l1.length ≤ maxLen → (∀ x ∈ l1, (Lit.int .u8 x).wf = true) → ∃ k, laws_FnExactFeed.f k a0 l0 b0 l1 = some true := by
  intro t l c b _ hm hb0 _ hb1
  have hb := Bytes.of hb0
  have bb := Bytes.of hb1
  have hmi : (l.length : Int) ≤ 9223372036854775807 := by unfold maxLen at hm; omega
  apply Ev.rounds
  simp only [laws_FnExactFeed.f]
  by_cases h1 : (b.length : Int) > 1048576
  · exact ev_pos h1 (Ev.now _)
  refine ev_neg h1 (ev_call (szDec_eq t l c hmi) ?_)
  by_cases h : (l.length : Int) > 1048576
  · rw [if_pos h]; exact ev_pos (by omega) (Ev.now _)
  rw [if_neg h]
  have hf : (feed t l c b).1.length ≤ 2097152 := by
    unfold feed
    by_cases z : decOk t l c = true ∧ c = false
    · rw [if_pos z]
      have := (feed_length (beg := begins t) (code_reads t) (l ++ b)).2
      rw [List.length_append] at this
      simp only; omega
    · rw [if_neg z]; simp only; omega
  have eF := impl_Feed_ev t l c b hb bb (by omega) (by omega)
  have eS := spec_Feed_ev t l c b hb bb (by omega) (by omega)
  obtain ⟨⟨held, bad, text⟩, ez⟩ : ∃ z, z = feed t l c b := ⟨_, rfl⟩
  rw [← ez] at hf eF eS
  replace hf : held.length ≤ 2097152 := hf
  have eT := toDec_ev t l c (by omega)
  have eB := toByteS_ev b (by omega)
  refine ev_neg (by omega) (ev_bind eT (ev_bind eB (ev_bind eS (ev_bind eT (ev_bind eB (ev_bind eF (ev_bind (eqDec_self t held bad (by omega)) (ev_pos rfl (ev_shift ?_)))))))))
  simp only [laws_FnExactFeed.j0]
  refine ev_neg (by simp) (ev_bind eT (ev_bind (eqDec_self t l c (by omega)) (ev_pos rfl (ev_bind eB (ev_bind (eqByteS_self b (by omega)) (ev_pos rfl ?_))))))
  refine ev_bind (markDec_ev t l c 1 (by omega) (by omega)) (ev_bind (markByteS_ev b _ (by simp only; omega) (by simp only; omega)) (ev_neg (by simp only; omega) (ev_bind (eqDec_self t held bad (by omega)) (ev_pos rfl (ev_shift ?_)))))
  simp only [laws_FnExactFeed.j1]
  refine ev_neg (by simp) (ev_bind (markDec_ev t held bad 1 (by omega) (by omega)) (ev_bind (heldDec_ev t 1 held.length bad (by omega) (by omega)) (ev_neg (by omega) (ev_pos rfl ?_))))
  refine ev_bind eT (ev_bind eB (ev_bind eF (ev_bind (eqDec_self t held bad (by omega)) (ev_pos rfl (ev_shift ?_)))))
  simp only [laws_FnExactFeed.j2]
  exact ev_neg (by simp) (ev_bind (heldDec_ev t 1 held.length bad (by omega) (by omega)) (ev_neg (by omega) (ev_pos rfl (Ev.now _))))

end Go.Proofs.YtpmimhbnmjffpaaDoor.Pure
