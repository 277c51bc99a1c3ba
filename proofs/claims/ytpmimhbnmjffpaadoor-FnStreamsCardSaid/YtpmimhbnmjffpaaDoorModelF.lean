/- Bytes that come in parts, in plain Lean: what begins a sign and does not end it, what is read of bytes and what is held; reading and writing in six sets belong together; no program in sight, no condition beyond those that each lemma names. -/
import Derived.Test.YtpmimhbnmjffpaaDoorModelA
import Derived.Lib.DecodeNEq
namespace Go.Proofs.YtpmimhbnmjffpaaDoor.Model
open Go.RowKit Go.Proofs.YtpmimhbnmjffpaaDoorW.PrintWords Go.Proofs.YtpmimhbnmjffpaaDoor.Base Go.Proofs.YtpmimhbnmjffpaaDoor.Xw
theorem pairSign_back {hi lo : Int} (h : (pairSign hi lo).2 = true) : signPair (pairSign hi lo).1 = (hi, lo, true) := by
  unfold pairSign at h ⊢
  by_cases h1 : hi = 164 ∧ 161 ≤ lo ∧ lo ≤ 243
  · rw [if_pos h1]
    unfold signPair
    simp only
    rw [if_pos (by omega), h1.1, show 12353 + lo - 161 - 12353 + 161 = lo by omega]
  · rw [if_neg h1] at h ⊢
    by_cases h2 : hi = 165 ∧ 161 ≤ lo ∧ lo ≤ 246
    · rw [if_pos h2]
      unfold signPair
      simp only
      rw [if_neg (by omega), if_pos (by omega), h2.1, show 12449 + lo - 161 - 12449 + 161 = lo by omega]
    · rw [if_neg h2] at h; cases h
theorem signPair_back {n : Int} (h : (signPair n).2.2 = true) : 161 ≤ (signPair n).2.1 ∧ (signPair n).2.1 ≤ 246 ∧ 164 ≤ (signPair n).1 ∧ (signPair n).1 ≤ 165 ∧ pairSign (signPair n).1 (signPair n).2.1 = (n, true) := by
  unfold signPair at h ⊢
  by_cases h1 : 12353 ≤ n ∧ n ≤ 12435
  · rw [if_pos h1]
    simp only
    unfold pairSign
    rw [if_pos (by omega), show 12353 + (n - 12353 + 161) - 161 = n by omega]
    exact ⟨by omega, by omega, by omega, by omega, rfl⟩
  · rw [if_neg h1] at h ⊢
    by_cases h2 : 12449 ≤ n ∧ n ≤ 12534
    · rw [if_pos h2]
      simp only
      unfold pairSign
      rw [if_neg (by omega), if_pos (by omega), show 12449 + (n - 12449 + 161) - 161 = n by omega]
      exact ⟨by omega, by omega, by omega, by omega, rfl⟩
    · rw [if_neg h2] at h; cases h
theorem byteSign_iff' (cs b : Int) (h : (byteSign cs b).2 = true) : (1 ≤ cs ∧ cs ≤ 4) ∧ 0 ≤ b ∧ b ≤ 255 := by
  unfold byteSign at h
  by_cases h1 : (1 ≤ cs ∧ cs ≤ 4) ∧ (0 ≤ b ∧ b ≤ 255)
  · exact h1
  · rw [if_neg h1] at h; cases h
theorem byteSign_all : ∀ (cs : Fin 4) (b : Fin 256), (byteSign ((cs.val : Int) + 1) (b.val : Int)).2 = true →
    signByte ((cs.val : Int) + 1) (byteSign ((cs.val : Int) + 1) (b.val : Int)).1 = ((b.val : Int), true) ∧ signOk (byteSign ((cs.val : Int) + 1) (b.val : Int)).1 = true := by decide +kernel
theorem byteSign_back {cs b : Int} (h : (byteSign cs b).2 = true) : signByte cs (byteSign cs b).1 = (b, true) ∧ signOk (byteSign cs b).1 = true := by
  obtain ⟨h1, h2⟩ := byteSign_iff' cs b h
  obtain ⟨x, hx⟩ := Int.eq_ofNat_of_zero_le (show 0 ≤ cs - 1 by omega)
  obtain ⟨y, rfl⟩ := Int.eq_ofNat_of_zero_le h2.1
  obtain rfl : cs = (x : Int) + 1 := by omega
  exact byteSign_all ⟨x, by omega⟩ ⟨y, by omega⟩ h
theorem signByteFrom_back (cs n : Int) (d : Nat) : ∀ b : Int, (signByteFrom cs n d b).2 = true → byteSign cs (signByteFrom cs n d b).1 = (n, true) := by
  induction d with
  | zero => intro b h; unfold signByteFrom at h; cases h
  | succ d ih =>
    intro b h
    unfold signByteFrom at h ⊢
    by_cases hc : (byteSign cs b).2 = true ∧ (byteSign cs b).1 = n
    · rw [if_pos hc]; exact Prod.ext hc.2 hc.1
    · rw [if_neg hc] at h ⊢; exact ih (b + 1) h
theorem rd_zero (a : Int) (t : List Int) : rd (a :: t) 0 = a := rfl
theorem rd_one (a b : Int) (t : List Int) : rd (a :: b :: t) 1 = b := rfl
theorem take_one {l : List Int} (h : l ≠ []) : l.take 1 = [rd l 0] := by
  cases l with
  | nil => exact absurd rfl h
  | cons a t => rfl
theorem take_two {l : List Int} (h : 1 < l.length) : l.take 2 = [rd l 0, rd l 1] := by
  match l, h with
  | [], h => simp at h
  | [_], h => simp at h
  | a :: b :: t, _ => rfl
theorem code_codes {cs : Int} (_hc : 0 ≤ cs ∧ cs ≤ 5) : Codes (codeGet cs) (codePut cs) where
  pos := (code_reads cs).pos
  back := by
    intro l n k hb hl h
    unfold codeGet at h
    unfold codePut
    by_cases c0 : cs = 0
    · rw [if_pos c0] at h ⊢; exact utf_codes.back hb hl h
    · rw [if_neg c0] at h ⊢
      by_cases c5 : cs = 5
      · rw [if_pos c5] at h ⊢
        unfold eucGet at h
        rw [if_neg hl] at h
        have r0 := hb.rd 0
        by_cases h2 : rd l 0 ≤ 127
        · rw [if_pos h2] at h; injection h with h; injection h with z1 z2
          subst z1 z2
          have e : eucOf (rd l 0) = ([rd l 0], true) := by unfold eucOf; rw [if_pos ⟨r0.1, h2⟩]
          exact ⟨signOk_iff.2 (by omega), by rw [e, if_pos rfl, take_one hl]⟩
        · rw [if_neg h2] at h
          by_cases h3 : 1 < l.length ∧ (pairSign (rd l 0) (rd l 1)).2 = true
          · rw [if_pos h3] at h; injection h with h; injection h with z1 z2
            subst z1 z2
            have hr := pairSign_range h3.2
            have e : eucOf (pairSign (rd l 0) (rd l 1)).1 = ([rd l 0, rd l 1], true) := by
              unfold eucOf; rw [if_neg (by omega), pairSign_back h3.2, if_pos rfl]
            exact ⟨signOk_iff.2 (by omega), by rw [e, if_pos rfl, take_two h3.1]⟩
          · rw [if_neg h3] at h; cases h
      · rw [if_neg c5] at h ⊢
        unfold byteGet at h
        rw [if_neg hl] at h
        by_cases h2 : (byteSign cs (rd l 0)).2 = true
        · rw [if_pos h2] at h; injection h with h; injection h with z1 z2
          subst z1 z2
          have k := byteSign_back h2
          exact ⟨k.2, by rw [k.1, if_pos rfl, take_one hl]⟩
        · rw [if_neg h2] at h; cases h
  forth := by
    intro n b hs h
    have hbb := codePut_bytes h
    unfold codePut at h
    unfold codeGet
    by_cases c0 : cs = 0
    · rw [if_pos c0] at h; simp only [if_pos c0]; exact utf_codes.forth hs h
    · rw [if_neg c0] at h; simp only [if_neg c0]
      by_cases c5 : cs = 5
      · rw [if_pos c5] at h; simp only [if_pos c5]
        by_cases he : (eucOf n).2 = true
        · rw [if_pos he] at h
          obtain rfl := Option.some.inj h
          unfold eucOf at he ⊢
          by_cases h1 : 0 ≤ n ∧ n ≤ 127
          · rw [if_pos h1]
            refine ⟨by simp, .cons (by omega) (by omega) .nil, fun r => ?_⟩
            unfold eucGet
            rw [if_neg (by simp), List.singleton_append, rd_zero, if_pos h1.2]; rfl
          · rw [if_neg h1] at he ⊢
            by_cases h2 : (signPair n).2.2 = true
            · rw [if_pos h2]
              have k := signPair_back h2
              refine ⟨by simp, .cons (by omega) (by omega) (.cons (by omega) (by omega) .nil), fun r => ?_⟩
              unfold eucGet
              rw [if_neg (by simp), List.cons_append, List.singleton_append, rd_zero, rd_one, if_neg (by omega), k.2.2.2.2, if_pos ⟨by simp, rfl⟩]; rfl
            · rw [if_neg h2] at he; cases he
        · rw [if_neg he] at h; cases h
      · rw [if_neg c5] at h; simp only [if_neg c5]
        by_cases he : (signByte cs n).2 = true
        · rw [if_pos he] at h
          obtain rfl := Option.some.inj h
          have k : byteSign cs (signByte cs n).1 = (n, true) := signByteFrom_back cs n 256 0 he
          refine ⟨by simp, hbb, fun r => ?_⟩
          unfold byteGet
          rw [if_neg (by simp), List.singleton_append, rd_zero, k, if_pos rfl]; rfl
        · rw [if_neg he] at h; cases h
theorem first_len : ∀ b : Fin 256, (l2Len (b.val : Int) = 1 ∧ Lib.firstT b.val = 240) ∨ (l2Len (b.val : Int) = 0 ∧ Lib.firstT b.val = 241) ∨
    (Lib.firstT b.val < 240 ∧ l2Len (b.val : Int) = Lib.firstT b.val % 8 ∧ 2 ≤ Lib.firstT b.val % 8 ∧ Lib.firstT b.val % 8 ≤ 4 ∧ 128 ≤ Lib.accLo (Lib.firstT b.val / 16) ∧ Lib.accLo (Lib.firstT b.val / 16) ≤ Lib.accHi (Lib.firstT b.val / 16) ∧ Lib.accHi (Lib.firstT b.val / 16) ≤ 191) := by decide +kernel
theorem bad_more {n n' b0 b1 b2 b3 c1 c2 c3 : Nat} (hn : 1 ≤ n) (hnn : n ≤ n') (h0 : b0 < 256) (h1 : b1 < 256) (h2 : b2 < 256) (h3 : b3 < 256) (k1 : c1 < 256) (k2 : c2 < 256) (k3 : c3 < 256)
    (e1 : 1 < n → c1 = b1) (e2 : 2 < n → c2 = b2) (e3 : 3 < n → c3 = b3) (hd : Lib.decodeN n b0 b1 b2 b3 = (65533, 1))
    (hf : fullN n b1 b2 (Lib.firstT b0 % 8) (Lib.accLo (Lib.firstT b0 / 16)) (Lib.accHi (Lib.firstT b0 / 16)) = true) :
    Lib.decodeN n' b0 c1 c2 c3 = (65533, 1) ∧ fullN n' c1 c2 (Lib.firstT b0 % 8) (Lib.accLo (Lib.firstT b0 / 16)) (Lib.accHi (Lib.firstT b0 / 16)) = true := by
  rcases first_len ⟨b0, h0⟩ with ⟨_, hX⟩ | ⟨_, hX⟩ | ⟨hX, _, hs2, hs4, _⟩
  · simp only at hX
    rw [Lib.ascii_eq _ _ _ _ _ hX] at hd
    injection hd with z _
    have : Lib.firstT 65533 = 241 := by decide
    rw [z] at hX; omega
  · simp only at hX
    refine ⟨Lib.bad_eq _ _ _ _ _ h0 hX, ?_⟩
    rw [hX]; unfold fullN; rw [if_pos (by omega)]
  · simp only at hX hs2 hs4
    rw [← Lib.slow_eq n b0 b1 b2 b3 hn h1 h2 h3 hX] at hd
    rw [← Lib.slow_eq n' b0 c1 c2 c3 (by omega) k1 k2 k3 hX]
    generalize Lib.firstT b0 % 8 = sz at *
    generalize Lib.accLo (Lib.firstT b0 / 16) = lo at *
    generalize Lib.accHi (Lib.firstT b0 / 16) = hi at *
    unfold fullN at hf
    by_cases f1 : sz ≤ n
    · have e1' := e1 (by omega)
      subst e1'
      refine ⟨?_, by unfold fullN; rw [if_pos (by omega)]⟩
      unfold Lib.slowN at hd ⊢
      rw [if_neg (by omega)] at hd ⊢
      by_cases g1 : c1 < lo ∨ hi < c1
      · rw [if_pos g1]
      · rw [if_neg g1] at hd ⊢
        by_cases g2 : sz ≤ 2
        · rw [if_pos g2] at hd; exact absurd (Prod.mk.inj hd).2 (by decide)
        · rw [if_neg g2] at hd ⊢
          have e2' := e2 (by omega)
          subst e2'
          by_cases g3 : c2 < 128 ∨ 191 < c2
          · rw [if_pos g3]
          · rw [if_neg g3] at hd ⊢
            by_cases g4 : sz ≤ 3
            · rw [if_pos g4] at hd; exact absurd (Prod.mk.inj hd).2 (by decide)
            · rw [if_neg g4] at hd ⊢
              have e3' := e3 (by omega)
              subst e3'
              by_cases g5 : c3 < 128 ∨ 191 < c3
              · rw [if_pos g5]
              · rw [if_neg g5] at hd; exact absurd (Prod.mk.inj hd).2 (by decide)
    · rw [if_neg f1] at hf
      by_cases f2 : 1 < n ∧ (b1 < lo ∨ hi < b1)
      · have e1' := e1 f2.1
        subst e1'
        refine ⟨?_, ?_⟩
        · unfold Lib.slowN
          by_cases g0 : n' < sz
          · rw [if_pos g0]
          · rw [if_neg g0, if_pos f2.2]
        · unfold fullN
          by_cases g0 : sz ≤ n'
          · rw [if_pos g0]
          · rw [if_neg g0, if_pos ⟨by omega, f2.2⟩]
      · rw [if_neg f2] at hf
        by_cases f3 : 2 < n ∧ (b2 < 128 ∨ 191 < b2)
        · have e1' := e1 (by omega)
          have e2' := e2 f3.1
          subst e1' e2'
          have f2' : ¬ (c1 < lo ∨ hi < c1) := fun z => f2 ⟨by omega, z⟩
          refine ⟨?_, ?_⟩
          · unfold Lib.slowN
            by_cases g0 : n' < sz
            · rw [if_pos g0]
            · rw [if_neg g0, if_neg f2', if_neg (by omega), if_pos f3.2]
          · unfold fullN
            by_cases g0 : sz ≤ n'
            · rw [if_pos g0]
            · rw [if_neg g0, if_neg (fun z => f2' z.2), if_pos ⟨by omega, f3.2⟩]
        · rw [if_neg f3] at hf; cases hf
theorem byte_nat {l : List Int} (hb : Bytes l) (i : Nat) : ((l.getD i 0).toNat : Int) = l.getD i 0 ∧ (l.getD i 0).toNat < 256 := by
  have := hb.rd (i : Int)
  rw [rd_nat] at this
  omega
theorem getD_app (l r : List Int) (i : Nat) (h : i < l.length) : (l ++ r).getD i 0 = l.getD i 0 := by
  rw [List.getD_eq_getElem?_getD, List.getElem?_append_left h, ← List.getD_eq_getElem?_getD]
def begUtf (l : List Int) : Bool := if l = [] then false else !fullR l
theorem utf_bad {l r : List Int} (hb : Bytes l) (hr : Bytes r) (hl : l ≠ []) (h : decL l = (65533, 1)) (hf : begUtf l = false) : decL (l ++ r) = (65533, 1) ∧ begUtf (l ++ r) = false := by
  have h1 : 1 ≤ l.length := by cases l with | nil => exact absurd rfl hl | cons => simp
  have hlr : l ++ r ≠ [] := by simp [hl]
  unfold begUtf at hf ⊢
  rw [if_neg hl, Bool.not_eq_false'] at hf
  rw [if_neg hlr, Bool.not_eq_false']
  unfold fullR at hf ⊢
  rw [if_neg hl] at hf
  rw [if_neg hlr]
  unfold decL at h ⊢
  have e0 := getD_app l r 0 (by omega)
  have hb2 := hb.append hr
  rw [e0]
  have e : ∀ i, i < l.length → ((l ++ r).getD i 0).toNat = (l.getD i 0).toNat := fun i hi => by rw [getD_app l r i hi]
  exact bad_more h1 (by rw [List.length_append]; omega) (byte_nat hb 0).2 (byte_nat hb 1).2 (byte_nat hb 2).2 (byte_nat hb 3).2 (byte_nat hb2 1).2 (byte_nat hb2 2).2 (byte_nat hb2 3).2 (e 1) (e 2) (e 3) h hf
def begins (cs : Int) (l : List Int) : Bool := if cs = 0 then begUtf l else if cs = 5 then decide (l.length = 1) && inR (rd l 0) 164 165 else false
theorem begins_ne {cs : Int} {l : List Int} (h : begins cs l = true) : l ≠ [] := by
  intro z; subst z
  unfold begins begUtf at h
  by_cases c0 : cs = 0
  · rw [if_pos c0] at h; simp at h
  · rw [if_neg c0] at h
    by_cases c5 : cs = 5
    · rw [if_pos c5] at h; simp at h
    · rw [if_neg c5] at h; cases h
theorem code_more {cs : Int} (hc : 0 ≤ cs ∧ cs ≤ 5) {l r : List Int} {n : Int} {k : Nat} (hb : Bytes l) (hl : l ≠ []) (h : codeGet cs l = some (n, k)) : codeGet cs (l ++ r) = some (n, k) := by
  obtain ⟨hs, hp⟩ := (code_codes hc).back hb hl h
  obtain ⟨k1, k2⟩ := (code_reads cs).pos hl h
  have := ((code_codes hc).forth hs hp).2.2 (l.drop k ++ r)
  rw [← List.append_assoc, List.take_append_drop, List.length_take, Nat.min_eq_left k2] at this
  exact this
theorem rd_app0 (l r : List Int) (h : l ≠ []) : rd (l ++ r) 0 = rd l 0 := by
  cases l with
  | nil => exact absurd rfl h
  | cons a t => rfl
theorem rd_app1 (l r : List Int) (h : 1 < l.length) : rd (l ++ r) 1 = rd l 1 := by
  match l, h with
  | [], h => simp at h
  | [_], h => simp at h
  | a :: b :: t, _ => rfl
theorem code_bad {cs : Int} {l r : List Int} (hb : Bytes l) (hr : Bytes r) (hl : l ≠ []) (h : codeGet cs l = none) (hf : begins cs l = false) : codeGet cs (l ++ r) = none ∧ begins cs (l ++ r) = false := by
  have hlr : l ++ r ≠ [] := by simp [hl]
  have h1 : 1 ≤ l.length := by cases l with | nil => exact absurd rfl hl | cons => simp
  unfold codeGet at h ⊢
  unfold begins at hf ⊢
  by_cases c0 : cs = 0
  · rw [if_pos c0] at h hf ⊢
    rw [if_pos c0]
    have hd : decL l = (65533, 1) := by
      by_cases z : decL l = (65533, 1)
      · exact z
      · rw [utfGet_some hl z] at h; cases h
    have := utf_bad hb hr hl hd hf
    exact ⟨utfGet_none hlr this.1, this.2⟩
  · rw [if_neg c0] at h hf ⊢
    rw [if_neg c0]
    by_cases c5 : cs = 5
    · rw [if_pos c5] at h hf ⊢
      rw [if_pos c5]
      unfold eucGet at h ⊢
      rw [if_neg hl] at h
      rw [if_neg hlr, rd_app0 l r hl]
      by_cases h2 : rd l 0 ≤ 127
      · rw [if_pos h2] at h; cases h
      · rw [if_neg h2] at h ⊢
        by_cases h3 : l.length = 1
        · have hn : inR (rd l 0) 164 165 = false := by simpa [h3] using hf
          have hp : ∀ x, (pairSign (rd l 0) x).2 = false := fun x => by
            have := inR_false.1 hn
            unfold pairSign
            rw [if_neg (by omega), if_neg (by omega)]
          rw [if_neg (fun z => by rw [hp] at z; cases z.2), hn, Bool.and_false]
          exact ⟨rfl, rfl⟩
        · have h4 : 1 < l.length := by omega
          have hp : ¬ (pairSign (rd l 0) (rd l 1)).2 = true := fun z => by rw [if_pos ⟨h4, z⟩] at h; cases h
          rw [rd_app1 l r h4, if_neg (fun z => hp z.2), decide_eq_false (by rw [List.length_append]; omega), Bool.false_and]
          exact ⟨rfl, rfl⟩
    · rw [if_neg c5] at h ⊢
      rw [if_neg c5]
      unfold byteGet at h ⊢
      rw [if_neg hl] at h
      rw [if_neg hlr, rd_app0 l r hl]
      by_cases h2 : (byteSign cs (rd l 0)).2 = true
      · rw [if_pos h2] at h; cases h
      · rw [if_neg h2]; exact ⟨rfl, rfl⟩
def feedN (g : List Int → Option (Int × Nat)) (beg : List Int → Bool) : Nat → List Int → List Int × List Int × Bool
  | 0, _ => ([], [], false)
  | f + 1, l => if l = [] then ([], [], false) else match g l with
    | none => if beg l = true then ([], l, false) else ([], [], true)
    | some (n, k) => (n :: (feedN g beg f (l.drop k)).1, (feedN g beg f (l.drop k)).2)
def feedAll (g : List Int → Option (Int × Nat)) (beg : List Int → Bool) (l : List Int) : List Int × List Int × Bool := feedN g beg l.length l
section
variable {g : List Int → Option (Int × Nat)} {beg : List Int → Bool}
theorem feedN_more (R : Reads g) (f : Nat) : ∀ (f' : Nat) (l : List Int), l.length ≤ f → l.length ≤ f' → feedN g beg f l = feedN g beg f' l := by
  induction f with
  | zero =>
    intro f' l h _
    obtain rfl := List.eq_nil_of_length_eq_zero (Nat.le_zero.1 h)
    cases f' <;> simp [feedN]
  | succ f ih =>
    intro f' l h h'
    cases f' with
    | zero => obtain rfl := List.eq_nil_of_length_eq_zero (Nat.le_zero.1 h'); simp [feedN]
    | succ f' =>
      unfold feedN
      by_cases hl : l = []
      · rw [if_pos hl, if_pos hl]
      · rw [if_neg hl, if_neg hl]
        cases hg : g l with
        | none => rfl
        | some q =>
          obtain ⟨n, k⟩ := q
          obtain ⟨k1, k2⟩ := R.pos hl hg
          simp only
          rw [ih f' (l.drop k) (by rw [List.length_drop]; omega) (by rw [List.length_drop]; omega)]
theorem feedAll_nil : feedAll g beg [] = ([], [], false) := rfl
theorem feedAll_cons (R : Reads g) {l : List Int} (hl : l ≠ []) : feedAll g beg l = match g l with
    | none => if beg l = true then ([], l, false) else ([], [], true)
    | some (n, k) => (n :: (feedAll g beg (l.drop k)).1, (feedAll g beg (l.drop k)).2) := by
  unfold feedAll
  obtain ⟨a, t, rfl⟩ := List.exists_cons_of_ne_nil hl
  rw [List.length_cons, feedN, if_neg hl]
  cases hg : g (a :: t) with
  | none => rfl
  | some q =>
    obtain ⟨n, k⟩ := q
    obtain ⟨k1, k2⟩ := R.pos hl hg
    simp only
    rw [feedN_more R t.length ((a :: t).drop k).length _ (by rw [List.length_drop, List.length_cons]; omega) (Nat.le_refl _)]
theorem feedAll_none (R : Reads g) {l : List Int} (hl : l ≠ []) (hg : g l = none) : feedAll g beg l = if beg l = true then ([], l, false) else ([], [], true) := by rw [feedAll_cons R hl, hg]
theorem feedAll_some (R : Reads g) {l : List Int} {n : Int} {k : Nat} (hl : l ≠ []) (hg : g l = some (n, k)) : feedAll g beg l = (n :: (feedAll g beg (l.drop k)).1, (feedAll g beg (l.drop k)).2) := by rw [feedAll_cons R hl, hg]
theorem feed_held (R : Reads g) : ∀ l, Bytes l → (feedAll g beg l).2.1 = [] ∨ (beg (feedAll g beg l).2.1 = true ∧ (feedAll g beg l).2.2 = false ∧ Bytes (feedAll g beg l).2.1) := by
  refine read_induct R ?_ ?_ ?_
  · intro _; exact .inl rfl
  · intro l hl hg _ hb
    rw [feedAll_none R hl hg]
    by_cases z : beg l = true
    · rw [if_pos z]; exact .inr ⟨z, rfl, hb⟩
    · rw [if_neg z]; exact .inl rfl
  · intro l n k hl hg ih hb
    rw [feedAll_some R hl hg]; exact ih (hb.drop k)
theorem feed_read (R : Reads g) (_hbeg : ∀ l, beg l = true → l ≠ []) : ∀ l, readAll g l = if (feedAll g beg l).2.1 = [] ∧ (feedAll g beg l).2.2 = false then some (feedAll g beg l).1 else none := by
  refine read_induct R ?_ ?_ ?_
  · rfl
  · intro l hl hg _
    rw [readAll_cons R hl, hg, feedAll_none R hl hg]
    by_cases z : beg l = true
    · rw [if_pos z, if_neg (fun y => hl y.1)]
    · rw [if_neg z, if_neg (fun y => by cases y.2)]
  · intro l n k hl hg ih
    rw [readAll_cons R hl, hg, feedAll_some R hl hg]
    simp only
    rw [ih]
    by_cases z : (feedAll g beg (l.drop k)).2.1 = [] ∧ (feedAll g beg (l.drop k)).2.2 = false
    · rw [if_pos z, if_pos z]; rfl
    · rw [if_neg z, if_neg z]; rfl
theorem feed_split (R : Reads g) (c : List Int) (hcb : Bytes c) (more : ∀ {l r : List Int} {n : Int} {k : Nat}, Bytes l → l ≠ [] → g l = some (n, k) → g (l ++ r) = some (n, k))
    (bad : ∀ {l r : List Int}, Bytes l → Bytes r → l ≠ [] → g l = none → beg l = false → g (l ++ r) = none ∧ beg (l ++ r) = false) : ∀ a, Bytes a →
    feedAll g beg (a ++ c) = if (feedAll g beg a).2.2 = true then ((feedAll g beg a).1, [], true) else
      ((feedAll g beg a).1 ++ (feedAll g beg ((feedAll g beg a).2.1 ++ c)).1, (feedAll g beg ((feedAll g beg a).2.1 ++ c)).2) := by
  refine read_induct R ?_ ?_ ?_
  · intro _; rfl
  · intro l hl hg _ hb
    rw [feedAll_none R hl hg]
    by_cases z : beg l = true
    · rw [if_pos z]; rfl
    · rw [if_neg z]
      obtain ⟨z1, z2⟩ := bad (r := c) hb hcb hl hg (Bool.eq_false_iff.2 z)
      rw [feedAll_none R (by simp [hl]) z1, z2]; rfl
  · intro l n k hl hg ih hb
    obtain ⟨k1, k2⟩ := R.pos hl hg
    rw [feedAll_some R (by simp [hl]) (more hb hl hg), List.drop_append_of_le_length k2, ih (hb.drop k), feedAll_some R hl hg]
    by_cases z : (feedAll g beg (l.drop k)).2.2 = true
    · rw [if_pos z, if_pos z]
    · rw [if_neg z, if_neg z]; rfl
theorem feed_length (R : Reads g) : ∀ l, (feedAll g beg l).1.length ≤ l.length ∧ (feedAll g beg l).2.1.length ≤ l.length := by
  refine read_induct R ?_ ?_ ?_
  · exact ⟨Nat.le_refl _, Nat.le_refl _⟩
  · intro l hl hg _
    rw [feedAll_none R hl hg]
    by_cases z : beg l = true
    · rw [if_pos z]; exact ⟨Nat.zero_le _, Nat.le_refl _⟩
    · rw [if_neg z]; exact ⟨Nat.zero_le _, Nat.zero_le _⟩
  · intro l n k hl hg ih
    obtain ⟨k1, k2⟩ := R.pos hl hg
    rw [feedAll_some R hl hg]
    rw [List.length_drop] at ih
    simp only [List.length_cons]
    omega
end
def decOk (cs : Int) (h : List Int) (bad : Bool) : Bool := inR cs 0 5 && (decide (h = []) || !bad && begins cs h)
def feed (cs : Int) (h : List Int) (bad : Bool) (b : List Int) : List Int × Bool × ByteArray :=
  if decOk cs h bad = true ∧ bad = false then ((feedAll (codeGet cs) (begins cs) (h ++ b)).2.1, (feedAll (codeGet cs) (begins cs) (h ++ b)).2.2, strOfNums ((feedAll (codeGet cs) (begins cs) (h ++ b)).1.flatMap encOk)) else (h, bad, ⟨#[]⟩)
end Go.Proofs.YtpmimhbnmjffpaaDoor.Model
