/- Bytes below 128 say themselves in each of the six sets, in plain Lean; no program in sight, no condition beyond those that each lemma names. -/
import Derived.Test.YtpmimhbnmjffpaaDoorModelT
namespace Go.Proofs.YtpmimhbnmjffpaaDoor.Model
open Go.RowKit Go.Proofs.YtpmimhbnmjffpaaDoorW.PrintWords Go.Proofs.YtpmimhbnmjffpaaDoor.Base Go.Proofs.YtpmimhbnmjffpaaDoor.Xw

def Asc (l : List Int) : Prop := ∀ x ∈ l, 0 ≤ x ∧ x ≤ 127
theorem Asc.bytes {l : List Int} (h : Asc l) : Bytes l := fun x hx => by have := h x hx; omega
theorem asc_ok {a : Int} (h : 0 ≤ a ∧ a ≤ 127) : signOk a = true := signOk_iff.2 (by omega)
theorem asc_enc {a : Int} (h : 0 ≤ a ∧ a ≤ 127) : enc a = [a] := by unfold enc; rw [if_pos h.2]
theorem asc_byteSign {cs a : Int} (hc : 1 ≤ cs ∧ cs ≤ 4) (h : 0 ≤ a ∧ a ≤ 127) : byteSign cs a = (a, true) := by
  unfold byteSign; rw [if_pos ⟨hc, by omega⟩, if_pos h.2]
theorem asc_get {cs a : Int} {t : List Int} (hc : 0 ≤ cs ∧ cs ≤ 5) (h : 0 ≤ a ∧ a ≤ 127) : codeGet cs (a :: t) = some (a, 1) := by
  have hr : rd (a :: t) 0 = a := rfl
  unfold codeGet
  by_cases c0 : cs = 0
  · rw [if_pos c0]
    have := utfGet_enc (asc_ok h) t
    rw [asc_enc h] at this
    exact this
  · rw [if_neg c0]
    by_cases c5 : cs = 5
    · rw [if_pos c5]; unfold eucGet; rw [if_neg (by simp), hr, if_pos h.2]
    · rw [if_neg c5]; unfold byteGet; rw [if_neg (by simp), hr, asc_byteSign (by omega) h, if_pos rfl]
theorem asc_read {cs : Int} (hc : 0 ≤ cs ∧ cs ≤ 5) : ∀ l, Asc l → readAll (codeGet cs) l = some l := by
  intro l
  induction l with
  | nil => intro _; rfl
  | cons a t ih =>
    intro h
    rw [readAll_cons (code_reads cs) (by simp), asc_get hc (h a (by simp))]
    show (readAll (codeGet cs) t).map (a :: ·) = _
    rw [ih (fun x hx => h x (by simp [hx]))]
    rfl
theorem asc_encs {l : List Int} (h : Asc l) : l.flatMap encOk = l := by
  induction l with
  | nil => rfl
  | cons a t ih =>
    have ha := h a (by simp)
    rw [List.flatMap_cons, ih (fun x hx => h x (by simp [hx]))]
    unfold encOk
    rw [if_pos (asc_ok ha), asc_enc ha]
    rfl
theorem asc_signByte {cs a : Int} (hc : 1 ≤ cs ∧ cs ≤ 4) (h : 0 ≤ a ∧ a ≤ 127) (d : Nat) : ∀ b : Int, 0 ≤ b → b ≤ a → a < b + d → signByteFrom cs a d b = (a, true) := by
  induction d with
  | zero => intro b _ h1 h2; omega
  | succ d ih =>
    intro b h0 h1 h2
    unfold signByteFrom
    rw [asc_byteSign hc (show 0 ≤ b ∧ b ≤ 127 by omega)]
    by_cases e : b = a
    · rw [if_pos ⟨rfl, e⟩, e]
    · rw [if_neg (fun z => e z.2)]; exact ih (b + 1) (by omega) (by omega) (by omega)
theorem asc_put {cs a : Int} (hc : 0 ≤ cs ∧ cs ≤ 5) (h : 0 ≤ a ∧ a ≤ 127) : codePut cs a = some [a] := by
  unfold codePut
  by_cases c0 : cs = 0
  · rw [if_pos c0]; unfold utfPut; rw [if_pos (asc_ok h), asc_enc h]
  · rw [if_neg c0]
    by_cases c5 : cs = 5
    · rw [if_pos c5]
      have e : eucOf a = ([a], true) := by unfold eucOf; rw [if_pos h]
      rw [e, if_pos rfl]
    · rw [if_neg c5]
      have e : signByte cs a = (a, true) := asc_signByte (by omega) h 256 0 (by omega) (by omega) (by omega)
      rw [e, if_pos rfl]
theorem asc_write {cs : Int} (hc : 0 ≤ cs ∧ cs ≤ 5) : ∀ l, Asc l → writeAll (codePut cs) l = some l := by
  intro l
  induction l with
  | nil => intro _; rfl
  | cons a t ih =>
    intro h
    unfold writeAll
    rw [asc_put hc (h a (by simp)), ih (fun x hx => h x (by simp [hx]))]
    rfl
theorem asc_decode {cs : Int} (hc : 0 ≤ cs ∧ cs ≤ 5) {l : List Int} (h : Asc l) : decodeAll cs l = (strOfNums l, true) := by
  unfold decodeAll
  rw [if_pos (inR_true.2 hc), asc_read hc l h]
  simp only
  rw [asc_encs h]
theorem asc_lossy {cs : Int} (hc : 0 ≤ cs ∧ cs ≤ 5) {l : List Int} (h : Asc l) : decodeLossy cs l = (strOfNums l, 0) := by
  unfold decodeLossy
  rw [if_pos (inR_true.2 hc), lossy_read (code_reads cs) l l (asc_read hc l h)]
  simp only
  rw [asc_encs h]
  rfl
theorem asc_encode {cs : Int} (hc : 0 ≤ cs ∧ cs ≤ 5) {l : List Int} (h : Asc l) : encodeAll cs (strOfNums l) = (l, true) := by
  have h0 : readAll utfGet l = some l := by have := asc_read (cs := 0) (by omega) l h; unfold codeGet at this; simpa using this
  unfold encodeAll
  rw [if_pos (inR_true.2 hc), numsOf_strOfNums h.bytes, h0]
  simp only
  rw [asc_write hc l h]
theorem asc_detect {l : List Int} (h : Asc l) : detect l = (0, true) := by
  unfold detect; rw [asc_decode (by omega) h, if_pos (.inl rfl)]
theorem eucOf_bytes {n : Int} : Bytes (eucOf n).1 := by
  unfold eucOf
  by_cases h1 : 0 ≤ n ∧ n ≤ 127
  · rw [if_pos h1]; exact .cons (by omega) (by omega) .nil
  · rw [if_neg h1]
    have hm := signPair_mod n
    by_cases h2 : (signPair n).2.2 = true
    · rw [if_pos h2]; exact .cons (by omega) (by omega) (.cons (by omega) (by omega) .nil)
    · rw [if_neg h2]; exact .nil
theorem codePut_bytes {cs n : Int} {x : List Int} (h : codePut cs n = some x) : Bytes x := by
  unfold codePut at h
  by_cases c0 : cs = 0
  · rw [if_pos c0] at h
    unfold utfPut at h
    by_cases hs : signOk n = true
    · rw [if_pos hs] at h; obtain rfl := Option.some.inj h; exact enc_bytes hs
    · rw [if_neg hs] at h; cases h
  · rw [if_neg c0] at h
    by_cases c5 : cs = 5
    · rw [if_pos c5] at h
      by_cases hs : (eucOf n).2 = true
      · rw [if_pos hs] at h; obtain rfl := Option.some.inj h; exact eucOf_bytes
      · rw [if_neg hs] at h; cases h
    · rw [if_neg c5] at h
      by_cases hs : (signByte cs n).2 = true
      · have hr := signByte_range hs
        rw [if_pos hs] at h; obtain rfl := Option.some.inj h; exact .cons (by omega) (by omega) .nil
      · rw [if_neg hs] at h; cases h
theorem writeAll_bytes {p : Int → Option (List Int)} (hp : ∀ n x, p n = some x → Bytes x) : ∀ ns b, writeAll p ns = some b → Bytes b := by
  intro ns
  induction ns with
  | nil => intro b h; unfold writeAll at h; obtain rfl := Option.some.inj h; exact .nil
  | cons n ns ih =>
    intro b h
    unfold writeAll at h
    cases hx : p n with
    | none => rw [hx] at h; cases h
    | some x =>
      rw [hx] at h
      simp only at h
      obtain ⟨c, hc, rfl⟩ := Option.map_eq_some_iff.1 h
      exact (hp n x hx).append (ih c hc)
theorem encodeAll_bytes (cs : Int) (s : ByteArray) : Bytes (encodeAll cs s).1 := by
  unfold encodeAll
  by_cases h : inR cs 0 5 = true
  · rw [if_pos h]
    cases hr : readAll utfGet (numsOf s) with
    | none => exact .nil
    | some ns =>
      simp only
      cases hw : writeAll (codePut cs) ns with
      | none => exact .nil
      | some b => exact writeAll_bytes (fun n x h => codePut_bytes h) ns b hw
  · rw [if_neg h]; exact .nil
/-- What is found of the sets 1 to 5: none that can be read, or the first of the best. -/
theorem det_best (l : List Int) (d : Nat) : ∀ (cs at' best : Int), 1 ≤ cs →
    ((at' = 0 ∧ ∀ i, 1 ≤ i → i < cs → (score i l).2 = false) ∨
      (1 ≤ at' ∧ at' < cs ∧ (score at' l).2 = true ∧ best = (score at' l).1 ∧ ∀ i, 1 ≤ i → i < cs → (score i l).2 = true → (score i l).1 < best ∨ ((score i l).1 = best ∧ at' ≤ i))) →
    ((detFrom l d cs at' best = 0 ∧ ∀ i, 1 ≤ i → i < cs + d → (score i l).2 = false) ∨
      (1 ≤ detFrom l d cs at' best ∧ detFrom l d cs at' best < cs + d ∧ (score (detFrom l d cs at' best) l).2 = true ∧
        ∀ i, 1 ≤ i → i < cs + d → (score i l).2 = true → (score i l).1 < (score (detFrom l d cs at' best) l).1 ∨ ((score i l).1 = (score (detFrom l d cs at' best) l).1 ∧ detFrom l d cs at' best ≤ i))) := by
  induction d with
  | zero =>
    intro cs at' best _ h
    unfold detFrom
    rcases h with ⟨h1, h2⟩ | ⟨h1, h2, h3, h4, h5⟩
    · exact .inl ⟨h1, fun i i1 i2 => h2 i i1 (by omega)⟩
    · subst h4; exact .inr ⟨h1, by omega, h3, fun i i1 i2 i3 => h5 i i1 (by omega) i3⟩
  | succ d ih =>
    intro cs at' best hc h
    unfold detFrom
    have e : cs + 1 + (d : Int) = cs + ((d + 1 : Nat) : Int) := by omega
    by_cases hn : (score cs l).2 = true ∧ (at' = 0 ∨ (score cs l).1 > best)
    · rw [if_pos hn]
      have := ih (cs + 1) cs (score cs l).1 (by omega) (.inr ⟨hc, by omega, hn.1, rfl, fun i i1 i2 i3 => by
        by_cases hi : i = cs
        · subst hi; exact .inr ⟨rfl, Int.le_refl _⟩
        · rcases h with ⟨h1, h2⟩ | ⟨h1, h2, h3, h4, h5⟩
          · rw [h2 i i1 (by omega)] at i3; cases i3
          · rcases hn.2 with z | z
            · omega
            · rcases h5 i i1 (by omega) i3 with y | y <;> exact .inl (by omega)⟩)
      rwa [e] at this
    · rw [if_neg hn]
      have := ih (cs + 1) at' best (by omega) (by
        rcases h with ⟨h1, h2⟩ | ⟨h1, h2, h3, h4, h5⟩
        · refine .inl ⟨h1, fun i i1 i2 => ?_⟩
          by_cases hi : i = cs
          · subst hi; exact Bool.eq_false_iff.2 (fun z => hn ⟨z, .inl h1⟩)
          · exact h2 i i1 (by omega)
        · refine .inr ⟨h1, by omega, h3, h4, fun i i1 i2 i3 => ?_⟩
          by_cases hi : i = cs
          · subst hi
            have : ¬ (score i l).1 > best := fun z => hn ⟨i3, .inr z⟩
            rcases Int.lt_or_eq_of_le (Int.not_lt.1 this) with z | z
            · exact .inl z
            · exact .inr ⟨z, by omega⟩
          · exact h5 i i1 (by omega) i3)
      rwa [e] at this
theorem score_snd (cs : Int) (l : List Int) : (score cs l).2 = (decodeAll cs l).2 := by
  unfold score
  by_cases h : (decodeAll cs l).2 = true
  · rw [if_pos h, h]
  · rw [if_neg h, Bool.eq_false_iff.2 h]
end Go.Proofs.YtpmimhbnmjffpaaDoor.Model
