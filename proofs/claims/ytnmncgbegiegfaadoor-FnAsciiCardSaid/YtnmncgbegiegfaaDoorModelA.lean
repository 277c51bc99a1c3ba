/- Bytes below 128 say themselves in each of the six sets, in plain Lean; no program in sight, no condition beyond those that each lemma names. -/
import Derived.Test.YtnmncgbegiegfaaDoorModelT
namespace Go.Proofs.YtnmncgbegiegfaaDoor.Model
open Go.RowKit Go.Proofs.YtnmncgbegiegfaaDoorW.PrintWords Go.Proofs.YtnmncgbegiegfaaDoor.Base Go.Proofs.YtnmncgbegiegfaaDoor.Xw

def Asc (l : List Int) : Prop := ∀ x ∈ l, 0 ≤ x ∧ x ≤ 127
theorem Asc.bytes {l : List Int} (h : Asc l) : Bytes l := fun x hx => by have := h x hx; omega
theorem asc_ok {a : Int} (h : 0 ≤ a ∧ a ≤ 127) : signOk a = true := signOk_iff.2 (by omega)
theorem asc_enc {a : Int} (h : 0 ≤ a ∧ a ≤ 127) : enc a = [a] := by unfold enc; rw [if_pos h.2]
theorem asc_byteSign {cs a : Int} (hc : 1 ≤ cs ∧ cs ≤ 4) (h : 0 ≤ a ∧ a ≤ 127) : byteSign cs a = (a, true) := by
  unfold byteSign; rw [if_pos ⟨hc, by omega⟩, if_pos h.2]
theorem asc_get {cs a : Int} {t : List Int} (hc : 0 ≤ cs ∧ cs ≤ 5) (h : 0 ≤ a ∧ a ≤ 127) : codeGet cs (a :: t) = some (a, 1) := by
  have hr : rd (a :: t) 0 = a := rfl
  unfold codeGet
  by_cases c0 : cs = 0
  · rw [if_pos c0]
    have := utfGet_enc (asc_ok h) t
    rw [asc_enc h] at this
    exact this
  · rw [if_neg c0]
    by_cases c5 : cs = 5
    · rw [if_pos c5]; unfold eucGet; rw [if_neg (by simp), hr, if_pos h.2]
    · rw [if_neg c5]; unfold byteGet; rw [if_neg (by simp), hr, asc_byteSign (by omega) h, if_pos rfl]
theorem asc_read {cs : Int} (hc : 0 ≤ cs ∧ cs ≤ 5) : ∀ l, Asc l → readAll (codeGet cs) l = some l := by
  intro l
  induction l with
  | nil => intro _; rfl
  | cons a t ih =>
    intro h
    rw [readAll_cons (code_reads cs) (by simp), asc_get hc (h a (by simp))]
    show (readAll (codeGet cs) t).map (a :: ·) = _
    rw [ih (fun x hx => h x (by simp [hx]))]
    rfl
theorem asc_encs {l : List Int} (h : Asc l) : l.flatMap encOk = l := by
  induction l with
  | nil => rfl
  | cons a t ih =>
    have ha := h a (by simp)
    rw [List.flatMap_cons, ih (fun x hx => h x (by simp [hx]))]
    unfold encOk
    rw [if_pos (asc_ok ha), asc_enc ha]
    rfl
theorem asc_signByte {cs a : Int} (hc : 1 ≤ cs ∧ cs ≤ 4) (h : 0 ≤ a ∧ a ≤ 127) (d : Nat) : ∀ b : Int, 0 ≤ b → b ≤ a → a < b + d → signByteFrom cs a d b = (a, true) := by
  induction d with
  | zero => intro b _ h1 h2; omega
  | succ d ih =>
    intro b h0 h1 h2
    unfold signByteFrom
    rw [asc_byteSign hc (show 0 ≤ b ∧ b ≤ 127 by omega)]
    by_cases e : b = a
    · rw [if_pos ⟨rfl, e⟩, e]
    · rw [if_neg (fun z => e z.2)]; exact ih (b + 1) (by omega) (by omega) (by omega)
theorem asc_put {cs a : Int} (hc : 0 ≤ cs ∧ cs ≤ 5) (h : 0 ≤ a ∧ a ≤ 127) : codePut cs a = some [a] := by
  unfold codePut
  by_cases c0 : cs = 0
  · rw [if_pos c0]; unfold utfPut; rw [if_pos (asc_ok h), asc_enc h]
  · rw [if_neg c0]
    by_cases c5 : cs = 5
    · rw [if_pos c5]
      have e : eucOf a = ([a], true) := by unfold eucOf; rw [if_pos h]
      rw [e, if_pos rfl]
    · rw [if_neg c5]
      have e : signByte cs a = (a, true) := asc_signByte (by omega) h 256 0 (by omega) (by omega) (by omega)
      rw [e, if_pos rfl]
theorem asc_write {cs : Int} (hc : 0 ≤ cs ∧ cs ≤ 5) : ∀ l, Asc l → writeAll (codePut cs) l = some l := by
  intro l
  induction l with
  | nil => intro _; rfl
  | cons a t ih =>
    intro h
    unfold writeAll
    rw [asc_put hc (h a (by simp)), ih (fun x hx => h x (by simp [hx]))]
    rfl
theorem asc_decode {cs : Int} (hc : 0 ≤ cs ∧ cs ≤ 5) {l : List Int} (h : Asc l) : decodeAll cs l = (strOfNums l, true) := by
  unfold decodeAll
  rw [if_pos (inR_true.2 hc), asc_read hc l h]
  simp only
  rw [asc_encs h]
theorem asc_lossy {cs : Int} (hc : 0 ≤ cs ∧ cs ≤ 5) {l : List Int} (h : Asc l) : decodeLossy cs l = (strOfNums l, 0) := by
  unfold decodeLossy
  rw [if_pos (inR_true.2 hc), lossy_read (code_reads cs) l l (asc_read hc l h)]
  simp only
  rw [asc_encs h]
  rfl
theorem asc_encode {cs : Int} (hc : 0 ≤ cs ∧ cs ≤ 5) {l : List Int} (h : Asc l) : encodeAll cs (strOfNums l) = (l, true) := by
  have h0 : readAll utfGet l = some l := by have := asc_read (cs := 0) (by omega) l h; unfold codeGet at this; simpa using this
  unfold encodeAll
  rw [if_pos (inR_true.2 hc), numsOf_strOfNums h.bytes, h0]
  simp only
  rw [asc_write hc l h]
theorem asc_detect {l : List Int} (h : Asc l) : detect l = (0, true) := by
  unfold detect; rw [asc_decode (by omega) h, if_pos (.inl rfl)]
end Go.Proofs.YtnmncgbegiegfaaDoor.Model
