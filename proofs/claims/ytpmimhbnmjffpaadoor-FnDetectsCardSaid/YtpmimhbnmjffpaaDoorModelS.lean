/- A whole text of signs of today out of bytes, and whether bytes are one, in plain Lean; no program in sight, no condition beyond those that each lemma names. -/
import Derived.Test.YtpmimhbnmjffpaaDoorModelC
import Derived.Lib.ValidLaws
namespace Go.Proofs.YtpmimhbnmjffpaaDoor.Model
open Go.RowKit Go.Proofs.YtpmimhbnmjffpaaDoorW.PrintWords Go.Proofs.YtpmimhbnmjffpaaDoor.Base Go.Proofs.YtpmimhbnmjffpaaDoor.Xw

def signs (l : List Int) : List Int × Bool := match readAll utfGet l with
  | some ns => (ns, true)
  | none => ([], false)
theorem get_nums (s : ByteArray) (i : Nat) : (s.get! i).toNat = ((numsOf s).getD i 0).toNat := by
  show (s.data[i]!).toNat = _
  unfold numsOf
  by_cases hi : i < s.data.size
  · rw [List.getD_eq_getElem?_getD, List.getElem?_map, Array.getElem?_toList, Array.getElem?_eq_getElem hi, getElem!_pos s.data i hi]
    simp
  · rw [List.getD_eq_getElem?_getD, List.getElem?_map, Array.getElem?_toList, Array.getElem?_eq_none (by omega), getElem!_neg s.data i hi]
    rfl
theorem decode_nums (s : ByteArray) (p : Nat) : Utf8.decode s p = decL ((numsOf s).drop p) := by
  have hg : ∀ j, (((numsOf s).drop p).getD j 0).toNat = (s.get! (p + j)).toNat := by
    intro j
    rw [get_nums, List.getD_eq_getElem?_getD, List.getElem?_drop, ← List.getD_eq_getElem?_getD]
  unfold decL
  rw [Lib.decode_at, hg 0, hg 1, hg 2, hg 3, List.length_drop, numsOf_length]
  simp only [Nat.add_zero]
theorem utfGet_none {l : List Int} (hl : l ≠ []) (h : decL l = (65533, 1)) : utfGet l = none := by unfold utfGet; rw [if_neg hl, if_pos h]
theorem utfGet_some {l : List Int} (hl : l ≠ []) (h : decL l ≠ (65533, 1)) : utfGet l = some (((decL l).1 : Int), (decL l).2) := by unfold utfGet; rw [if_neg hl, if_neg h]
theorem valid_nums (n : Nat) : ∀ l : List UInt8, l.length ≤ n → Lib.validD l = (readAll utfGet (numsOf ⟨l.toArray⟩)).isSome := by
  induction n with
  | zero => intro l h; obtain rfl := List.eq_nil_of_length_eq_zero (Nat.le_zero.1 h); rfl
  | succ n ih =>
    intro l h
    by_cases hl : l = []
    · subst hl; rfl
    · have hln : (numsOf ⟨l.toArray⟩).length = l.length := by simp [numsOf]
      have hne : numsOf ⟨l.toArray⟩ ≠ [] := by
        intro z; rw [z] at hln; exact hl (List.eq_nil_of_length_eq_zero hln.symm)
      have hd : Lib.decodeL l = decL (numsOf ⟨l.toArray⟩) := by
        unfold Lib.decodeL; rw [decode_nums, List.drop_zero]
      have hk := decL_le _ hne
      have hdr : ∀ k, (numsOf ⟨l.toArray⟩).drop k = numsOf ⟨(l.drop k).toArray⟩ := by intro k; simp [numsOf, List.map_drop]
      rw [Lib.validD_step l hl, hd, readAll_cons utf_codes.toReads hne]
      by_cases he : decL (numsOf ⟨l.toArray⟩) = (65533, 1)
      · rw [utfGet_none hne he, he]; rfl
      · rw [utfGet_some hne he, if_neg (fun z => he (Prod.ext z.1 z.2)), ih _ (by rw [List.length_drop]; omega), ← hdr]
        simp only
        rw [Option.isSome_map]
theorem valid_read (s : ByteArray) : Lib.validD s.data.toList = (readAll utfGet (numsOf s)).isSome := by
  have := valid_nums _ s.data.toList (Nat.le_refl _)
  simpa using this
theorem signs_true {l : List Int} (h : (readAll utfGet l).isSome = true) : ∃ ns, readAll utfGet l = some ns ∧ signs l = (ns, true) := by
  obtain ⟨ns, hn⟩ := Option.isSome_iff_exists.1 h
  exact ⟨ns, hn, by unfold signs; rw [hn]⟩
theorem signs_false {l : List Int} (h : (readAll utfGet l).isSome = false) : signs l = ([], false) := by
  have : readAll utfGet l = none := by cases hq : readAll utfGet l with | none => rfl | some x => rw [hq] at h; cases h
  unfold signs; rw [this]
theorem signs_some {l ns : List Int} (h : readAll utfGet l = some ns) : signs l = (ns, true) := by unfold signs; rw [h]
theorem signs_none {l : List Int} (h : readAll utfGet l = none) : signs l = ([], false) := by unfold signs; rw [h]
theorem signs_snd (l : List Int) : (signs l).2 = (readAll utfGet l).isSome := by
  unfold signs; cases readAll utfGet l <;> rfl
/-- As many signs as bytes, at most. -/
theorem readN_length {g : List Int → Option (Int × Nat)} (R : Reads g) : ∀ l ns, readAll g l = some ns → ns.length ≤ l.length := by
  refine read_induct R ?_ ?_ ?_
  · intro ns h; rw [readAll_nil] at h; obtain rfl := Option.some.inj h; exact Nat.le_refl _
  · intro l hl hg _ ns h; rw [readAll_cons R hl, hg] at h; cases h
  · intro l n k hl hg ih ns h
    rw [readAll_cons R hl, hg] at h
    simp only at h
    obtain ⟨ms, hm, rfl⟩ := Option.map_eq_some_iff.1 h
    have h1 := ih ms hm
    have h2 := R.pos hl hg
    rw [List.length_drop] at h1
    rw [List.length_cons]
    omega
theorem signs_length (l : List Int) : (signs l).1.length ≤ l.length := by
  cases h : readAll utfGet l with
  | none => rw [signs_none h]; simp
  | some ns => rw [signs_some h]; exact readN_length utf_codes.toReads l ns h
/-- What is read is a sign. -/
theorem utf_range {l ns : List Int} (hb : Bytes l) (h : readAll utfGet l = some ns) : ∀ n ∈ ns, signOk n = true := (read_write utf_codes l hb ns h).2
end Go.Proofs.YtpmimhbnmjffpaaDoor.Model
