/- Signs written with loss, texts one behind the other, and texts of what is read, in plain Lean; no program in sight, no condition beyond those that each lemma names. -/
import Derived.Test.YtpmimhbnmjffpaaDoorModelF
namespace Go.Proofs.YtpmimhbnmjffpaaDoor.Model
open Go.RowKit Go.Proofs.YtpmimhbnmjffpaaDoorW.PrintWords Go.Proofs.YtpmimhbnmjffpaaDoor.Base Go.Proofs.YtpmimhbnmjffpaaDoor.Xw
theorem inR_of {cs : Int} (h : inR cs 0 5 = true) : 0 ≤ cs ∧ cs ≤ 5 := inR_true.1 h
theorem decodeAll_some {cs : Int} {l ns : List Int} (hc : inR cs 0 5 = true) (h : readAll (codeGet cs) l = some ns) : decodeAll cs l = (strOfNums (ns.flatMap encOk), true) := by
  unfold decodeAll; rw [if_pos hc, h]
theorem decodeAll_true {cs : Int} {l : List Int} (h : (decodeAll cs l).2 = true) : inR cs 0 5 = true ∧ ∃ ns, readAll (codeGet cs) l = some ns := by
  unfold decodeAll at h
  by_cases hc : inR cs 0 5 = true
  · rw [if_pos hc] at h
    cases hr : readAll (codeGet cs) l with
    | none => rw [hr] at h; cases h
    | some ns => exact ⟨hc, ns, rfl⟩
  · rw [if_neg hc] at h; cases h
theorem strOfNums_append (a b : List Int) : strOfNums (a ++ b) = strOfNums a ++ strOfNums b := by
  apply ByteArray.ext
  rw [ByteArray.data_append]
  simp [strOfNums]
theorem decodeAll_snd {cs : Int} {l : List Int} (hc : inR cs 0 5 = true) : (decodeAll cs l).2 = (decide ((feedAll (codeGet cs) (begins cs) l).2.1 = []) && !(feedAll (codeGet cs) (begins cs) l).2.2) := by
  have h := feed_read (code_reads cs) (fun l => begins_ne (cs := cs) (l := l)) l
  unfold decodeAll
  rw [if_pos hc, h]
  by_cases z : (feedAll (codeGet cs) (begins cs) l).2.1 = [] ∧ (feedAll (codeGet cs) (begins cs) l).2.2 = false
  · rw [if_pos z, z.2, decide_eq_true z.1]; rfl
  · rw [if_neg z]
    by_cases y : (feedAll (codeGet cs) (begins cs) l).2.1 = []
    · have : (feedAll (codeGet cs) (begins cs) l).2.2 = true := by
        cases q : (feedAll (codeGet cs) (begins cs) l).2.2 with
        | true => rfl
        | false => exact absurd ⟨y, q⟩ z
      rw [this, decide_eq_true y]; rfl
    · rw [decide_eq_false y]; rfl
theorem decodeAll_fst {cs : Int} {l : List Int} (h : (decodeAll cs l).2 = true) : (decodeAll cs l).1 = strOfNums ((feedAll (codeGet cs) (begins cs) l).1.flatMap encOk) := by
  obtain ⟨hc, ns, hr⟩ := decodeAll_true h
  have h2 := feed_read (code_reads cs) (fun l => begins_ne (cs := cs) (l := l)) l
  rw [hr] at h2
  rw [decodeAll_some hc hr]
  by_cases z : (feedAll (codeGet cs) (begins cs) l).2.1 = [] ∧ (feedAll (codeGet cs) (begins cs) l).2.2 = false
  · rw [if_pos z] at h2; rw [Option.some.inj h2]
  · rw [if_neg z] at h2; cases h2
end Go.Proofs.YtpmimhbnmjffpaaDoor.Model
