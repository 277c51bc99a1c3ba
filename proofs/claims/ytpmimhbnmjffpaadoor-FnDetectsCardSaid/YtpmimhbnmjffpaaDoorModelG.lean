/- Signs written with loss, texts one behind the other, and texts of what is read, in plain Lean; no program in sight, no condition beyond those that each lemma names. -/
import Derived.Test.YtpmimhbnmjffpaaDoorModelF
namespace Go.Proofs.YtpmimhbnmjffpaaDoor.Model
open Go.RowKit Go.Proofs.YtpmimhbnmjffpaaDoorW.PrintWords Go.Proofs.YtpmimhbnmjffpaaDoor.Base Go.Proofs.YtpmimhbnmjffpaaDoor.Xw

/-! with loss -/
def writeLossy (p : Int → Option (List Int)) : List Int → List Int × Nat
  | [] => ([], 0)
  | n :: ns => match p n with
    | none => (63 :: (writeLossy p ns).1, (writeLossy p ns).2 + 1)
    | some b => (b ++ (writeLossy p ns).1, (writeLossy p ns).2)
def encodeLossy (cs : Int) (s : ByteArray) : List Int × Int := if inR cs 0 5 = true then (match readAll utfGet (numsOf s) with
  | none => ([], 0)
  | some ns => ((writeLossy (codePut cs) ns).1, ((writeLossy (codePut cs) ns).2 : Int))) else ([], 0)
theorem write_lossy {p : Int → Option (List Int)} : ∀ ns b, writeAll p ns = some b → writeLossy p ns = (b, 0) := by
  intro ns
  induction ns with
  | nil => intro b h; unfold writeAll at h; obtain rfl := Option.some.inj h; rfl
  | cons n ns ih =>
    intro b h
    unfold writeAll at h
    unfold writeLossy
    cases hx : p n with
    | none => rw [hx] at h; cases h
    | some x =>
      rw [hx] at h
      simp only at h ⊢
      obtain ⟨c, hc, rfl⟩ := Option.map_eq_some_iff.1 h
      rw [ih c hc]
theorem writeLossy_length {p : Int → Option (List Int)} (hp : ∀ n x, p n = some x → x.length ≤ 4) : ∀ ns, (writeLossy p ns).1.length ≤ 4 * ns.length ∧ (writeLossy p ns).2 ≤ ns.length := by
  intro ns
  induction ns with
  | nil => exact ⟨Nat.le_refl _, Nat.le_refl _⟩
  | cons n ns ih =>
    unfold writeLossy
    cases hx : p n with
    | none => simp only [List.length_cons]; omega
    | some x =>
      have := hp n x hx
      simp only [List.length_cons, List.length_append]; omega
theorem encodeLossy_length (cs : Int) (s : ByteArray) : (encodeLossy cs s).1.length ≤ 4 * s.size := by
  unfold encodeLossy
  by_cases h : inR cs 0 5 = true
  · rw [if_pos h]
    cases hr : readAll utfGet (numsOf s) with
    | none => simp
    | some ns =>
      have h1 := readN_length utf_codes.toReads _ _ hr
      have h2 := (writeLossy_length (p := codePut cs) (fun n x h => codePut_length (cs := cs) (n := n) h) ns).1
      rw [numsOf_length] at h1
      simp only
      omega
  · rw [if_neg h]; simp
theorem writeLossy_bytes {p : Int → Option (List Int)} (hp : ∀ n x, p n = some x → Bytes x) : ∀ ns, Bytes (writeLossy p ns).1 := by
  intro ns
  induction ns with
  | nil => exact .nil
  | cons n ns ih =>
    unfold writeLossy
    cases hx : p n with
    | none => exact .cons (by omega) (by omega) ih
    | some x => exact (hp n x hx).append ih
theorem encodeLossy_bytes (cs : Int) (s : ByteArray) : Bytes (encodeLossy cs s).1 := by
  unfold encodeLossy
  by_cases h : inR cs 0 5 = true
  · rw [if_pos h]
    cases hr : readAll utfGet (numsOf s) with
    | none => exact .nil
    | some ns => exact writeLossy_bytes (p := codePut cs) (fun n x h => codePut_bytes (cs := cs) (n := n) h) ns
  · rw [if_neg h]; exact .nil

/-! texts -/
theorem encs_enc {ns : List Int} (h : ∀ n ∈ ns, signOk n = true) : ns.flatMap encOk = ns.flatMap enc := by
  induction ns with
  | nil => rfl
  | cons n ns ih =>
    rw [List.flatMap_cons, List.flatMap_cons, ih (fun x hx => h x (by simp [hx]))]
    unfold encOk
    rw [if_pos (h n (by simp))]
theorem utf_write {ns : List Int} (h : ∀ n ∈ ns, signOk n = true) : writeAll utfPut ns = some (ns.flatMap encOk) := by
  induction ns with
  | nil => rfl
  | cons n ns ih =>
    unfold writeAll utfPut
    rw [if_pos (h n (by simp)), List.flatMap_cons]
    simp only
    have hi := ih (fun x hx => h x (by simp [hx]))
    unfold utfPut at hi
    rw [hi]
    unfold encOk
    rw [if_pos (h n (by simp))]
    rfl
/-- A text of signs is read as these signs. -/
theorem text_read {ns : List Int} (h : ∀ n ∈ ns, signOk n = true) : readAll utfGet (numsOf (strOfNums (ns.flatMap encOk))) = some ns := by
  obtain ⟨h1, h2⟩ := write_read utf_codes ns h _ (utf_write h)
  rw [numsOf_strOfNums h2, h1]
/-- A text is the text of its signs. -/
theorem text_back {s : ByteArray} {ns : List Int} (h : readAll utfGet (numsOf s) = some ns) : strOfNums (ns.flatMap encOk) = s ∧ ∀ n ∈ ns, signOk n = true := by
  obtain ⟨h1, h2⟩ := read_write utf_codes (numsOf s) (numsOf_bytes s) ns h
  rw [utf_write h2] at h1
  have := Option.some.inj h1
  rw [this, strOfNums_numsOf]
  exact ⟨rfl, h2⟩
theorem inR_of {cs : Int} (h : inR cs 0 5 = true) : 0 ≤ cs ∧ cs ≤ 5 := inR_true.1 h
theorem decodeAll_some {cs : Int} {l ns : List Int} (hc : inR cs 0 5 = true) (h : readAll (codeGet cs) l = some ns) : decodeAll cs l = (strOfNums (ns.flatMap encOk), true) := by
  unfold decodeAll; rw [if_pos hc, h]
theorem decodeAll_true {cs : Int} {l : List Int} (h : (decodeAll cs l).2 = true) : inR cs 0 5 = true ∧ ∃ ns, readAll (codeGet cs) l = some ns := by
  unfold decodeAll at h
  by_cases hc : inR cs 0 5 = true
  · rw [if_pos hc] at h
    cases hr : readAll (codeGet cs) l with
    | none => rw [hr] at h; cases h
    | some ns => exact ⟨hc, ns, rfl⟩
  · rw [if_neg hc] at h; cases h
theorem encodeAll_true {cs : Int} {s : ByteArray} (h : (encodeAll cs s).2 = true) : inR cs 0 5 = true ∧ ∃ ns b, readAll utfGet (numsOf s) = some ns ∧ writeAll (codePut cs) ns = some b ∧ encodeAll cs s = (b, true) := by
  unfold encodeAll at h ⊢
  by_cases hc : inR cs 0 5 = true
  · rw [if_pos hc] at h ⊢
    cases hr : readAll utfGet (numsOf s) with
    | none => rw [hr] at h; cases h
    | some ns =>
      rw [hr] at h
      simp only at h
      cases hw : writeAll (codePut cs) ns with
      | none => rw [hw] at h; cases h
      | some b => exact ⟨hc, ns, b, rfl, hw, by simp only [hw]⟩
  · rw [if_neg hc] at h; cases h
/-- What is read of bytes is written as these bytes again. -/
theorem decode_encode {cs : Int} {l : List Int} (hb : Bytes l) (h : (decodeAll cs l).2 = true) : encodeAll cs (decodeAll cs l).1 = (l, true) ∧ (signs (numsOf (decodeAll cs l).1)).2 = true := by
  obtain ⟨hc, ns, hr⟩ := decodeAll_true h
  obtain ⟨hw, hs⟩ := read_write (code_codes (inR_of hc)) l hb ns hr
  have ht := text_read hs
  rw [decodeAll_some hc hr]
  simp only
  refine ⟨?_, by rw [signs_some ht]⟩
  unfold encodeAll
  rw [if_pos hc, ht]
  simp only [hw]
/-- What is written of a text is read as this text. -/
theorem encode_decode {cs : Int} {s : ByteArray} (h : (encodeAll cs s).2 = true) : decodeAll cs (encodeAll cs s).1 = (s, true) := by
  obtain ⟨hc, ns, b, hr, hw, he⟩ := encodeAll_true h
  obtain ⟨ht, hs⟩ := text_back hr
  obtain ⟨h1, _⟩ := write_read (code_codes (inR_of hc)) ns hs b hw
  rw [he, decodeAll_some hc h1, ht]
theorem decodeLossy_text {cs : Int} {l : List Int} (hb : Bytes l) : (signs (numsOf (decodeLossy cs l).1)).2 = true := by
  unfold decodeLossy
  by_cases hc : inR cs 0 5 = true
  · rw [if_pos hc]
    rw [signs_some (text_read (lossy_ok (code_codes (inR_of hc)) l hb))]
  · rw [if_neg hc]; rfl
theorem decodeLossy_size (cs : Int) (l : List Int) : (decodeLossy cs l).1.size ≤ 4 * l.length := by
  unfold decodeLossy
  by_cases hc : inR cs 0 5 = true
  · rw [if_pos hc]
    have h1 := (lossy_length (code_reads cs) l).1
    have h2 := encs_length (lossyAll (codeGet cs) l).1
    simp only
    rw [strOfNums_size]; omega
  · rw [if_neg hc]; exact Nat.zero_le _
theorem lossy_same {cs : Int} {l : List Int} (h : (decodeAll cs l).2 = true) : decodeLossy cs l = ((decodeAll cs l).1, 0) := by
  obtain ⟨hc, ns, hr⟩ := decodeAll_true h
  rw [decodeAll_some hc hr]
  unfold decodeLossy
  rw [if_pos hc, lossy_read (code_reads cs) l ns hr]
  rfl
theorem lossy_less {cs : Int} {l : List Int} (h : ¬ (decodeAll cs l).2 = true) : (decodeLossy cs l).2 > 0 ∨ (decodeLossy cs l).1 = ⟨#[]⟩ := by
  unfold decodeAll at h
  unfold decodeLossy
  by_cases hc : inR cs 0 5 = true
  · rw [if_pos hc] at h ⊢
    cases hr : readAll (codeGet cs) l with
    | none =>
      have := lossy_lost (code_reads cs) l hr
      exact .inl (by simp only; omega)
    | some ns => rw [hr] at h; exact absurd rfl h
  · rw [if_neg hc]; exact .inr rfl
theorem encodeLossy_same {cs : Int} {s : ByteArray} (h : (encodeAll cs s).2 = true) : encodeLossy cs s = ((encodeAll cs s).1, 0) := by
  obtain ⟨hc, ns, b, hr, hw, he⟩ := encodeAll_true h
  rw [he]
  unfold encodeLossy
  rw [if_pos hc, hr]
  simp only [write_lossy ns b hw]
  rfl

/-! one behind the other -/
theorem numsOf_append (a b : ByteArray) : numsOf (a ++ b) = numsOf a ++ numsOf b := by
  unfold numsOf
  rw [ByteArray.data_append, Array.toList_append, List.map_append]
theorem strOfNums_append (a b : List Int) : strOfNums (a ++ b) = strOfNums a ++ strOfNums b := by
  apply ByteArray.ext
  rw [ByteArray.data_append]
  simp [strOfNums]
theorem decode_append {cs : Int} {a b : List Int} (ha : Bytes a) (h1 : (decodeAll cs a).2 = true) (h2 : (decodeAll cs b).2 = true) : decodeAll cs (a ++ b) = ((decodeAll cs a).1 ++ (decodeAll cs b).1, true) := by
  obtain ⟨hc, ns, hr⟩ := decodeAll_true h1
  obtain ⟨_, ms, hm⟩ := decodeAll_true h2
  have := read_append (code_codes (inR_of hc)) b a ha ns hr
  rw [hm] at this
  rw [decodeAll_some hc hr, decodeAll_some hc hm, decodeAll_some hc this, List.flatMap_append, strOfNums_append]
theorem write_append {p : Int → Option (List Int)} (ms : List Int) : ∀ ns, writeAll p (ns ++ ms) = (writeAll p ns).bind fun a => (writeAll p ms).map (a ++ ·) := by
  intro ns
  induction ns with
  | nil => cases h : writeAll p ms <;> simp [writeAll, h]
  | cons n ns ih =>
    have e1 : writeAll p (n :: (ns ++ ms)) = (match p n with | none => none | some b => (writeAll p (ns ++ ms)).map (b ++ ·)) := rfl
    have e2 : writeAll p (n :: ns) = (match p n with | none => none | some b => (writeAll p ns).map (b ++ ·)) := rfl
    rw [List.cons_append, e1, e2]
    cases p n with
    | none => rfl
    | some x =>
      simp only
      rw [ih]
      cases writeAll p ns with
      | none => rfl
      | some a =>
        cases writeAll p ms with
        | none => rfl
        | some b => simp
/-- A byte that goes on with no sign ends one that is not all there. -/
theorem utf_stop {l r : List Int} {x : Int} (hb : Bytes l) (_hx : 0 ≤ x ∧ x ≤ 255) (hn : ¬ (128 ≤ x ∧ x < 192)) (hl : l ≠ []) (h : decL l = (65533, 1)) : decL (l ++ x :: r) = (65533, 1) := by
  have h1 : 1 ≤ l.length := by cases l with | nil => exact absurd rfl hl | cons => simp
  unfold decL at h ⊢
  rw [getD_app l (x :: r) 0 (by omega)]
  have hlen : (l ++ x :: r).length = l.length + 1 + r.length := by rw [List.length_append, List.length_cons]; omega
  have hat : ∀ i, l.length = i → ((l ++ x :: r).getD i 0).toNat = x.toNat := by
    intro i hi
    rw [List.getD_eq_getElem?_getD, List.getElem?_append_right (by omega), hi, Nat.sub_self]; rfl
  have hin : ∀ i, i < l.length → ((l ++ x :: r).getD i 0).toNat = (l.getD i 0).toNat := fun i hi => by rw [getD_app l (x :: r) i hi]
  have g0 := byte_nat hb 0
  have key : ∀ (n m b0 b1 b2 b3 c1 c2 c3 y : Nat), 1 ≤ n → b0 < 256 → (y / 64 ≠ 2) → (1 < n → c1 = b1) → (n = 1 → c1 = y) → (2 < n → c2 = b2) → (n = 2 → c2 = y) → (3 < n → c3 = b3) → (n = 3 → c3 = y) → n < m →
      Lib.decodeN n b0 b1 b2 b3 = (65533, 1) → Lib.decodeN m b0 c1 c2 c3 = (65533, 1) := by
    intro n m b0 b1 b2 b3 c1 c2 c3 y hn hb0 hy k1 k1' k2 k2' k3 k3' hm hd
    unfold Lib.decodeN at hd ⊢
    by_cases a0 : b0 < 128
    · rw [if_pos a0] at hd; injection hd with z; omega
    · rw [if_neg a0] at hd ⊢
      by_cases a1 : b0 / 32 = 6 ∧ (1 < m ∧ c1 / 64 = 2)
      · have n1 : 1 < n := by
          rcases Nat.lt_or_ge 1 n with z | z
          · exact z
          · exfalso; have := k1' (by omega); omega
        have := k1 n1; subst this
        rw [if_pos ⟨a1.1, n1, a1.2.2⟩] at hd
        rw [if_pos a1]; exact hd
      · rw [if_neg a1]
        by_cases a2 : b0 / 16 = 14 ∧ (1 < m ∧ c1 / 64 = 2) ∧ (2 < m ∧ c2 / 64 = 2)
        · have n1 : 1 < n := by
            rcases Nat.lt_or_ge 1 n with z | z
            · exact z
            · exfalso; have := k1' (by omega); omega
          have n2 : 2 < n := by
            rcases Nat.lt_or_ge 2 n with z | z
            · exact z
            · exfalso; have := k2' (by omega); omega
          have := k1 n1; subst this
          have := k2 n2; subst this
          rw [if_neg (by omega), if_pos ⟨a2.1, ⟨n1, a2.2.1.2⟩, n2, a2.2.2.2⟩] at hd
          rw [if_pos a2]; exact hd
        · rw [if_neg a2]
          by_cases a3 : b0 / 8 = 30 ∧ (1 < m ∧ c1 / 64 = 2) ∧ (2 < m ∧ c2 / 64 = 2) ∧ (3 < m ∧ c3 / 64 = 2)
          · have n1 : 1 < n := by
              rcases Nat.lt_or_ge 1 n with z | z
              · exact z
              · exfalso; have := k1' (by omega); omega
            have n2 : 2 < n := by
              rcases Nat.lt_or_ge 2 n with z | z
              · exact z
              · exfalso; have := k2' (by omega); omega
            have n3 : 3 < n := by
              rcases Nat.lt_or_ge 3 n with z | z
              · exact z
              · exfalso; have := k3' (by omega); omega
            have := k1 n1; subst this
            have := k2 n2; subst this
            have := k3 n3; subst this
            rw [if_neg (by omega), if_neg (by omega), if_pos ⟨a3.1, ⟨n1, a3.2.1.2⟩, ⟨n2, a3.2.2.1.2⟩, n3, a3.2.2.2.2⟩] at hd
            rw [if_pos a3]; exact hd
          · rw [if_neg a3]
  exact key l.length _ _ _ _ _ _ _ _ x.toNat h1 g0.2 (by omega) (hin 1) (hat 1) (hin 2) (hat 2) (hin 3) (hat 3) (by omega) h
theorem utf_tail {x : Int} {r : List Int} (hx : 128 ≤ x ∧ x < 192) : decL (x :: r) = (65533, 1) := by
  have e : ((x :: r).getD 0 0).toNat = x.toNat := rfl
  unfold decL
  rw [e]
  unfold Lib.decodeN
  rw [if_neg (by omega), if_neg (by omega), if_neg (by omega), if_neg (by omega)]
/-- Bytes that are no text are none twice. -/
theorem utf_twice {l : List Int} (hb : Bytes l) (h : readAll utfGet l = none) : readAll utfGet (l ++ l) = none := by
  cases l with
  | nil => rw [readAll_nil] at h; cases h
  | cons x r =>
    have hx := hb x (by simp)
    by_cases hc : 128 ≤ x ∧ x < 192
    · rw [List.cons_append, readAll_cons utf_codes.toReads (by simp), utfGet_none (by simp) (utf_tail hc)]
    · have key : ∀ a, Bytes a → readAll utfGet a = none → readAll utfGet (a ++ x :: r) = none := by
        refine read_induct utf_codes.toReads ?_ ?_ ?_
        · intro _ h; rw [readAll_nil] at h; cases h
        · intro a ha hg _ hab _
          have hd : decL a = (65533, 1) := by
            by_cases z : decL a = (65533, 1)
            · exact z
            · rw [utfGet_some ha z] at hg; cases hg
          rw [readAll_cons utf_codes.toReads (by simp), utfGet_none (by simp) (utf_stop hab hx hc ha hd)]
        · intro a n k ha hg ih hab h
          rw [readAll_cons utf_codes.toReads ha, hg] at h
          simp only [Option.map_eq_none_iff] at h
          obtain ⟨k1, k2⟩ := utf_codes.pos ha hg
          have hm : utfGet (a ++ x :: r) = some (n, k) := by
            have := code_more (cs := 0) (r := x :: r) ⟨by omega, by omega⟩ hab ha (by unfold codeGet; rw [if_pos rfl]; exact hg)
            unfold codeGet at this; rwa [if_pos rfl] at this
          rw [readAll_cons utf_codes.toReads (by simp), hm]
          simp only [Option.map_eq_none_iff]
          rw [List.drop_append_of_le_length k2]
          exact ih (hab.drop k) h
      exact key _ hb h
theorem encode_twice (cs : Int) (s : ByteArray) : (encodeAll cs (s ++ s)).2 = (encodeAll cs s).2 ∧ ((encodeAll cs s).2 = true → (encodeAll cs (s ++ s)).1 = (encodeAll cs s).1 ++ (encodeAll cs s).1) := by
  unfold encodeAll
  by_cases hc : inR cs 0 5 = true
  · rw [if_pos hc, if_pos hc, numsOf_append]
    cases hr : readAll utfGet (numsOf s) with
    | none => rw [utf_twice (numsOf_bytes s) hr]; exact ⟨rfl, fun z => by cases z⟩
    | some ns =>
      have := read_append utf_codes (numsOf s) (numsOf s) (numsOf_bytes s) ns hr
      rw [hr] at this
      rw [this]
      simp only [Option.map_some]
      rw [write_append]
      cases hw : writeAll (codePut cs) ns with
      | none => exact ⟨rfl, fun z => by cases z⟩
      | some b => exact ⟨rfl, fun _ => rfl⟩
  · rw [if_neg hc, if_neg hc]; exact ⟨rfl, fun z => by cases z⟩

/-! what comes in parts -/
theorem decodeAll_snd {cs : Int} {l : List Int} (hc : inR cs 0 5 = true) : (decodeAll cs l).2 = (decide ((feedAll (codeGet cs) (begins cs) l).2.1 = []) && !(feedAll (codeGet cs) (begins cs) l).2.2) := by
  have h := feed_read (code_reads cs) (fun l => begins_ne (cs := cs) (l := l)) l
  unfold decodeAll
  rw [if_pos hc, h]
  by_cases z : (feedAll (codeGet cs) (begins cs) l).2.1 = [] ∧ (feedAll (codeGet cs) (begins cs) l).2.2 = false
  · rw [if_pos z, z.2, decide_eq_true z.1]; rfl
  · rw [if_neg z]
    by_cases y : (feedAll (codeGet cs) (begins cs) l).2.1 = []
    · have : (feedAll (codeGet cs) (begins cs) l).2.2 = true := by
        cases q : (feedAll (codeGet cs) (begins cs) l).2.2 with
        | true => rfl
        | false => exact absurd ⟨y, q⟩ z
      rw [this, decide_eq_true y]; rfl
    · rw [decide_eq_false y]; rfl
theorem decodeAll_fst {cs : Int} {l : List Int} (h : (decodeAll cs l).2 = true) : (decodeAll cs l).1 = strOfNums ((feedAll (codeGet cs) (begins cs) l).1.flatMap encOk) := by
  obtain ⟨hc, ns, hr⟩ := decodeAll_true h
  have h2 := feed_read (code_reads cs) (fun l => begins_ne (cs := cs) (l := l)) l
  rw [hr] at h2
  rw [decodeAll_some hc hr]
  by_cases z : (feedAll (codeGet cs) (begins cs) l).2.1 = [] ∧ (feedAll (codeGet cs) (begins cs) l).2.2 = false
  · rw [if_pos z] at h2; rw [Option.some.inj h2]
  · rw [if_neg z] at h2; cases h2
end Go.Proofs.YtpmimhbnmjffpaaDoor.Model
