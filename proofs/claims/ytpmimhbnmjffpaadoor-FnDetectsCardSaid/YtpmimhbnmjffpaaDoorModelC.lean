/- Reading a row of bytes sign by sign, and writing signs as bytes, in plain Lean: what is read is written as it stood, what is written is read again; no program in sight, no condition beyond those that each lemma names. -/
import Derived.Test.YtpmimhbnmjffpaaDoorModelU
namespace Go.Proofs.YtpmimhbnmjffpaaDoor.Model
open Go.RowKit Go.Proofs.YtpmimhbnmjffpaaDoorW.PrintWords Go.Proofs.YtpmimhbnmjffpaaDoor.Base Go.Proofs.YtpmimhbnmjffpaaDoor.Xw

/-- All signs, by a way to read one at the front: its sign, how many bytes it has. -/
def readN (g : List Int → Option (Int × Nat)) : Nat → List Int → Option (List Int)
  | 0, _ => some []
  | f + 1, l => if l = [] then some [] else match g l with
    | none => none
    | some (n, k) => (readN g f (l.drop k)).map (n :: ·)
def readAll (g : List Int → Option (Int × Nat)) (l : List Int) : Option (List Int) := readN g l.length l
/-- The same, where none can be read xfffd and one byte on; and how many. -/
def lossyN (g : List Int → Option (Int × Nat)) : Nat → List Int → List Int × Nat
  | 0, _ => ([], 0)
  | f + 1, l => if l = [] then ([], 0) else match g l with
    | none => (65533 :: (lossyN g f (l.drop 1)).1, (lossyN g f (l.drop 1)).2 + 1)
    | some (n, k) => (n :: (lossyN g f (l.drop k)).1, (lossyN g f (l.drop k)).2)
def lossyAll (g : List Int → Option (Int × Nat)) (l : List Int) : List Int × Nat := lossyN g l.length l
def writeAll (p : Int → Option (List Int)) : List Int → Option (List Int)
  | [] => some []
  | n :: ns => match p n with
    | none => none
    | some b => (writeAll p ns).map (b ++ ·)
def encAll (ns : List Int) : List Int := ns.flatMap enc

/-- A way to read that goes on by at least one byte, and not past the end. -/
structure Reads (g : List Int → Option (Int × Nat)) : Prop where
  pos : ∀ {l n k}, l ≠ [] → g l = some (n, k) → 1 ≤ k ∧ k ≤ l.length
/-- Reading and writing belong together. -/
structure Codes (g : List Int → Option (Int × Nat)) (p : Int → Option (List Int)) : Prop extends Reads g where
  back : ∀ {l n k}, Bytes l → l ≠ [] → g l = some (n, k) → signOk n = true ∧ p n = some (l.take k)
  forth : ∀ {n b}, signOk n = true → p n = some b → b ≠ [] ∧ Bytes b ∧ ∀ r, g (b ++ r) = some (n, b.length)

section
variable {g : List Int → Option (Int × Nat)} {p : Int → Option (List Int)}
theorem readN_more (R : Reads g) (f : Nat) : ∀ (f' : Nat) (l : List Int), l.length ≤ f → l.length ≤ f' → readN g f l = readN g f' l := by
  induction f with
  | zero =>
    intro f' l h _
    obtain rfl := List.eq_nil_of_length_eq_zero (Nat.le_zero.1 h)
    cases f' <;> simp [readN]
  | succ f ih =>
    intro f' l h h'
    cases f' with
    | zero => obtain rfl := List.eq_nil_of_length_eq_zero (Nat.le_zero.1 h'); simp [readN]
    | succ f' =>
      unfold readN
      by_cases hl : l = []
      · rw [if_pos hl, if_pos hl]
      · rw [if_neg hl, if_neg hl]
        cases hg : g l with
        | none => rfl
        | some q =>
          obtain ⟨n, k⟩ := q
          obtain ⟨k1, k2⟩ := R.pos hl hg
          simp only
          rw [ih f' (l.drop k) (by rw [List.length_drop]; omega) (by rw [List.length_drop]; omega)]
theorem readAll_nil : readAll g [] = some [] := rfl
theorem readAll_cons (R : Reads g) {l : List Int} (hl : l ≠ []) : readAll g l = match g l with
    | none => none
    | some (n, k) => (readAll g (l.drop k)).map (n :: ·) := by
  unfold readAll
  obtain ⟨a, t, rfl⟩ := List.exists_cons_of_ne_nil hl
  rw [List.length_cons, readN, if_neg hl]
  cases hg : g (a :: t) with
  | none => rfl
  | some q =>
    obtain ⟨n, k⟩ := q
    obtain ⟨k1, k2⟩ := R.pos hl hg
    simp only
    rw [readN_more R t.length ((a :: t).drop k).length _ (by rw [List.length_drop, List.length_cons]; omega) (Nat.le_refl _)]
theorem lossyN_more (R : Reads g) (f : Nat) : ∀ (f' : Nat) (l : List Int), l.length ≤ f → l.length ≤ f' → lossyN g f l = lossyN g f' l := by
  induction f with
  | zero =>
    intro f' l h _
    obtain rfl := List.eq_nil_of_length_eq_zero (Nat.le_zero.1 h)
    cases f' <;> simp [lossyN]
  | succ f ih =>
    intro f' l h h'
    cases f' with
    | zero => obtain rfl := List.eq_nil_of_length_eq_zero (Nat.le_zero.1 h'); simp [lossyN]
    | succ f' =>
      unfold lossyN
      by_cases hl : l = []
      · rw [if_pos hl, if_pos hl]
      · rw [if_neg hl, if_neg hl]
        have h1 : 1 ≤ l.length := by cases l with | nil => exact absurd rfl hl | cons => simp
        cases hg : g l with
        | none => simp only; rw [ih f' (l.drop 1) (by rw [List.length_drop]; omega) (by rw [List.length_drop]; omega)]
        | some q =>
          obtain ⟨n, k⟩ := q
          obtain ⟨k1, k2⟩ := R.pos hl hg
          simp only
          rw [ih f' (l.drop k) (by rw [List.length_drop]; omega) (by rw [List.length_drop]; omega)]
theorem lossyAll_nil : lossyAll g [] = ([], 0) := rfl
theorem lossyAll_cons (R : Reads g) {l : List Int} (hl : l ≠ []) : lossyAll g l = match g l with
    | none => (65533 :: (lossyAll g (l.drop 1)).1, (lossyAll g (l.drop 1)).2 + 1)
    | some (n, k) => (n :: (lossyAll g (l.drop k)).1, (lossyAll g (l.drop k)).2) := by
  unfold lossyAll
  obtain ⟨a, t, rfl⟩ := List.exists_cons_of_ne_nil hl
  rw [List.length_cons, lossyN, if_neg hl]
  cases hg : g (a :: t) with
  | none => simp only; rw [List.drop_one, List.tail_cons]
  | some q =>
    obtain ⟨n, k⟩ := q
    obtain ⟨k1, k2⟩ := R.pos hl hg
    simp only
    rw [lossyN_more R t.length ((a :: t).drop k).length _ (by rw [List.length_drop, List.length_cons]; omega) (Nat.le_refl _)]
/-- Induction on what is left to be read. -/
theorem read_induct (R : Reads g) {P : List Int → Prop} (hnil : P []) (hnone : ∀ l, l ≠ [] → g l = none → P (l.drop 1) → P l) (hsome : ∀ l n k, l ≠ [] → g l = some (n, k) → P (l.drop k) → P l) : ∀ l, P l := by
  have key : ∀ f (l : List Int), l.length ≤ f → P l := by
    intro f
    induction f with
    | zero => intro l h; obtain rfl := List.eq_nil_of_length_eq_zero (Nat.le_zero.1 h); exact hnil
    | succ f ih =>
      intro l h
      by_cases hl : l = []
      · subst hl; exact hnil
      · have h1 : 1 ≤ l.length := by cases l with | nil => exact absurd rfl hl | cons => simp
        cases hg : g l with
        | none => exact hnone l hl hg (ih _ (by rw [List.length_drop]; omega))
        | some q =>
          obtain ⟨n, k⟩ := q
          obtain ⟨k1, k2⟩ := R.pos hl hg
          exact hsome l n k hl hg (ih _ (by rw [List.length_drop]; omega))
  exact fun l => key l.length l (Nat.le_refl _)
/-- What is read is written as it stood. -/
theorem read_write (C : Codes g p) : ∀ l, Bytes l → ∀ ns, readAll g l = some ns → writeAll p ns = some l ∧ ∀ n ∈ ns, signOk n = true := by
  refine read_induct C.toReads ?_ ?_ ?_
  · intro _ ns h
    rw [readAll_nil] at h; obtain rfl := Option.some.inj h
    exact ⟨rfl, fun n hn => by cases hn⟩
  · intro l hl hg _ _ ns h
    rw [readAll_cons C.toReads hl, hg] at h; cases h
  · intro l n k hl hg ih hb ns h
    rw [readAll_cons C.toReads hl, hg] at h
    simp only [Option.map_eq_some_iff] at h
    obtain ⟨ms, hm, rfl⟩ := h
    obtain ⟨h1, h2⟩ := ih (hb.drop k) ms hm
    obtain ⟨hs, hp⟩ := C.back hb hl hg
    refine ⟨?_, fun x hx => ?_⟩
    · unfold writeAll
      rw [hp, h1]
      simp
    · rcases List.mem_cons.1 hx with rfl | hx
      · exact hs
      · exact h2 x hx
/-- What is written is read again. -/
theorem write_read (C : Codes g p) : ∀ ns, (∀ n ∈ ns, signOk n = true) → ∀ b, writeAll p ns = some b → readAll g b = some ns ∧ Bytes b := by
  intro ns
  induction ns with
  | nil => intro _ b h; obtain rfl := Option.some.inj h; exact ⟨readAll_nil, Bytes.nil⟩
  | cons n ns ih =>
    intro hs b h
    unfold writeAll at h
    cases hp : p n with
    | none => rw [hp] at h; cases h
    | some c =>
      rw [hp] at h
      simp only [Option.map_eq_some_iff] at h
      obtain ⟨d, hd, rfl⟩ := h
      obtain ⟨hne, hcb, hg⟩ := C.forth (hs n (by simp)) hp
      obtain ⟨h1, h2⟩ := ih (fun x hx => hs x (by simp [hx])) d hd
      refine ⟨?_, hcb.append h2⟩
      rw [readAll_cons C.toReads (by simp [hne]), hg d]
      simp only
      rw [List.drop_left, h1]; rfl
/-- What both say, one behind the other. -/
theorem read_append (C : Codes g p) (b : List Int) : ∀ a, Bytes a → ∀ ns, readAll g a = some ns → readAll g (a ++ b) = (readAll g b).map (ns ++ ·) := by
  refine read_induct C.toReads ?_ ?_ ?_
  · intro _ ns h
    rw [readAll_nil] at h; obtain rfl := Option.some.inj h
    simp
  · intro l hl hg _ _ ns h
    rw [readAll_cons C.toReads hl, hg] at h; cases h
  · intro l n k hl hg ih hb ns h
    rw [readAll_cons C.toReads hl, hg] at h
    simp only [Option.map_eq_some_iff] at h
    obtain ⟨ms, hm, rfl⟩ := h
    obtain ⟨hs, hp⟩ := C.back hb hl hg
    obtain ⟨k1, k2⟩ := C.pos hl hg
    have hg2 : g (l ++ b) = some (n, k) := by
      have := (C.forth hs hp).2.2 (l.drop k ++ b)
      rw [← List.append_assoc, List.take_append_drop, List.length_take, Nat.min_eq_left k2] at this
      exact this
    rw [readAll_cons C.toReads (by simp [hl]), hg2]
    simp only
    rw [List.drop_append_of_le_length k2, ih (hb.drop k) ms hm]
    cases readAll g b <;> rfl
/-- Where all can be read nothing is lost. -/
theorem lossy_read (R : Reads g) : ∀ l ns, readAll g l = some ns → lossyAll g l = (ns, 0) := by
  refine read_induct R ?_ ?_ ?_
  · intro ns h
    rw [readAll_nil] at h; obtain rfl := Option.some.inj h; rfl
  · intro l hl hg _ ns h
    rw [readAll_cons R hl, hg] at h; cases h
  · intro l n k hl hg ih ns h
    rw [readAll_cons R hl, hg] at h
    simp only [Option.map_eq_some_iff] at h
    obtain ⟨ms, hm, rfl⟩ := h
    rw [lossyAll_cons R hl, hg]
    simp only
    rw [ih ms hm]
/-- Where something can't be read something is lost. -/
theorem lossy_lost (R : Reads g) : ∀ l, readAll g l = none → 0 < (lossyAll g l).2 := by
  refine read_induct R ?_ ?_ ?_
  · intro h; rw [readAll_nil] at h; cases h
  · intro l hl hg _ _
    rw [lossyAll_cons R hl, hg]; simp
  · intro l n k hl hg ih h
    rw [readAll_cons R hl, hg] at h
    simp only [Option.map_eq_none_iff] at h
    rw [lossyAll_cons R hl, hg]
    exact ih h
theorem lossy_ok (C : Codes g p) : ∀ l, Bytes l → ∀ n ∈ (lossyAll g l).1, signOk n = true := by
  refine read_induct C.toReads ?_ ?_ ?_
  · intro _ n hn; cases hn
  · intro l hl hg ih hb n hn
    rw [lossyAll_cons C.toReads hl, hg] at hn
    rcases List.mem_cons.1 hn with rfl | hn
    · decide
    · exact ih (hb.drop 1) n hn
  · intro l n k hl hg ih hb m hm
    rw [lossyAll_cons C.toReads hl, hg] at hm
    rcases List.mem_cons.1 hm with rfl | hm
    · exact (C.back hb hl hg).1
    · exact ih (hb.drop k) m hm
theorem lossy_length (R : Reads g) : ∀ l, (lossyAll g l).1.length ≤ l.length ∧ (lossyAll g l).2 ≤ l.length := by
  refine read_induct R ?_ ?_ ?_
  · exact ⟨Nat.le_refl _, Nat.le_refl _⟩
  · intro l hl hg ih
    have h1 : 1 ≤ l.length := by cases l with | nil => exact absurd rfl hl | cons => simp
    rw [lossyAll_cons R hl, hg]
    rw [List.length_drop] at ih
    simp only [List.length_cons]; omega
  · intro l n k hl hg ih
    obtain ⟨k1, k2⟩ := R.pos hl hg
    rw [lossyAll_cons R hl, hg]
    rw [List.length_drop] at ih
    simp only [List.length_cons]; omega
end

theorem decL_le (l : List Int) (hl : l ≠ []) : 1 ≤ (decL l).2 ∧ (decL l).2 ≤ l.length := by
  have h1 : 1 ≤ l.length := by cases l with | nil => exact absurd rfl hl | cons => simp
  have key : ∀ (n b0 b1 b2 b3 : Nat), 1 ≤ n → 1 ≤ (Lib.decodeN n b0 b1 b2 b3).2 ∧ (Lib.decodeN n b0 b1 b2 b3).2 ≤ n := by
    intro n b0 b1 b2 b3 h
    unfold Lib.decodeN
    repeat' split
    all_goals (simp only; omega)
  exact key _ _ _ _ _ h1

/-! signs of today -/
def utfGet (l : List Int) : Option (Int × Nat) := if l = [] then none else if decL l = (65533, 1) then none else some ((decL l).1, (decL l).2)
def utfPut (n : Int) : Option (List Int) := if signOk n = true then some (enc n) else none
theorem take_of {a b l : List Int} {k : Nat} (h : l = a ++ b) (hk : a.length = k) : l.take k = a := by subst h; subst hk; simp
theorem utfGet_enc {n : Int} (h : signOk n = true) (r : List Int) : utfGet (enc n ++ r) = some (n, (enc n).length) := by
  have hp := enc_pos n
  unfold utfGet
  rw [if_neg (by intro z; have h1 := congrArg List.length z; rw [List.length_append, List.length_nil] at h1; omega), decL_enc h r]
  have h0 := signOk_iff.1 h
  rw [if_neg]
  · simp only [Option.some.injEq, Prod.mk.injEq]; exact ⟨by omega, trivial⟩
  · intro z
    injection z with z1 z2
    have hn : n = 65533 := by omega
    subst hn
    exact absurd z2 (by decide)
theorem utf_codes : Codes utfGet utfPut where
  pos := by
    intro l n k hl h
    unfold utfGet at h
    rw [if_neg hl] at h
    by_cases hd : decL l = (65533, 1)
    · rw [if_pos hd] at h; cases h
    · rw [if_neg hd] at h
      injection h with h; injection h with h1 h2
      subst h2
      exact decL_le l hl
  back := by
    intro l n k hb hl h
    unfold utfGet at h
    rw [if_neg hl] at h
    by_cases hd : decL l = (65533, 1)
    · rw [if_pos hd] at h; cases h
    · rw [if_neg hd] at h
      injection h with h; injection h with h1 h2
      obtain ⟨hs, he, hk⟩ := decL_sound l hb hl hd
      rw [← h1, ← h2]
      refine ⟨hs, ?_⟩
      unfold utfPut
      rw [if_pos hs]
      rw [take_of he hk]
  forth := by
    intro n b hs h
    unfold utfPut at h
    rw [if_pos hs] at h
    obtain rfl := Option.some.inj h
    exact ⟨by intro z; have h1 := enc_pos n; rw [z, List.length_nil] at h1; omega, enc_bytes hs, utfGet_enc hs⟩

end Go.Proofs.YtpmimhbnmjffpaaDoor.Model
