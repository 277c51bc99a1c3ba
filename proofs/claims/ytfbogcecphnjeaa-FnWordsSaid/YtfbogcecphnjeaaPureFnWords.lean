/- The law FnWords answers true at every code: numbers and texts come back of their bytes; cut they do not. -/
import Derived.Test.YtfbogcecphnjeaaQFnWordsx3
import Derived.Test.YtfbogcecphnjeaaModel
import Derived.Test.YtfbogcecphnjeaaModelC
import Derived.Test.YtfbogcecphnjeaaModelS
import Derived.Test.YtfbogcecphnjeaaModelU
namespace Go.Proofs.Ytfbogcecphnjeaa.Pure
open Go.RowKit Go.Proofs.Ytfbogcecphnjeaa.QFnWords Go.Proofs.YtfbogcecphnjeaaW.PrintWords Go.Proofs.YtfbogcecphnjeaaW.PrintLast Go.Proofs.Ytfbogcecphnjeaa.Ext Go.Proofs.Ytfbogcecphnjeaa.Xw Go.Proofs.Ytfbogcecphnjeaa.Base Go.Proofs.Ytfbogcecphnjeaa.Model

theorem impl_joined_1 (a : List Int) (h : a.length < 140737488355328) : Ev (fun k => impl_joined.f k [a]) a := by
  refine ev_shift (ev_shift (ev_same fun k => ?_))
  simp only [impl_joined.f, impl_joined.l0]
  simp [rd_L1, wrap64, h]
theorem impl_joined_2 (a b : List Int) (h : a.length + b.length < 140737488355328) : Ev (fun k => impl_joined.f k [a, b]) (a ++ b) := by
  refine ev_shift (ev_shift (ev_shift (ev_same fun k => ?_)))
  have ha : a.length < 140737488355328 := by omega
  simp only [impl_joined.f, impl_joined.l0]
  simp [rd_L1, wrap64, h, ha]
theorem impl_PutW_ev (b : List Int) (n : Int) (h : b.length + 2 < 140737488355328) : Ev (fun k => impl_PutW.f k b n) (b ++ word n) := by
  have e : [(Go.bits .and .i64 (n / 256) 255) % 256, (Go.bits .and .i64 n 255) % 256] = word n := by
    unfold word; rw [and_255, and_255]; simp
  simp only [impl_PutW.f, e]
  exact ev_bind (impl_joined_2 b (word n) (by simpa [word] using h)) (Ev.now _)
theorem impl_PutText_ev (b : List Int) (s : ByteArray) (h : b.length + 100 < 140737488355328) : Ev (fun k => impl_PutText.f k b s) (if s.size > 60 then b else b ++ word (s.size : Int) ++ numsOf s) := by
  simp only [impl_PutText.f]
  by_cases h1 : s.size > 60
  · rw [if_pos h1]
    exact ev_pos (by omega) (ev_bind (impl_joined_1 b (by omega)) (Ev.now _))
  · rw [if_neg h1]
    exact ev_neg (by omega) (ev_bind (impl_PutW_ev b _ (by omega)) (ev_pos (by omega) (ev_bind (impl_joined_2 _ _ (by rw [List.length_append, numsOf_length]; show b.length + 2 + s.size < _; omega)) (Ev.now _))))
theorem laws_big_eq (c : List Int) : laws_big.f c = some (decide ((c.length : Int) > 1048576)) := rfl
theorem l1New_l0 (c : List Int) (_hl : c.length ≤ 4611686018427387904) (d : Nat) : ∀ (i : Nat) (h : Int), i + d = c.length → ∃ h', Ev (fun k => spec_l1New.l0 k c h (i : Int)) (c, 0, h') := by
  induction d with
  | zero =>
    intro i h hi
    refine ⟨h, ev_shift ?_⟩
    simp only [spec_l1New.l0]
    exact ev_neg (by omega) (Ev.now _)
  | succ d ih =>
    intro i h hi
    by_cases h4 : (i : Int) < 4000
    · obtain ⟨h', e⟩ := ih (i + 1) (Go.bits .and .i64 (wrap64 ((wrap64 ((wrap64 (h * 137)) + (wrap64 (rd c (i : Int))))) + 11)) 1073741823) (by omega)
      refine ⟨h', ev_shift ?_⟩
      simp only [spec_l1New.l0, next_nat i (by omega)]
      exact ev_pos (by omega) (ev_pos h4 (ev_pos (by omega) e))
    · refine ⟨h, ev_shift ?_⟩
      simp only [spec_l1New.l0]
      exact ev_pos (by omega) (ev_neg h4 (Ev.now _))
theorem l1New_ev (c : List Int) (hl : c.length ≤ 4611686018427387904) : ∃ h, Ev (fun k => spec_l1New.f k c) (c, 0, h) := l1New_l0 c hl c.length 0 _ (by omega)
theorem l1Byte_ok (c : List Int) (i h : Int) (hi : 0 ≤ i) (hl : c.length ≤ 4611686018427387904) : ∃ x i' h', spec_l1Byte.f c i h = some (x, i', h') ∧ 0 ≤ i' ∧ 0 ≤ x ∧ x ≤ 255 := by
  unfold spec_l1Byte.f
  by_cases h1 : i < (c.length : Int)
  · rw [if_pos h1, if_pos hi, and_255, w64 (x := i + 1) (by omega) (by omega)]
    exact ⟨_, _, _, rfl, by omega, by omega, by omega⟩
  · rw [if_neg h1, and_255]
    exact ⟨_, _, _, rfl, hi, by omega, by omega⟩
theorem l1Bytes_l0 (c : List Int) (hl : c.length ≤ 4611686018427387904) (n : Int) (hn : n ≤ 1099511627776) (d : Nat) : ∀ (j : Int) (out : List Int) (i h : Int), 0 ≤ j → j + d = n → (out.length : Int) = j → Bytes out → 0 ≤ i →
    ∃ l i' h', Ev (fun k => spec_l1Bytes.l0 k n out j c i h) (l, i', h') ∧ 0 ≤ i' ∧ Bytes l ∧ (l.length : Int) = n := by
  induction d with
  | zero =>
    intro j out i h h0 hj ho hb hi
    refine ⟨out, i, h, ev_shift ?_, hi, hb, by omega⟩
    simp only [spec_l1Bytes.l0]
    exact ev_neg (by omega) (Ev.now _)
  | succ d ih =>
    intro j out i h h0 hj ho hb hi
    obtain ⟨x, i1, g1, e1, p1, q1, r1⟩ := l1Byte_ok c i h hi hl
    obtain ⟨l, i2, g2, e2, p2, q2, r2⟩ := ih (j + 1) (out ++ [x % 256]) i1 g1 (by omega) (by omega) (by simp; omega) (hb.append (.cons (by omega) (by omega) .nil)) p1
    refine ⟨l, i2, g2, ev_shift ?_, p2, q2, r2⟩
    simp only [spec_l1Bytes.l0]
    rw [w64 (x := j + 1) (by omega) (by omega)]
    exact ev_pos (by omega) (ev_call e1 (ev_pos (by omega) e2))
theorem l1Bytes_ev (c : List Int) (i h n : Int) (hi : 0 ≤ i) (hl : c.length ≤ 4611686018427387904) (h0 : 0 ≤ n) (hn : n ≤ 1099511627776) :
    ∃ l i' h', Ev (fun k => spec_l1Bytes.f k c i h n) (l, i', h') ∧ 0 ≤ i' ∧ Bytes l ∧ (l.length : Int) = n := l1Bytes_l0 c hl n hn n.toNat 0 [] i h (by omega) (by omega) rfl Bytes.nil hi
theorem l1Below_ok (c : List Int) (i h n : Int) (hi : 0 ≤ i) (hl : c.length ≤ 4611686018427387904) : ∃ x i' h', spec_l1Below.f c i h n = some (x, i', h') ∧ 0 ≤ i' ∧ 0 ≤ x ∧ (n ≤ 0 → x = 0) ∧ (0 < n → x < n) := by
  unfold spec_l1Below.f
  by_cases h1 : n ≤ 0
  · rw [if_pos h1]; exact ⟨0, i, h, rfl, hi, by omega, fun _ => rfl, fun z => by omega⟩
  · rw [if_neg h1]
    obtain ⟨x, i1, g1, e1, p1, q1, r1⟩ := l1Byte_ok c i h hi hl
    rw [e1]; simp only [Option.bind_some]
    by_cases h2 : n ≤ 256
    · rw [if_pos h2, if_neg (by omega), Int.tmod_eq_emod_of_nonneg q1]
      exact ⟨_, _, _, rfl, p1, Int.emod_nonneg _ (by omega), fun z => absurd z h1, fun z => Int.emod_lt_of_pos _ z⟩
    · rw [if_neg h2]
      obtain ⟨y, i2, g2, e2, p2, q2, r2⟩ := l1Byte_ok c i1 g1 p1 hl
      rw [e2]; simp only [Option.bind_some]
      obtain ⟨z, i3, g3, e3, p3, q3, r3⟩ := l1Byte_ok c i2 g2 p2 hl
      rw [e3]; simp only [Option.bind_some]
      rw [if_neg (by omega), w64 (x := x * 65536) (by omega) (by omega), w64 (x := y * 256) (by omega) (by omega), w64 (x := x * 65536 + y * 256) (by omega) (by omega), w64 (x := x * 65536 + y * 256 + z) (by omega) (by omega), Int.tmod_eq_emod_of_nonneg (by omega)]
      exact ⟨_, _, _, rfl, p3, Int.emod_nonneg _ (by omega), fun z => absurd z h1, fun z => Int.emod_lt_of_pos _ z⟩
theorem l1Int_ok (c : List Int) (i h : Int) (l : List Int) (hi : 0 ≤ i) (hl : c.length ≤ 4611686018427387904) (hn : l ≠ []) : ∃ x i' h', spec_l1Int.f c i h l = some (x, i', h') ∧ 0 ≤ i' ∧ x ∈ l := by
  have h1 : 0 < l.length := List.length_pos_iff.2 hn
  unfold spec_l1Int.f
  obtain ⟨x, i1, g1, e1, p1, q1, _, r1⟩ := l1Below_ok c i h l.length hi hl
  have r2 := r1 (by omega)
  rw [e1]; simp only [Option.bind_some]
  rw [if_pos q1, if_pos r2]
  obtain ⟨m, rfl⟩ := Int.eq_ofNat_of_zero_le q1
  rw [rd_lt l m (by omega)]
  exact ⟨_, _, _, rfl, p1, List.getElem_mem _⟩
theorem l1Num_ok (c : List Int) (i h : Int) (hi : 0 ≤ i) (hl : c.length ≤ 4611686018427387904) : ∃ x i' h', spec_l1Num.f c i h = some (x, i', h') ∧ 0 ≤ i' := by
  obtain ⟨x, i1, h1, e, p, _⟩ := l1Int_ok c i h [0, 1, 7, 255, 256, 4660, 65535, 65536, (-1), 9223372036854775807, (-9223372036854775808)] hi hl (by simp)
  exact ⟨x, i1, h1, by unfold spec_l1Num.f; rw [e]; rfl, p⟩
theorem DrawPutW_ev (c : List Int) (hl : c.length ≤ 4611686018427387904) : ∃ b n, Ev (fun k => spec_DrawPutW.f k c) (b, n) ∧ Bytes b ∧ b.length ≤ 1000 := by
  obtain ⟨h, hN⟩ := l1New_ev c hl
  obtain ⟨x, i1, g1, e1, p1, q1, _, r1⟩ := l1Below_ok c 0 h 4 (by omega) hl
  have r2 := r1 (by omega)
  obtain ⟨b, i2, g2, e2, p2, q2, r2⟩ := l1Bytes_ev c i1 g1 x p1 hl q1 (by omega)
  obtain ⟨n, i3, g3, e3, p3⟩ := l1Num_ok c i2 g2 p2 hl
  refine ⟨b, n, ?_, q2, by omega⟩
  simp only [spec_DrawPutW.f]
  exact ev_bind hN (ev_call e1 (ev_bind e2 (ev_call e3 (Ev.now _))))
theorem impl_GetW_eq (b : List Int) (p : Int) (hb : Bytes b) (hl : b.length ≤ 4611686018427387904) : impl_GetW.f b p = some (getW b p) := by
  unfold impl_GetW.f getW
  have r0 := hb.rd p
  have r1 := hb.rd (p + 1)
  rw [w64 (x := (b.length : Int) - 2) (by omega) (by omega)]
  by_cases h : 0 ≤ p ∧ p + 2 ≤ b.length
  · rw [if_neg (by omega), if_neg (by omega), if_pos h.1, if_pos (by omega), w64 (x := p + 1) (by omega) (by omega), w64 (x := p + 2) (by omega) (by omega), w64 (x := rd b p) (by omega) (by omega),
      w64 (x := rd b (p + 1)) (by omega) (by omega), w64 (by omega) (by omega), if_pos (by omega), if_pos (by omega), if_pos h, or_byte r0.1 r0.2 r1.1 r1.2]
  · rw [if_neg h]
    by_cases h0 : p < 0
    · rw [if_pos h0]
    · rw [if_neg h0, if_pos (by omega)]
theorem l1Str_ok (c : List Int) (i h : Int) (l : List ByteArray) (hi : 0 ≤ i) (hl : c.length ≤ 4611686018427387904) (hn : l ≠ []) : ∃ x i' h', spec_l1Str.f c i h l = some (x, i', h') ∧ 0 ≤ i' ∧ x ∈ l := by
  have h1 : 0 < l.length := List.length_pos_iff.2 hn
  unfold spec_l1Str.f
  obtain ⟨x, i1, g1, e1, p1, q1, _, r1⟩ := l1Below_ok c i h l.length hi hl
  have r2 := r1 (by omega)
  rw [e1]; simp only [Option.bind_some]
  rw [if_pos q1, if_pos r2]
  obtain ⟨m, rfl⟩ := Int.eq_ofNat_of_zero_le q1
  have hm : m < l.length := by omega
  refine ⟨_, _, _, rfl, p1, ?_⟩
  rw [rdOf, Int.toNat_natCast, List.getD_eq_getElem?_getD, List.getElem?_eq_getElem hm]
  exact List.getElem_mem _
theorem l1Text_ok (c : List Int) (i h : Int) (hi : 0 ≤ i) (hl : c.length ≤ 4611686018427387904) : ∃ x i' h', spec_l1Text.f c i h = some (x, i', h') ∧ 0 ≤ i' ∧ x.size ≤ 60 := by
  obtain ⟨x, i1, h1, e, p, m⟩ := l1Str_ok c i h [(⟨#[]⟩ : ByteArray), ⟨#[97]⟩, ⟨#[98, 49]⟩, ⟨#[115, 105, 120, 108, 101, 116]⟩, ⟨#[115, 101, 118, 101, 110, 108, 101]⟩, ⟨#[65]⟩, ⟨#[97, 32, 98]⟩, ⟨#[0]⟩, ⟨#[104, 101, 108, 108, 111]⟩] hi hl (by simp)
  refine ⟨x, i1, h1, by unfold spec_l1Text.f; rw [e]; rfl, p, ?_⟩
  have hall : ∀ y ∈ [(⟨#[]⟩ : ByteArray), ⟨#[97]⟩, ⟨#[98, 49]⟩, ⟨#[115, 105, 120, 108, 101, 116]⟩, ⟨#[115, 101, 118, 101, 110, 108, 101]⟩, ⟨#[65]⟩, ⟨#[97, 32, 98]⟩, ⟨#[0]⟩, ⟨#[104, 101, 108, 108, 111]⟩], y.size ≤ 60 := by decide
  exact hall x m
theorem l1Once_ok (c : List Int) (i h n : Int) (hi : 0 ≤ i) (hl : c.length ≤ 4611686018427387904) : ∃ x i' h', spec_l1Once.f c i h n = some (x, i', h') ∧ 0 ≤ i' := by
  unfold spec_l1Once.f
  obtain ⟨x, i1, g1, e1, p1, _⟩ := l1Below_ok c i h n hi hl
  rw [e1]; exact ⟨_, _, _, rfl, p1⟩
theorem DrawPutText_ev (c : List Int) (hl : c.length ≤ 4611686018427387904) : ∃ b s, Ev (fun k => spec_DrawPutText.f k c) (b, s) ∧ Bytes b ∧ b.length ≤ 1000 ∧ s.size ≤ 1000 := by
  obtain ⟨h, hN⟩ := l1New_ev c hl
  obtain ⟨s, i1, g1, e1, p1, z1⟩ := l1Text_ok c 0 h (by omega) hl
  obtain ⟨o, i2, g2, e2, p2⟩ := l1Once_ok c i1 g1 10 p1 hl
  cases o with
  | true =>
    obtain ⟨y, i3, g3, e3, p3, q3, _, r3⟩ := l1Below_ok c i2 g2 2 p2 hl
    have r3' := r3 (by omega)
    obtain ⟨x, i4, g4, e4, p4, q4, _, r4⟩ := l1Below_ok c i3 g3 4 p3 hl
    have r4' := r4 (by omega)
    obtain ⟨b, i5, g5, e5, p5, q5, r5⟩ := l1Bytes_ev c i4 g4 x p4 hl q4 (by omega)
    have hw : wrap64 (60 + y) = 60 + y := w64 (by omega) (by omega)
    refine ⟨b, strOfNums (List.replicate (60 + y).toNat 0), ?_, q5, by omega, ?_⟩
    · simp only [spec_DrawPutText.f]
      refine ev_bind hN (ev_call e1 (ev_call e2 (ev_pos rfl (ev_call e3 ?_))))
      dsimp only
      rw [hw]
      exact ev_pos (by omega) (ev_pos (by omega) (ev_call e4 (ev_bind e5 (Ev.now _))))
    · rw [strOfNums_size, List.length_replicate]; omega
  | false =>
    obtain ⟨x, i4, g4, e4, p4, q4, _, r4⟩ := l1Below_ok c i2 g2 4 p2 hl
    have r4' := r4 (by omega)
    obtain ⟨b, i5, g5, e5, p5, q5, r5⟩ := l1Bytes_ev c i4 g4 x p4 hl q4 (by omega)
    refine ⟨b, s, ?_, q5, by omega, by omega⟩
    simp only [spec_DrawPutText.f]
    exact ev_bind hN (ev_call e1 (ev_call e2 (ev_neg (by simp) (ev_call e4 (ev_bind e5 (Ev.now _))))))
theorem DrawNameOk_ev (c : List Int) (hl : c.length ≤ 4611686018427387904) : ∃ s, Ev (fun k => spec_DrawNameOk.f k c) s ∧ s.size ≤ 60 := by
  obtain ⟨h, hN⟩ := l1New_ev c hl
  obtain ⟨s, i1, g1, e1, p1, z1⟩ := l1Text_ok c 0 h (by omega) hl
  refine ⟨s, ?_, z1⟩
  simp only [spec_DrawNameOk.f]
  exact ev_bind hN (ev_call e1 (Ev.now _))
theorem impl_within_eq (a b c : Int) : impl_within.f a b c = some (inR a b c) := by
  unfold impl_within.f inR; by_cases h : a ≥ b <;> simp [h]
theorem impl_NameOk_l0 (s : ByteArray) (hs : s.size ≤ 140737488351232) (d : Nat) : ∀ i : Nat, i + d = s.size → Ev (fun k => impl_NameOk.l0 k s (i : Int)) (nameFrom s d i) := by
  induction d with
  | zero =>
    intro i h
    refine ev_shift ?_
    simp only [impl_NameOk.l0, impl_within_eq, Option.bind_some]
    exact ev_neg (by omega) (Ev.now _)
  | succ d ih =>
    intro i h
    refine ev_shift ?_
    have hb := bt_range s (i : Int)
    have hw : wrap64 (bt s (i : Int)) = bt s (i : Int) := w64 (by omega) (by omega)
    simp only [impl_NameOk.l0, impl_within_eq, Option.bind_some, hw, next_nat i (by omega)]
    refine ev_pos (by omega) (ev_pos (by omega) ?_)
    unfold nameFrom
    by_cases e : inR (bt s (i : Int)) 97 122 = true
    · rw [if_pos (Or.inl e)]; exact ev_pos e (ih (i + 1) (by omega))
    · by_cases e2 : inR (bt s (i : Int)) 48 57 = true
      · rw [if_pos (Or.inr e2)]; exact ev_neg e (ev_pos e2 (ih (i + 1) (by omega)))
      · rw [if_neg (by simp [e, e2])]; exact ev_neg e (ev_neg e2 (Ev.now _))
theorem impl_NameOk_ev (s : ByteArray) (hs : s.size ≤ 140737488351232) : Ev (fun k => impl_NameOk.f k s) (nameOk s) := impl_NameOk_l0 s hs s.size 0 (by omega)
theorem spec_l1In_eq (a b c : Int) : spec_l1In.f a b c = some (inR a b c) := by
  unfold spec_l1In.f inR; by_cases h : a ≥ b <;> simp [h]
theorem spec_NameOk_l0 (s : ByteArray) (hs : s.size ≤ 140737488351232) (d : Nat) : ∀ i : Nat, i + d = s.size → Ev (fun k => spec_NameOk.l0 k s (i : Int)) (nameFrom s d i) := by
  induction d with
  | zero =>
    intro i h
    refine ev_shift ?_
    simp only [spec_NameOk.l0, spec_l1In_eq, Option.bind_some]
    exact ev_neg (by omega) (Ev.now _)
  | succ d ih =>
    intro i h
    refine ev_shift ?_
    have hb := bt_range s (i : Int)
    have hw : wrap64 (bt s (i : Int)) = bt s (i : Int) := w64 (by omega) (by omega)
    simp only [spec_NameOk.l0, spec_l1In_eq, Option.bind_some, hw, next_nat i (by omega)]
    refine ev_pos (by omega) (ev_pos (by omega) ?_)
    unfold nameFrom
    by_cases e : inR (bt s (i : Int)) 97 122 = true
    · rw [if_pos (Or.inl e)]; exact ev_pos e (ih (i + 1) (by omega))
    · by_cases e2 : inR (bt s (i : Int)) 48 57 = true
      · rw [if_pos (Or.inr e2)]; exact ev_neg e (ev_pos e2 (ih (i + 1) (by omega)))
      · rw [if_neg (by simp [e, e2])]; exact ev_neg e (ev_neg e2 (Ev.now _))
theorem spec_NameOk_ev (s : ByteArray) (hs : s.size ≤ 140737488351232) : Ev (fun k => spec_NameOk.f k s) (nameOk s) := spec_NameOk_l0 s hs s.size 0 (by omega)
theorem impl_GetText_eq (b : List Int) (p : Int) (hb : Bytes b) (hl : b.length ≤ 4611686018427387904) : impl_GetText.f b p = some (getText b p) := by
  unfold impl_GetText.f getText
  rw [impl_GetW_eq b p hb hl]
  simp only [Option.bind_some]
  have r0 := hb.rd p
  have r1 := hb.rd (p + 1)
  by_cases h : 0 ≤ p ∧ p + 2 ≤ b.length
  · have e : getW b p = (rd b p * 256 + rd b (p + 1), p + 2, true) := by unfold getW; rw [if_pos h]
    rw [e]; simp only [if_true]
    by_cases h1 : rd b p * 256 + rd b (p + 1) > 60
    · rw [if_pos h1, if_neg (by omega)]
    · rw [if_neg h1, w64 (x := (b.length : Int) - (p + 2)) (by omega) (by omega)]
      by_cases h2 : rd b p * 256 + rd b (p + 1) > (b.length : Int) - (p + 2)
      · rw [if_pos h2, if_neg (by omega)]
      · rw [if_neg h2, if_pos (by omega), w64 (x := p + 2 + (rd b p * 256 + rd b (p + 1))) (by omega) (by omega), if_pos (by omega), if_pos (by omega), if_pos ⟨trivial, by omega, by omega⟩]
  · have e : getW b p = (0, 0, false) := by unfold getW; rw [if_neg h]
    rw [e]; simp

theorem word_bytes (n : Int) : Bytes (word n) := .cons (by omega) (by omega) (.cons (by omega) (by omega) .nil)
theorem getW_word (b r : List Int) (n : Int) : getW (b ++ word n ++ r) (b.length : Int) = (n % 65536, (b.length : Int) + 2, true) := by
  have h0 : rd (b ++ word n ++ r) (b.length : Int) = n / 256 % 256 := by rw [rd_nat]; simp [word]
  have h1 : rd (b ++ word n ++ r) ((b.length : Int) + 1) = n % 256 := by
    rw [show (b.length : Int) + 1 = ((b.length + 1 : Nat) : Int) by omega, rd_nat]; simp [word]
  unfold getW
  rw [if_pos (by rw [List.length_append, List.length_append]; constructor; omega; show (b.length : Int) + 2 ≤ ((b.length + 2 + r.length : Nat) : Int); omega), h0, h1]
  simp only [Prod.mk.injEq, and_true]
  omega
theorem getW_short (b : List Int) (p : Int) (h : (b.length : Int) < p + 2) : getW b p = (0, 0, false) := by unfold getW; rw [if_neg (by omega)]
theorem getText_word (b : List Int) (s : ByteArray) (h : s.size ≤ 60) : getText (b ++ word (s.size : Int) ++ numsOf s) (b.length : Int) = (s, ((b ++ word (s.size : Int) ++ numsOf s).length : Int), true) := by
  have hm : (s.size : Int) % 65536 = s.size := by omega
  have hlen : (b ++ word (s.size : Int) ++ numsOf s).length = b.length + 2 + s.size := by rw [List.length_append, List.length_append, numsOf_length]; rfl
  have h2 : (b ++ word (s.size : Int)).length = b.length + 2 := by rw [List.length_append]; rfl
  unfold getText
  rw [getW_word, hm, if_pos ⟨rfl, by simp only; omega, by simp only; omega⟩, hlen]
  simp only
  rw [show ((b.length : Int) + 2 + (s.size : Int)).toNat = b.length + 2 + s.size by omega, show ((b.length : Int) + 2).toNat = b.length + 2 by omega, List.take_of_length_le (by omega), ← h2, List.drop_left, strOfNums_numsOf]
  simp only [Prod.mk.injEq, and_true, true_and]
  omega
theorem getText_short (b : List Int) (p : Int) (h : (getW b p).2.2 = true → (b.length : Int) < p + 2 + (getW b p).1) : getText b p = (⟨#[]⟩, 0, false) := by
  unfold getText; rw [if_neg]; rintro ⟨h1, _, h3⟩; have := h h1; omega
theorem FnWords : laws_FnWords.Pure := by
  intro l hm _ hb0
  apply Ev.rounds
  simp only [laws_FnWords.f]
  by_cases h : (l.length : Int) > 1048576
  · exact ev_call (laws_big_eq l) (ev_pos (decide_eq_true h) (Ev.now _))
  refine ev_call (laws_big_eq l) (ev_neg (by simpa using h) ?_)
  have hl : l.length ≤ 4611686018427387904 := by omega
  obtain ⟨b, n, d1, bb, bl⟩ := DrawPutW_ev l hl
  obtain ⟨c, s, d2, cb, cl, sl⟩ := DrawPutText_ev l hl
  obtain ⟨a, d3, al⟩ := DrawNameOk_ev l hl
  have hp : (b ++ word n).length = b.length + 2 := by rw [List.length_append]; rfl
  have hpb : Bytes (b ++ word n) := bb.append (word_bytes n)
  have g1 : getW (b ++ word n) (b.length : Int) = (n % 65536, (b.length : Int) + 2, true) := by have := getW_word b [] n; rwa [List.append_nil] at this
  have e1 : wrap64 (((b ++ word n).length : Int) - 1) = ((b.length + 1 : Nat) : Int) := by rw [w64 (by omega) (by omega)]; omega
  have g2 : getW ((b ++ word n).take (b.length + 1)) (b.length : Int) = (0, 0, false) := getW_short _ _ (by rw [List.length_take]; omega)
  refine ev_bind d1 (ev_bind (impl_PutW_ev b n (by omega)) (ev_call (impl_GetW_eq _ _ hpb (by omega)) ?_))
  simp only [e1, Int.toNat_natCast]
  refine ev_pos (by omega) (ev_pos (by omega) (ev_call (impl_GetW_eq _ _ (hpb.take _) (by rw [List.length_take]; omega)) ?_))
  refine ev_bind d2 (ev_bind (impl_PutText_ev c s (by omega)) (ev_bind d3 (ev_bind (impl_NameOk_ev a (by omega)) (ev_bind (spec_NameOk_ev a (by omega)) (ev_neg (by simp) ?_)))))
  rw [g1, g2]
  refine ev_pos rfl (ev_pos (by rw [and_65535]) (ev_pos (by rw [hp]; simp) (ev_shift ?_)))
  simp only [laws_FnWords.j0]
  refine ev_neg (by simp) ?_
  by_cases h6 : s.size > 60
  · rw [if_pos h6]
    exact ev_pos (by omega) (ev_is (Ev.now _) (by simp))
  · rw [if_neg h6]
    have hq : (c ++ word (s.size : Int) ++ numsOf s).length = c.length + 2 + s.size := by rw [List.length_append, List.length_append, numsOf_length]; rfl
    have hqb : Bytes (c ++ word (s.size : Int) ++ numsOf s) := (cb.append (word_bytes _)).append (numsOf_bytes s)
    have e2 : wrap64 (((c ++ word (s.size : Int) ++ numsOf s).length : Int) - 1) = ((c.length + 1 + s.size : Nat) : Int) := by rw [w64 (by omega) (by omega)]; omega
    refine ev_neg (by omega) (ev_call (impl_GetText_eq _ _ hqb (by omega)) ?_)
    simp only [e2, Int.toNat_natCast]
    refine ev_pos (by omega) (ev_pos (by omega) (ev_call (impl_GetText_eq _ _ (hqb.take _) (by rw [List.length_take]; omega)) ?_))
    have g4 : getText ((c ++ word (s.size : Int) ++ numsOf s).take (c.length + 1 + s.size)) (c.length : Int) = (⟨#[]⟩, 0, false) := by
      have ht : ((c ++ word (s.size : Int) ++ numsOf s).take (c.length + 1 + s.size)).length = c.length + 1 + s.size := by rw [List.length_take]; omega
      apply getText_short
      intro h7
      rw [ht]
      by_cases h0 : s.size = 0
      · rw [getW_short _ _ (by rw [ht]; omega)] at h7; cases h7
      · have e3 : (c ++ word (s.size : Int) ++ numsOf s).take (c.length + 1 + s.size) = c ++ word (s.size : Int) ++ (numsOf s).take (s.size - 1) := by
          rw [List.take_append, List.take_of_length_le (by rw [List.length_append]; show c.length + 2 ≤ _; omega)]
          congr 2
          rw [List.length_append]; show c.length + 1 + s.size - (c.length + 2) = _; omega
        rw [e3, getW_word]
        simp only
        omega
    rw [g4, getText_word c s (by omega)]
    exact ev_pos rfl (ev_pos rfl (ev_pos rfl (ev_is (Ev.now _) rfl)))

end Go.Proofs.Ytfbogcecphnjeaa.Pure
