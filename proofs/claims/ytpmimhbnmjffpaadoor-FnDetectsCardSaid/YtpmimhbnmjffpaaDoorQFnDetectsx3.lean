/- The functions that a law reaches, each as a plain function, and that Go comes to just its answer: written by the session's program pp.py (the kit's print, with a few rows turned). -/
import Derived.Test.YtpmimhbnmjffpaaDoorQFnDetectsx0
import Derived.Test.YtpmimhbnmjffpaaDoorQFnDetectsx1
import Derived.Test.YtpmimhbnmjffpaaDoorQFnDetectsx2
namespace Go.Proofs.YtpmimhbnmjffpaaDoor.QFnDetects
open Go.RowKit Go.Proofs.YtpmimhbnmjffpaaDoorW.PrintWords Go.Proofs.YtpmimhbnmjffpaaDoorW.PrintLast Go.Proofs.YtpmimhbnmjffpaaDoorW.PrintMore Go.Proofs.YtpmimhbnmjffpaaDoor.Xw Go.Proofs.YtpmimhbnmjffpaaDoor.Xs Go.Proofs.YtpmimhbnmjffpaaDoor.Ext
attribute [local go_sem] max2_int min2_int max_two min_two max_three min_three max_four min_four   -- for this text's walks alone
set_option linter.unusedVariables false
set_option linter.unusedSimpArgs false

/-! ### spec_PairSign: function 123 -/
def spec_PairSign.j0 : Nat → Int → Int → Bool → Option (Int × Bool)
 | 0, _, _, _ => none
 | k + 1, x0, x1, x6 => if x6 = true then (some (wrap64 ((wrap64 (12353 + x1)) - 161), true)) else (if x0 = 165 then ((spec_l1In.f x1 161 246).bind fun t150 => (if t150 = true then (some (wrap64 ((wrap64 (12449 + x1)) - 161), true)) else (some (0, false)))) else (some (0, false)))
def spec_PairSign.f (k : Nat) (a0 : Int) (a1 : Int) : Option (Int × Bool) := if a0 = 164 then ((spec_l1In.f a1 161 243).bind fun t149 => (spec_PairSign.j0 k a0 a1 t149)) else (spec_PairSign.j0 k a0 a1 false)
theorem spec_PairSign.mono_l : ∀ k, (∀ y0 y1 y2, LeO (spec_PairSign.j0 k y0 y1 y2) (spec_PairSign.j0 (k + 1) y0 y1 y2))
 | 0 => fun _ _ _ r h => by simp [spec_PairSign.j0] at h
 | k + 1 => by
  have ih0 := spec_PairSign.mono_l k
  ·intro y0 y1 y2
   unfold spec_PairSign.j0
   repeat' first
   | (with_reducible exact ih0 _ _ _)
   | (with_reducible exact LeO.refl _)
   | (with_reducible exact LeO.none _)
   | (with_reducible refine LeO.ite ?_ ?_)
   | (with_reducible refine LeO.bind ?_ (fun _ => ?_))
   | exact ih0 _ _ _
   | exact LeO.none _
   | refine LeO.ite ?_ ?_
   | refine LeO.bind ?_ (fun _ => ?_)
theorem spec_PairSign.mono : ∀ a0 a1 k, LeO (spec_PairSign.f k a0 a1) (spec_PairSign.f (k + 1) a0 a1) := by
 intro a0 a1 k
 have ih0 := spec_PairSign.mono_l k
 unfold spec_PairSign.f
 repeat' first
   | (with_reducible exact ih0 _ _ _)
   | (with_reducible exact LeO.refl _)
   | (with_reducible exact LeO.none _)
   | (with_reducible refine LeO.ite ?_ ?_)
   | (with_reducible refine LeO.bind ?_ (fun _ => ?_))
   | exact ih0 _ _ _
   | exact LeO.none _
   | refine LeO.ite ?_ ?_
   | refine LeO.bind ?_ (fun _ => ?_)
set_option maxHeartbeats 8000000 in
set_option maxRecDepth 100000 in
theorem spec_PairSign.calls (k : Nat) (a0 : Int) (a1 : Int) (r1 : Int) (r2 : Bool) (w : World) (h : spec_PairSign.f k a0 a1 = some (r1, r2)) :
  Calls Tryd.prog 123 #[.int .i64 a0, .int .i64 a1] w fun e w' => e = .returned (.tuple #[.int .i64 r1, .bool r2]) ∧ Drawn0 w w' := by
 have H : (if a0 = 164 then ((spec_l1In.f a1 161 243).bind fun t149 => (spec_PairSign.j0 k a0 a1 t149)) else (spec_PairSign.j0 k a0 a1 false)) = some (r1, r2) := h
 clear h
 have HC3 := Aside0.mk H
 clear H
 go_enter Tryd.func123, Tryd.ntmps123
 go_upto_region 1 with (fail)
 go_cut [6] (fun v6 wc => ∃ (kq : Nat) (x6_2 : Bool), v6 = .bool x6_2 ∧ Aside0 (spec_PairSign.j0 kq a0 a1 x6_2 = some (r1, r2)) ∧ Aside0 (kq ≤ k) ∧ Drawn0 w wc)
 case first =>
  have H := HC3.out
  clear HC3
  by_cases c4 : a0 = 164
  ·rw [if_pos c4] at H
   have c4b0 : (a0 == 164) = true := beq_iff_eq.mpr c4
   have c4b1 : (a0 != 164) = false := bne_eq_false_iff_eq.mpr c4
   clear c4
   (first | rw [c4b0] | (simp only [i64_w, i32_w]; rw [c4b0]) | skip)
   replace H := Option.bind_eq_some_iff.mp H
   obtain ⟨t149, A50, H⟩ := H
   try dsimp only at H
   have A5 := Aside0.mk A50
   clear A50
   have H' := Aside0.mk H
   clear H
   go_wp2_with (first | (go_at_call 96; (with_reducible refine (spec_l1In.calls a1 161 243 t149 _ A5.out).mono ?_); rintro e w' ⟨rfl, ⟨nd, rfl⟩⟩))
   go_meet
   case rel => exact ⟨_, (t149), (by first | rfl | (simp; done) | (simp [*]; done)), H', ⟨by first | omega | exact Nat.le_refl _⟩, dn_⟩
  ·rw [if_neg c4] at H
   have c4b0 : (a0 == 164) = false := beq_eq_false_iff_ne.mpr c4
   have c4b1 : (a0 != 164) = true := bne_iff_ne.mpr c4
   (first | rw [c4b0] | (simp only [i64_w, i32_w]; rw [c4b0]) | skip)
   have H' := Aside0.mk H
   clear H
   go_wp2
   go_meet
   case rel => exact ⟨_, (false), (by first | rfl | (simp; done) | (simp [*]; done)), H', ⟨by first | omega | exact Nat.le_refl _⟩, dn_⟩
 case rest =>
  clear HC3
  try clear c1
  try clear p2
  try clear c4
  try clear c4b0
  try clear c4b1
  obtain ⟨kq, x6_2, rfl, HA, HJ2, ⟨mc2, rfl⟩⟩ := hcut
  cases kq with
  | zero => exact absurd HA.out (by simp [spec_PairSign.j0])
  | succ kj2 =>
   have H := HA.out
   clear HA
   simp only [spec_PairSign.j0] at H
   by_cases c6 : x6_2 = true
   ·subst c6
    rw [if_pos rfl] at H
    simp only [Option.some.injEq, Prod.mk.injEq] at H
    obtain ⟨rfl, rfl⟩ := H
    go_wp2
    go_ret2
    exact ⟨by first | rfl | (simp; done) | (simp [*]; done), dn_⟩
   ·replace c6 := Bool.eq_false_iff.mpr c6
    subst c6
    rw [if_neg (show ¬ (false = true) by decide)] at H
    by_cases c7 : a0 = 165
    ·rw [if_pos c7] at H
     have c7b0 : (a0 == 165) = true := beq_iff_eq.mpr c7
     have c7b1 : (a0 != 165) = false := bne_eq_false_iff_eq.mpr c7
     clear c7
     replace H := Option.bind_eq_some_iff.mp H
     obtain ⟨t150, A80, H⟩ := H
     try dsimp only at H
     have A8 := Aside0.mk A80
     clear A80
     by_cases c9 : t150 = true
     ·subst c9
      rw [if_pos rfl] at H
      simp only [Option.some.injEq, Prod.mk.injEq] at H
      obtain ⟨rfl, rfl⟩ := H
      go_wp2_with (first | (go_at_call 96; (with_reducible refine (spec_l1In.calls a1 161 246 true _ A8.out).mono ?_); rintro e w' ⟨rfl, ⟨nd, rfl⟩⟩))
      go_ret2
      exact ⟨by first | rfl | (simp; done) | (simp [*]; done), dn_⟩
     ·replace c9 := Bool.eq_false_iff.mpr c9
      subst c9
      rw [if_neg (show ¬ (false = true) by decide)] at H
      simp only [Option.some.injEq, Prod.mk.injEq] at H
      obtain ⟨rfl, rfl⟩ := H
      go_wp2_with (first | (go_at_call 96; (with_reducible refine (spec_l1In.calls a1 161 246 false _ A8.out).mono ?_); rintro e w' ⟨rfl, ⟨nd, rfl⟩⟩))
      go_ret2
      exact ⟨by first | rfl | (simp; done) | (simp [*]; done), dn_⟩
    ·rw [if_neg c7] at H
     have c7b0 : (a0 == 165) = false := beq_eq_false_iff_ne.mpr c7
     have c7b1 : (a0 != 165) = true := bne_iff_ne.mpr c7
     simp only [Option.some.injEq, Prod.mk.injEq] at H
     obtain ⟨rfl, rfl⟩ := H
     go_wp2
     go_ret2
     exact ⟨by first | rfl | (simp; done) | (simp [*]; done), dn_⟩

/-! ### spec_EucSign: function 104 -/
def spec_EucSign.f (k : Nat) (l0 : List Int) (a1 : Int) : Option (Int × Int × Bool) := (spec_l1In.f a1 0 (wrap64 ((l0.length : Int) - 1))).bind fun t151 => (if t151 = true then (if 0 ≤ a1 then (if a1 < (l0.length : Int) then (if (rd l0 a1) < 128 then (some (wrap64 (rd l0 a1), wrap64 (a1 + 1), true)) else (if (wrap64 (a1 + 1)) ≥ (l0.length : Int) then (some (0, 0, false)) else (if 0 ≤ (wrap64 (a1 + 1)) then (if (wrap64 (a1 + 1)) < (l0.length : Int) then ((spec_PairSign.f k (wrap64 (rd l0 a1)) (wrap64 (rd l0 (wrap64 (a1 + 1))))).bind fun bt156 => (if bt156.2 = true then (some (bt156.1, wrap64 (a1 + 2), true)) else (some (0, 0, false)))) else (none)) else (none)))) else (none)) else (none)) else (some (0, 0, false)))
theorem spec_EucSign.mono : ∀ a0 a1 k, LeO (spec_EucSign.f k a0 a1) (spec_EucSign.f (k + 1) a0 a1) := by
 intro a0 a1 k
 unfold spec_EucSign.f
 repeat' first
   | (with_reducible exact spec_PairSign.mono _ _ _)
   | (with_reducible exact LeO.refl _)
   | (with_reducible exact LeO.none _)
   | (with_reducible refine LeO.ite ?_ ?_)
   | (with_reducible refine LeO.bind ?_ (fun _ => ?_))
   | exact spec_PairSign.mono _ _ _
   | exact LeO.none _
   | refine LeO.ite ?_ ?_
   | refine LeO.bind ?_ (fun _ => ?_)
set_option maxHeartbeats 8000000 in
set_option maxRecDepth 100000 in
theorem spec_EucSign.calls (k : Nat) (A0 : Option Addr) (c0 : Nat) (l0 : List Int) (a1 : Int) (r1 : Int) (r2 : Int) (r3 : Bool) (w : World) (hr0 : Kd.C (Kd.int .u8) w A0 l0.length l0) (hc0 : l0.length ≤ c0) (h : spec_EucSign.f k l0 a1 = some (r1, r2, r3)) :
  Calls Tryd.prog 104 #[.slice A0 l0.length c0, .int .i64 a1] w fun e w' => e = .returned (.tuple #[.int .i64 r1, .int .i64 r2, .bool r3]) ∧ Drawn0 w w' := by
 have HR0 := Aside0.mk hr0
 have HC0 := Aside0.mk hc0
 clear hr0 hc0
 have H : ((spec_l1In.f a1 0 (wrap64 ((l0.length : Int) - 1))).bind fun t151 => (if t151 = true then (if 0 ≤ a1 then (if a1 < (l0.length : Int) then (if (rd l0 a1) < 128 then (some (wrap64 (rd l0 a1), wrap64 (a1 + 1), true)) else (if (wrap64 (a1 + 1)) ≥ (l0.length : Int) then (some (0, 0, false)) else (if 0 ≤ (wrap64 (a1 + 1)) then (if (wrap64 (a1 + 1)) < (l0.length : Int) then ((spec_PairSign.f k (wrap64 (rd l0 a1)) (wrap64 (rd l0 (wrap64 (a1 + 1))))).bind fun bt156 => (if bt156.2 = true then (some (bt156.1, wrap64 (a1 + 2), true)) else (some (0, 0, false)))) else (none)) else (none)))) else (none)) else (none)) else (some (0, 0, false)))) = some (r1, r2, r3) := h
 clear h
 replace H := Option.bind_eq_some_iff.mp H
 obtain ⟨t151, A30, H⟩ := H
 try dsimp only at H
 have A3 := Aside0.mk A30
 clear A30
 by_cases c4 : t151 = true
 ·subst c4
  rw [if_pos rfl] at H
  by_cases c5 : 0 ≤ a1
  ·rw [if_pos c5] at H
   have c5b0 : decide (0 ≤ a1) = true := decide_eq_true c5
   clear c5
   by_cases c6 : a1 < (l0.length : Int)
   ·rw [if_pos c6] at H
    have c6b0 : decide (a1 < (l0.length : Int)) = true := decide_eq_true c6
    clear c6
    by_cases c7 : (rd l0 a1) < 128
    ·rw [if_pos c7] at H
     have c7b0 : decide ((rd l0 a1) < 128) = true := decide_eq_true c7
     clear c7
     simp only [Option.some.injEq, Prod.mk.injEq] at H
     obtain ⟨rfl, rfl, rfl⟩ := H
     go_enter Tryd.func104, Tryd.ntmps104
     go_wp2_with (first | (go_at_call 96; (with_reducible refine (spec_l1In.calls a1 0 (wrap64 ((l0.length : Int) - 1)) true _ A3.out).mono ?_); rintro e w' ⟨rfl, ⟨nd, rfl⟩⟩; (try first | exact ⟨rfl, _, World.drewN_drewN _ _ _⟩ | exact ⟨rfl, _, Eq.trans (World.drewN_drewN _ _ _) (congrArg (World.drewN _) (Nat.add_assoc _ _ _))⟩); have p152 : 0 ≤ (a1 : Int) := of_decide_eq_true as_; have q152 : a1 < (l0.length : Int) := of_decide_eq_true as_; obtain ⟨ad152, e152, hx152_0⟩ := Kd.at_int HR0.out a1 p152 q152; cases e152; replace p152 := eq_true p152; replace q152 := eq_true q152; have p153 : 0 ≤ (a1 : Int) := of_decide_eq_true as_; have q153 : a1 < (l0.length : Int) := of_decide_eq_true as_; obtain ⟨ad153, e153, hx153_0⟩ := Kd.at_int HR0.out a1 p153 q153; obtain rfl : ad152 = ad153 := (by injection e153); replace p153 := eq_true p153; replace q153 := eq_true q153))
     repeat (go_quiet (first | (go_at_call 96; (with_reducible refine (spec_l1In.calls a1 0 (wrap64 ((l0.length : Int) - 1)) true _ A3.out).mono ?_); rintro e w' ⟨rfl, ⟨nd, rfl⟩⟩; (try first | exact ⟨rfl, _, World.drewN_drewN _ _ _⟩ | exact ⟨rfl, _, Eq.trans (World.drewN_drewN _ _ _) (congrArg (World.drewN _) (Nat.add_assoc _ _ _))⟩); have p152 : 0 ≤ (a1 : Int) := of_decide_eq_true as_; have q152 : a1 < (l0.length : Int) := of_decide_eq_true as_; obtain ⟨ad152, e152, hx152_0⟩ := Kd.at_int HR0.out a1 p152 q152; cases e152; replace p152 := eq_true p152; replace q152 := eq_true q152; have p153 : 0 ≤ (a1 : Int) := of_decide_eq_true as_; have q153 : a1 < (l0.length : Int) := of_decide_eq_true as_; obtain ⟨ad153, e153, hx153_0⟩ := Kd.at_int HR0.out a1 p153 q153; obtain rfl : ad152 = ad153 := (by injection e153); replace p153 := eq_true p153; replace q153 := eq_true q153)); try go_wp2_with (first | (go_at_call 96; (with_reducible refine (spec_l1In.calls a1 0 (wrap64 ((l0.length : Int) - 1)) true _ A3.out).mono ?_); rintro e w' ⟨rfl, ⟨nd, rfl⟩⟩; (try first | exact ⟨rfl, _, World.drewN_drewN _ _ _⟩ | exact ⟨rfl, _, Eq.trans (World.drewN_drewN _ _ _) (congrArg (World.drewN _) (Nat.add_assoc _ _ _))⟩); have p152 : 0 ≤ (a1 : Int) := of_decide_eq_true as_; have q152 : a1 < (l0.length : Int) := of_decide_eq_true as_; obtain ⟨ad152, e152, hx152_0⟩ := Kd.at_int HR0.out a1 p152 q152; cases e152; replace p152 := eq_true p152; replace q152 := eq_true q152; have p153 : 0 ≤ (a1 : Int) := of_decide_eq_true as_; have q153 : a1 < (l0.length : Int) := of_decide_eq_true as_; obtain ⟨ad153, e153, hx153_0⟩ := Kd.at_int HR0.out a1 p153 q153; obtain rfl : ad152 = ad153 := (by injection e153); replace p153 := eq_true p153; replace q153 := eq_true q153)))
     go_ret3
     exact ⟨by first | rfl | (simp; done) | (simp [*]; done), dn_⟩
    ·rw [if_neg c7] at H
     have c7b0 : decide ((rd l0 a1) < 128) = false := decide_eq_false c7
     clear c7
     by_cases c8 : (wrap64 (a1 + 1)) ≥ (l0.length : Int)
     ·rw [if_pos c8] at H
      have c8b0 : decide ((l0.length : Int) ≤ (wrap64 (a1 + 1))) = true := decide_eq_true c8
      clear c8
      simp only [Option.some.injEq, Prod.mk.injEq] at H
      obtain ⟨rfl, rfl, rfl⟩ := H
      go_enter Tryd.func104, Tryd.ntmps104
      go_wp2_with (first | (go_at_call 96; (with_reducible refine (spec_l1In.calls a1 0 (wrap64 ((l0.length : Int) - 1)) true _ A3.out).mono ?_); rintro e w' ⟨rfl, ⟨nd, rfl⟩⟩; (try first | exact ⟨rfl, _, World.drewN_drewN _ _ _⟩ | exact ⟨rfl, _, Eq.trans (World.drewN_drewN _ _ _) (congrArg (World.drewN _) (Nat.add_assoc _ _ _))⟩); have p152 : 0 ≤ (a1 : Int) := of_decide_eq_true as_; have q152 : a1 < (l0.length : Int) := of_decide_eq_true as_; obtain ⟨ad152, e152, hx152_0⟩ := Kd.at_int HR0.out a1 p152 q152; cases e152; replace p152 := eq_true p152; replace q152 := eq_true q152))
      repeat (go_quiet (first | (go_at_call 96; (with_reducible refine (spec_l1In.calls a1 0 (wrap64 ((l0.length : Int) - 1)) true _ A3.out).mono ?_); rintro e w' ⟨rfl, ⟨nd, rfl⟩⟩; (try first | exact ⟨rfl, _, World.drewN_drewN _ _ _⟩ | exact ⟨rfl, _, Eq.trans (World.drewN_drewN _ _ _) (congrArg (World.drewN _) (Nat.add_assoc _ _ _))⟩); have p152 : 0 ≤ (a1 : Int) := of_decide_eq_true as_; have q152 : a1 < (l0.length : Int) := of_decide_eq_true as_; obtain ⟨ad152, e152, hx152_0⟩ := Kd.at_int HR0.out a1 p152 q152; cases e152; replace p152 := eq_true p152; replace q152 := eq_true q152)); try go_wp2_with (first | (go_at_call 96; (with_reducible refine (spec_l1In.calls a1 0 (wrap64 ((l0.length : Int) - 1)) true _ A3.out).mono ?_); rintro e w' ⟨rfl, ⟨nd, rfl⟩⟩; (try first | exact ⟨rfl, _, World.drewN_drewN _ _ _⟩ | exact ⟨rfl, _, Eq.trans (World.drewN_drewN _ _ _) (congrArg (World.drewN _) (Nat.add_assoc _ _ _))⟩); have p152 : 0 ≤ (a1 : Int) := of_decide_eq_true as_; have q152 : a1 < (l0.length : Int) := of_decide_eq_true as_; obtain ⟨ad152, e152, hx152_0⟩ := Kd.at_int HR0.out a1 p152 q152; cases e152; replace p152 := eq_true p152; replace q152 := eq_true q152)))
      go_ret3
      exact ⟨by first | rfl | (simp; done) | (simp [*]; done), dn_⟩
     ·rw [if_neg c8] at H
      have c8b0 : decide ((l0.length : Int) ≤ (wrap64 (a1 + 1))) = false := decide_eq_false c8
      clear c8
      obtain ⟨ji9, hji9⟩ : ∃ j_ : Int, (wrap64 (a1 + 1)) = j_ := ⟨_, rfl⟩
      replace H : (if 0 ≤ (ji9) then (if (ji9) < (l0.length : Int) then ((spec_PairSign.f k (wrap64 (rd l0 a1)) (wrap64 (rd l0 (ji9)))).bind fun bt156 => (if bt156.2 = true then (some (bt156.1, wrap64 (a1 + 2), true)) else (some (0, 0, false)))) else (none)) else (none)) = some (r1, r2, r3) := by first | (rw [hji9] at H; exact H) | (simp only [hji9] at H ⊢; exact H)
      (try rw [hji9] at c8b0)
      (try rw [hji9] at A3)
      have hji9w : (IntKind.i64.wrap (a1 + 1)) = ji9 := (i64_w _).trans hji9
      by_cases c10 : 0 ≤ (ji9)
      ·rw [if_pos c10] at H
       have c10b0 : decide (0 ≤ (ji9)) = true := decide_eq_true c10
       clear c10
       by_cases c11 : (ji9) < (l0.length : Int)
       ·rw [if_pos c11] at H
        have c11b0 : decide ((ji9) < (l0.length : Int)) = true := decide_eq_true c11
        clear c11
        replace H := Option.bind_eq_some_iff.mp H
        obtain ⟨⟨t156, t157⟩, A120, H⟩ := H
        try dsimp only at H
        have A12 := Aside0.mk A120
        clear A120
        by_cases c13 : t157 = true
        ·subst c13
         rw [if_pos rfl] at H
         simp only [Option.some.injEq, Prod.mk.injEq] at H
         obtain ⟨rfl, rfl, rfl⟩ := H
         go_enter Tryd.func104, Tryd.ntmps104
         go_wp2_with (first | (go_at_call 96; (with_reducible refine (spec_l1In.calls a1 0 (wrap64 ((l0.length : Int) - 1)) true _ A3.out).mono ?_); rintro e w' ⟨rfl, ⟨nd, rfl⟩⟩; (try first | exact ⟨rfl, _, World.drewN_drewN _ _ _⟩ | exact ⟨rfl, _, Eq.trans (World.drewN_drewN _ _ _) (congrArg (World.drewN _) (Nat.add_assoc _ _ _))⟩); have p152 : 0 ≤ (a1 : Int) := of_decide_eq_true as_; have q152 : a1 < (l0.length : Int) := of_decide_eq_true as_; obtain ⟨ad152, e152, hx152_0⟩ := Kd.at_int HR0.out a1 p152 q152; cases e152; replace p152 := eq_true p152; replace q152 := eq_true q152; have p154 : 0 ≤ (a1 : Int) := of_decide_eq_true as_; have q154 : a1 < (l0.length : Int) := of_decide_eq_true as_; obtain ⟨ad154, e154, hx154_0⟩ := Kd.at_int HR0.out a1 p154 q154; obtain rfl : ad152 = ad154 := (by injection e154); replace p154 := eq_true p154; replace q154 := eq_true q154; have p155 : 0 ≤ ((ji9) : Int) := of_decide_eq_true as_; have q155 : (ji9) < (l0.length : Int) := of_decide_eq_true as_; obtain ⟨ad155, e155, hx155_0⟩ := Kd.at_int HR0.out (ji9) p155 q155; obtain rfl : ad152 = ad155 := (by injection e155); replace p155 := eq_true p155; replace q155 := eq_true q155) | (go_at_call 123; (with_reducible refine (spec_PairSign.calls k (wrap64 (rd l0 a1)) (wrap64 (rd l0 (ji9))) t156 true _ A12.out).mono ?_); rintro e w' ⟨rfl, ⟨nd, rfl⟩⟩; (try first | exact ⟨rfl, _, World.drewN_drewN _ _ _⟩ | exact ⟨rfl, _, Eq.trans (World.drewN_drewN _ _ _) (congrArg (World.drewN _) (Nat.add_assoc _ _ _))⟩)))
         repeat (go_quiet (first | (go_at_call 96; (with_reducible refine (spec_l1In.calls a1 0 (wrap64 ((l0.length : Int) - 1)) true _ A3.out).mono ?_); rintro e w' ⟨rfl, ⟨nd, rfl⟩⟩; (try first | exact ⟨rfl, _, World.drewN_drewN _ _ _⟩ | exact ⟨rfl, _, Eq.trans (World.drewN_drewN _ _ _) (congrArg (World.drewN _) (Nat.add_assoc _ _ _))⟩); have p152 : 0 ≤ (a1 : Int) := of_decide_eq_true as_; have q152 : a1 < (l0.length : Int) := of_decide_eq_true as_; obtain ⟨ad152, e152, hx152_0⟩ := Kd.at_int HR0.out a1 p152 q152; cases e152; replace p152 := eq_true p152; replace q152 := eq_true q152; have p154 : 0 ≤ (a1 : Int) := of_decide_eq_true as_; have q154 : a1 < (l0.length : Int) := of_decide_eq_true as_; obtain ⟨ad154, e154, hx154_0⟩ := Kd.at_int HR0.out a1 p154 q154; obtain rfl : ad152 = ad154 := (by injection e154); replace p154 := eq_true p154; replace q154 := eq_true q154; have p155 : 0 ≤ ((ji9) : Int) := of_decide_eq_true as_; have q155 : (ji9) < (l0.length : Int) := of_decide_eq_true as_; obtain ⟨ad155, e155, hx155_0⟩ := Kd.at_int HR0.out (ji9) p155 q155; obtain rfl : ad152 = ad155 := (by injection e155); replace p155 := eq_true p155; replace q155 := eq_true q155) | (go_at_call 123; (with_reducible refine (spec_PairSign.calls k (wrap64 (rd l0 a1)) (wrap64 (rd l0 (ji9))) t156 true _ A12.out).mono ?_); rintro e w' ⟨rfl, ⟨nd, rfl⟩⟩; (try first | exact ⟨rfl, _, World.drewN_drewN _ _ _⟩ | exact ⟨rfl, _, Eq.trans (World.drewN_drewN _ _ _) (congrArg (World.drewN _) (Nat.add_assoc _ _ _))⟩))); try go_wp2_with (first | (go_at_call 96; (with_reducible refine (spec_l1In.calls a1 0 (wrap64 ((l0.length : Int) - 1)) true _ A3.out).mono ?_); rintro e w' ⟨rfl, ⟨nd, rfl⟩⟩; (try first | exact ⟨rfl, _, World.drewN_drewN _ _ _⟩ | exact ⟨rfl, _, Eq.trans (World.drewN_drewN _ _ _) (congrArg (World.drewN _) (Nat.add_assoc _ _ _))⟩); have p152 : 0 ≤ (a1 : Int) := of_decide_eq_true as_; have q152 : a1 < (l0.length : Int) := of_decide_eq_true as_; obtain ⟨ad152, e152, hx152_0⟩ := Kd.at_int HR0.out a1 p152 q152; cases e152; replace p152 := eq_true p152; replace q152 := eq_true q152; have p154 : 0 ≤ (a1 : Int) := of_decide_eq_true as_; have q154 : a1 < (l0.length : Int) := of_decide_eq_true as_; obtain ⟨ad154, e154, hx154_0⟩ := Kd.at_int HR0.out a1 p154 q154; obtain rfl : ad152 = ad154 := (by injection e154); replace p154 := eq_true p154; replace q154 := eq_true q154; have p155 : 0 ≤ ((ji9) : Int) := of_decide_eq_true as_; have q155 : (ji9) < (l0.length : Int) := of_decide_eq_true as_; obtain ⟨ad155, e155, hx155_0⟩ := Kd.at_int HR0.out (ji9) p155 q155; obtain rfl : ad152 = ad155 := (by injection e155); replace p155 := eq_true p155; replace q155 := eq_true q155) | (go_at_call 123; (with_reducible refine (spec_PairSign.calls k (wrap64 (rd l0 a1)) (wrap64 (rd l0 (ji9))) t156 true _ A12.out).mono ?_); rintro e w' ⟨rfl, ⟨nd, rfl⟩⟩; (try first | exact ⟨rfl, _, World.drewN_drewN _ _ _⟩ | exact ⟨rfl, _, Eq.trans (World.drewN_drewN _ _ _) (congrArg (World.drewN _) (Nat.add_assoc _ _ _))⟩))))
         go_ret3
         exact ⟨by first | rfl | (simp; done) | (simp only [← hji9] <;> (first | rfl | simp)) | (simp [*]; done), dn_⟩
        ·replace c13 := Bool.eq_false_iff.mpr c13
         subst c13
         rw [if_neg (show ¬ (false = true) by decide)] at H
         simp only [Option.some.injEq, Prod.mk.injEq] at H
         obtain ⟨rfl, rfl, rfl⟩ := H
         go_enter Tryd.func104, Tryd.ntmps104
         go_wp2_with (first | (go_at_call 96; (with_reducible refine (spec_l1In.calls a1 0 (wrap64 ((l0.length : Int) - 1)) true _ A3.out).mono ?_); rintro e w' ⟨rfl, ⟨nd, rfl⟩⟩; (try first | exact ⟨rfl, _, World.drewN_drewN _ _ _⟩ | exact ⟨rfl, _, Eq.trans (World.drewN_drewN _ _ _) (congrArg (World.drewN _) (Nat.add_assoc _ _ _))⟩); have p152 : 0 ≤ (a1 : Int) := of_decide_eq_true as_; have q152 : a1 < (l0.length : Int) := of_decide_eq_true as_; obtain ⟨ad152, e152, hx152_0⟩ := Kd.at_int HR0.out a1 p152 q152; cases e152; replace p152 := eq_true p152; replace q152 := eq_true q152; have p154 : 0 ≤ (a1 : Int) := of_decide_eq_true as_; have q154 : a1 < (l0.length : Int) := of_decide_eq_true as_; obtain ⟨ad154, e154, hx154_0⟩ := Kd.at_int HR0.out a1 p154 q154; obtain rfl : ad152 = ad154 := (by injection e154); replace p154 := eq_true p154; replace q154 := eq_true q154; have p155 : 0 ≤ ((ji9) : Int) := of_decide_eq_true as_; have q155 : (ji9) < (l0.length : Int) := of_decide_eq_true as_; obtain ⟨ad155, e155, hx155_0⟩ := Kd.at_int HR0.out (ji9) p155 q155; obtain rfl : ad152 = ad155 := (by injection e155); replace p155 := eq_true p155; replace q155 := eq_true q155) | (go_at_call 123; (with_reducible refine (spec_PairSign.calls k (wrap64 (rd l0 a1)) (wrap64 (rd l0 (ji9))) t156 false _ A12.out).mono ?_); rintro e w' ⟨rfl, ⟨nd, rfl⟩⟩; (try first | exact ⟨rfl, _, World.drewN_drewN _ _ _⟩ | exact ⟨rfl, _, Eq.trans (World.drewN_drewN _ _ _) (congrArg (World.drewN _) (Nat.add_assoc _ _ _))⟩)))
         repeat (go_quiet (first | (go_at_call 96; (with_reducible refine (spec_l1In.calls a1 0 (wrap64 ((l0.length : Int) - 1)) true _ A3.out).mono ?_); rintro e w' ⟨rfl, ⟨nd, rfl⟩⟩; (try first | exact ⟨rfl, _, World.drewN_drewN _ _ _⟩ | exact ⟨rfl, _, Eq.trans (World.drewN_drewN _ _ _) (congrArg (World.drewN _) (Nat.add_assoc _ _ _))⟩); have p152 : 0 ≤ (a1 : Int) := of_decide_eq_true as_; have q152 : a1 < (l0.length : Int) := of_decide_eq_true as_; obtain ⟨ad152, e152, hx152_0⟩ := Kd.at_int HR0.out a1 p152 q152; cases e152; replace p152 := eq_true p152; replace q152 := eq_true q152; have p154 : 0 ≤ (a1 : Int) := of_decide_eq_true as_; have q154 : a1 < (l0.length : Int) := of_decide_eq_true as_; obtain ⟨ad154, e154, hx154_0⟩ := Kd.at_int HR0.out a1 p154 q154; obtain rfl : ad152 = ad154 := (by injection e154); replace p154 := eq_true p154; replace q154 := eq_true q154; have p155 : 0 ≤ ((ji9) : Int) := of_decide_eq_true as_; have q155 : (ji9) < (l0.length : Int) := of_decide_eq_true as_; obtain ⟨ad155, e155, hx155_0⟩ := Kd.at_int HR0.out (ji9) p155 q155; obtain rfl : ad152 = ad155 := (by injection e155); replace p155 := eq_true p155; replace q155 := eq_true q155) | (go_at_call 123; (with_reducible refine (spec_PairSign.calls k (wrap64 (rd l0 a1)) (wrap64 (rd l0 (ji9))) t156 false _ A12.out).mono ?_); rintro e w' ⟨rfl, ⟨nd, rfl⟩⟩; (try first | exact ⟨rfl, _, World.drewN_drewN _ _ _⟩ | exact ⟨rfl, _, Eq.trans (World.drewN_drewN _ _ _) (congrArg (World.drewN _) (Nat.add_assoc _ _ _))⟩))); try go_wp2_with (first | (go_at_call 96; (with_reducible refine (spec_l1In.calls a1 0 (wrap64 ((l0.length : Int) - 1)) true _ A3.out).mono ?_); rintro e w' ⟨rfl, ⟨nd, rfl⟩⟩; (try first | exact ⟨rfl, _, World.drewN_drewN _ _ _⟩ | exact ⟨rfl, _, Eq.trans (World.drewN_drewN _ _ _) (congrArg (World.drewN _) (Nat.add_assoc _ _ _))⟩); have p152 : 0 ≤ (a1 : Int) := of_decide_eq_true as_; have q152 : a1 < (l0.length : Int) := of_decide_eq_true as_; obtain ⟨ad152, e152, hx152_0⟩ := Kd.at_int HR0.out a1 p152 q152; cases e152; replace p152 := eq_true p152; replace q152 := eq_true q152; have p154 : 0 ≤ (a1 : Int) := of_decide_eq_true as_; have q154 : a1 < (l0.length : Int) := of_decide_eq_true as_; obtain ⟨ad154, e154, hx154_0⟩ := Kd.at_int HR0.out a1 p154 q154; obtain rfl : ad152 = ad154 := (by injection e154); replace p154 := eq_true p154; replace q154 := eq_true q154; have p155 : 0 ≤ ((ji9) : Int) := of_decide_eq_true as_; have q155 : (ji9) < (l0.length : Int) := of_decide_eq_true as_; obtain ⟨ad155, e155, hx155_0⟩ := Kd.at_int HR0.out (ji9) p155 q155; obtain rfl : ad152 = ad155 := (by injection e155); replace p155 := eq_true p155; replace q155 := eq_true q155) | (go_at_call 123; (with_reducible refine (spec_PairSign.calls k (wrap64 (rd l0 a1)) (wrap64 (rd l0 (ji9))) t156 false _ A12.out).mono ?_); rintro e w' ⟨rfl, ⟨nd, rfl⟩⟩; (try first | exact ⟨rfl, _, World.drewN_drewN _ _ _⟩ | exact ⟨rfl, _, Eq.trans (World.drewN_drewN _ _ _) (congrArg (World.drewN _) (Nat.add_assoc _ _ _))⟩))))
         go_ret3
         exact ⟨by first | rfl | (simp; done) | (simp only [← hji9] <;> (first | rfl | simp)) | (simp [*]; done), dn_⟩
       ·rw [if_neg c11] at H
        exact absurd H (by simp)
      ·rw [if_neg c10] at H
       exact absurd H (by simp)
   ·rw [if_neg c6] at H
    exact absurd H (by simp)
  ·rw [if_neg c5] at H
   exact absurd H (by simp)
 ·replace c4 := Bool.eq_false_iff.mpr c4
  subst c4
  rw [if_neg (show ¬ (false = true) by decide)] at H
  simp only [Option.some.injEq, Prod.mk.injEq] at H
  obtain ⟨rfl, rfl, rfl⟩ := H
  go_enter Tryd.func104, Tryd.ntmps104
  go_wp2_with (first | (go_at_call 96; (with_reducible refine (spec_l1In.calls a1 0 (wrap64 ((l0.length : Int) - 1)) false _ A3.out).mono ?_); rintro e w' ⟨rfl, ⟨nd, rfl⟩⟩; (try first | exact ⟨rfl, _, World.drewN_drewN _ _ _⟩ | exact ⟨rfl, _, Eq.trans (World.drewN_drewN _ _ _) (congrArg (World.drewN _) (Nat.add_assoc _ _ _))⟩)))
  repeat (go_quiet (first | (go_at_call 96; (with_reducible refine (spec_l1In.calls a1 0 (wrap64 ((l0.length : Int) - 1)) false _ A3.out).mono ?_); rintro e w' ⟨rfl, ⟨nd, rfl⟩⟩; (try first | exact ⟨rfl, _, World.drewN_drewN _ _ _⟩ | exact ⟨rfl, _, Eq.trans (World.drewN_drewN _ _ _) (congrArg (World.drewN _) (Nat.add_assoc _ _ _))⟩))); try go_wp2_with (first | (go_at_call 96; (with_reducible refine (spec_l1In.calls a1 0 (wrap64 ((l0.length : Int) - 1)) false _ A3.out).mono ?_); rintro e w' ⟨rfl, ⟨nd, rfl⟩⟩; (try first | exact ⟨rfl, _, World.drewN_drewN _ _ _⟩ | exact ⟨rfl, _, Eq.trans (World.drewN_drewN _ _ _) (congrArg (World.drewN _) (Nat.add_assoc _ _ _))⟩))))
  go_ret3
  exact ⟨by first | rfl | (simp; done) | (simp [*]; done), dn_⟩

/-! ### spec_l3Nine: function 124 -/
def spec_l3Nine.f (a0 : Int) : Option (Int) := if a0 = 164 then (some 8364) else (if a0 = 166 then (some 352) else (if a0 = 168 then (some 353) else (if a0 = 180 then (some 381) else (if a0 = 184 then (some 382) else (if a0 = 188 then (some 338) else (if a0 = 189 then (some 339) else (if a0 = 190 then (some 376) else (some a0))))))))
set_option maxHeartbeats 8000000 in
set_option maxRecDepth 100000 in
theorem spec_l3Nine.calls (a0 : Int) (r : Int) (w : World) (h : spec_l3Nine.f a0 = some r) :
  Calls Tryd.prog 124 #[.int .i64 a0] w fun e w' => e = .returned (.int .i64 r) ∧ Drawn0 w w' := by
 have H : (if a0 = 164 then (some 8364) else (if a0 = 166 then (some 352) else (if a0 = 168 then (some 353) else (if a0 = 180 then (some 381) else (if a0 = 184 then (some 382) else (if a0 = 188 then (some 338) else (if a0 = 189 then (some 339) else (if a0 = 190 then (some 376) else (some a0))))))))) = some r := h
 clear h
 by_cases c2 : a0 = 164
 ·rw [if_pos c2] at H
  have c2b0 : (a0 == 164) = true := beq_iff_eq.mpr c2
  have c2b1 : (a0 != 164) = false := bne_eq_false_iff_eq.mpr c2
  clear c2
  obtain rfl := Option.some.inj H
  go_enter Tryd.func124, Tryd.ntmps124
  go_wp2
  go_ret
  exact ⟨by first | rfl | (simp; done) | (simp [*]; done), dn_⟩
 ·rw [if_neg c2] at H
  have c2b0 : (a0 == 164) = false := beq_eq_false_iff_ne.mpr c2
  have c2b1 : (a0 != 164) = true := bne_iff_ne.mpr c2
  by_cases c3 : a0 = 166
  ·rw [if_pos c3] at H
   have c3b0 : (a0 == 166) = true := beq_iff_eq.mpr c3
   have c3b1 : (a0 != 166) = false := bne_eq_false_iff_eq.mpr c3
   clear c3
   obtain rfl := Option.some.inj H
   go_enter Tryd.func124, Tryd.ntmps124
   go_wp2
   go_ret
   exact ⟨by first | rfl | (simp; done) | (simp [*]; done), dn_⟩
  ·rw [if_neg c3] at H
   have c3b0 : (a0 == 166) = false := beq_eq_false_iff_ne.mpr c3
   have c3b1 : (a0 != 166) = true := bne_iff_ne.mpr c3
   by_cases c4 : a0 = 168
   ·rw [if_pos c4] at H
    have c4b0 : (a0 == 168) = true := beq_iff_eq.mpr c4
    have c4b1 : (a0 != 168) = false := bne_eq_false_iff_eq.mpr c4
    clear c4
    obtain rfl := Option.some.inj H
    go_enter Tryd.func124, Tryd.ntmps124
    go_wp2
    go_ret
    exact ⟨by first | rfl | (simp; done) | (simp [*]; done), dn_⟩
   ·rw [if_neg c4] at H
    have c4b0 : (a0 == 168) = false := beq_eq_false_iff_ne.mpr c4
    have c4b1 : (a0 != 168) = true := bne_iff_ne.mpr c4
    by_cases c5 : a0 = 180
    ·rw [if_pos c5] at H
     have c5b0 : (a0 == 180) = true := beq_iff_eq.mpr c5
     have c5b1 : (a0 != 180) = false := bne_eq_false_iff_eq.mpr c5
     clear c5
     obtain rfl := Option.some.inj H
     go_enter Tryd.func124, Tryd.ntmps124
     go_wp2
     go_ret
     exact ⟨by first | rfl | (simp; done) | (simp [*]; done), dn_⟩
    ·rw [if_neg c5] at H
     have c5b0 : (a0 == 180) = false := beq_eq_false_iff_ne.mpr c5
     have c5b1 : (a0 != 180) = true := bne_iff_ne.mpr c5
     by_cases c6 : a0 = 184
     ·rw [if_pos c6] at H
      have c6b0 : (a0 == 184) = true := beq_iff_eq.mpr c6
      have c6b1 : (a0 != 184) = false := bne_eq_false_iff_eq.mpr c6
      clear c6
      obtain rfl := Option.some.inj H
      go_enter Tryd.func124, Tryd.ntmps124
      go_wp2
      go_ret
      exact ⟨by first | rfl | (simp; done) | (simp [*]; done), dn_⟩
     ·rw [if_neg c6] at H
      have c6b0 : (a0 == 184) = false := beq_eq_false_iff_ne.mpr c6
      have c6b1 : (a0 != 184) = true := bne_iff_ne.mpr c6
      by_cases c7 : a0 = 188
      ·rw [if_pos c7] at H
       have c7b0 : (a0 == 188) = true := beq_iff_eq.mpr c7
       have c7b1 : (a0 != 188) = false := bne_eq_false_iff_eq.mpr c7
       clear c7
       obtain rfl := Option.some.inj H
       go_enter Tryd.func124, Tryd.ntmps124
       go_wp2
       go_ret
       exact ⟨by first | rfl | (simp; done) | (simp [*]; done), dn_⟩
      ·rw [if_neg c7] at H
       have c7b0 : (a0 == 188) = false := beq_eq_false_iff_ne.mpr c7
       have c7b1 : (a0 != 188) = true := bne_iff_ne.mpr c7
       by_cases c8 : a0 = 189
       ·rw [if_pos c8] at H
        have c8b0 : (a0 == 189) = true := beq_iff_eq.mpr c8
        have c8b1 : (a0 != 189) = false := bne_eq_false_iff_eq.mpr c8
        clear c8
        obtain rfl := Option.some.inj H
        go_enter Tryd.func124, Tryd.ntmps124
        go_wp2
        go_ret
        exact ⟨by first | rfl | (simp; done) | (simp [*]; done), dn_⟩
       ·rw [if_neg c8] at H
        have c8b0 : (a0 == 189) = false := beq_eq_false_iff_ne.mpr c8
        have c8b1 : (a0 != 189) = true := bne_iff_ne.mpr c8
        by_cases c9 : a0 = 190
        ·rw [if_pos c9] at H
         have c9b0 : (a0 == 190) = true := beq_iff_eq.mpr c9
         have c9b1 : (a0 != 190) = false := bne_eq_false_iff_eq.mpr c9
         clear c9
         obtain rfl := Option.some.inj H
         go_enter Tryd.func124, Tryd.ntmps124
         go_wp2
         go_ret
         exact ⟨by first | rfl | (simp; done) | (simp [*]; done), dn_⟩
        ·rw [if_neg c9] at H
         have c9b0 : (a0 == 190) = false := beq_eq_false_iff_ne.mpr c9
         have c9b1 : (a0 != 190) = true := bne_iff_ne.mpr c9
         obtain rfl := Option.some.inj H
         go_enter Tryd.func124, Tryd.ntmps124
         go_wp2
         go_ret
         exact ⟨by first | rfl | (simp; done) | (simp [*]; done), dn_⟩

/-! ### spec_l3Koi: function 125 -/
def spec_l3Koi.f (a0 : Int) : Option (Int) := (some (([1102, 1072, 1073, 1094, 1076, 1077, 1092, 1075, 1093, 1080, 1081, 1082, 1083, 1084, 1085, 1086, 1087, 1103, 1088, 1089, 1090, 1091, 1078, 1074, 1100, 1099, 1079, 1096, 1101, 1097, 1095, 1098] : List Int) : List Int)).bind fun y158 => (if a0 ≥ 224 then (if 0 ≤ (wrap64 (a0 - 224)) then (if (wrap64 (a0 - 224)) < (y158.length : Int) then (some (wrap64 ((rd y158 (wrap64 (a0 - 224))) - 32))) else (none)) else (none)) else (if a0 ≥ 192 then (if 0 ≤ (wrap64 (a0 - 192)) then (if (wrap64 (a0 - 192)) < (y158.length : Int) then (some (rd y158 (wrap64 (a0 - 192)))) else (none)) else (none)) else (if a0 = 163 then (some 1105) else (if a0 = 179 then (some 1025) else (some (-1))))))
set_option maxHeartbeats 8000000 in
set_option maxRecDepth 100000 in
theorem spec_l3Koi.calls (a0 : Int) (r : Int) (w : World) (h : spec_l3Koi.f a0 = some r) :
  Calls Tryd.prog 125 #[.int .i64 a0] w fun e w' => e = .returned (.int .i64 r) ∧ Below w.heap.size w w' := by
 have HB := Aside0.mk (Below.refl w.heap.size w)
 have H : ((some (([1102, 1072, 1073, 1094, 1076, 1077, 1092, 1075, 1093, 1080, 1081, 1082, 1083, 1084, 1085, 1086, 1087, 1103, 1088, 1089, 1090, 1091, 1078, 1074, 1100, 1099, 1079, 1096, 1101, 1097, 1095, 1098] : List Int) : List Int)).bind fun y158 => (if a0 ≥ 224 then (if 0 ≤ (wrap64 (a0 - 224)) then (if (wrap64 (a0 - 224)) < (y158.length : Int) then (some (wrap64 ((rd y158 (wrap64 (a0 - 224))) - 32))) else (none)) else (none)) else (if a0 ≥ 192 then (if 0 ≤ (wrap64 (a0 - 192)) then (if (wrap64 (a0 - 192)) < (y158.length : Int) then (some (rd y158 (wrap64 (a0 - 192)))) else (none)) else (none)) else (if a0 = 163 then (some 1105) else (if a0 = 179 then (some 1025) else (some (-1))))))) = some r := h
 clear h
 obtain ⟨y158, hy158⟩ : ∃ y_ : List Int, y_ = (([1102, 1072, 1073, 1094, 1076, 1077, 1092, 1075, 1093, 1080, 1081, 1082, 1083, 1084, 1085, 1086, 1087, 1103, 1088, 1089, 1090, 1091, 1078, 1074, 1100, 1099, 1079, 1096, 1101, 1097, 1095, 1098] : List Int)) := ⟨_, rfl⟩
 replace H : (if a0 ≥ 224 then (if 0 ≤ (wrap64 (a0 - 224)) then (if (wrap64 (a0 - 224)) < (y158.length : Int) then (some (wrap64 ((rd y158 (wrap64 (a0 - 224))) - 32))) else (none)) else (none)) else (if a0 ≥ 192 then (if 0 ≤ (wrap64 (a0 - 192)) then (if (wrap64 (a0 - 192)) < (y158.length : Int) then (some (rd y158 (wrap64 (a0 - 192)))) else (none)) else (none)) else (if a0 = 163 then (some 1105) else (if a0 = 179 then (some 1025) else (some (-1)))))) = some r := by first | (rw [hy158]; with_reducible exact H) | (have H2_ := (Option.bind_some _ _).symm.trans H; rw [hy158]; with_reducible exact H2_) | (have H2_ := (Option.bind_some _ _).symm.trans H; with_reducible exact H2_) | with_reducible exact H | (rw [hy158]; exact H) | exact H
 have Ny158 := Aside0.mk hy158
 clear hy158
 by_cases c2 : a0 ≥ 224
 ·rw [if_pos c2] at H
  have c2b0 : decide (224 ≤ a0) = true := decide_eq_true c2
  clear c2
  obtain ⟨ji3, hji3⟩ : ∃ j_ : Int, (wrap64 (a0 - 224)) = j_ := ⟨_, rfl⟩
  replace H : (if 0 ≤ (ji3) then (if (ji3) < (y158.length : Int) then (some (wrap64 ((rd y158 (ji3)) - 32))) else (none)) else (none)) = some r := by first | (rw [hji3] at H; exact H) | (simp only [hji3] at H ⊢; exact H)
  have hji3w : (IntKind.i64.wrap (a0 - 224)) = ji3 := (i64_w _).trans hji3
  by_cases c4 : 0 ≤ (ji3)
  ·rw [if_pos c4] at H
   have c4b0 : decide (0 ≤ (ji3)) = true := decide_eq_true c4
   clear c4
   by_cases c5 : (ji3) < (y158.length : Int)
   ·rw [if_pos c5] at H
    have c5b0 : decide ((ji3) < (y158.length : Int)) = true := decide_eq_true c5
    clear c5
    obtain rfl := Option.some.inj H
    go_enter Tryd.func125, Tryd.ntmps125
    go_wp2_with (first | ((with_reducible refine gate_dst (N := 4) rfl ?_); refine Kd.R_lit (Kd.int .i64) _ 3 ?hg (N := 4) ?hd (xs := ([1102, 1072, 1073, 1094, 1076, 1077, 1092, 1075, 1093, 1080, 1081, 1082, 1083, 1084, 1085, 1086, 1087, 1103, 1088, 1089, 1090, 1091, 1078, 1074, 1100, 1099, 1079, 1096, 1101, 1097, 1095, 1098] : List Int)) (inner := [.int .i64 1102, .int .i64 1072, .int .i64 1073, .int .i64 1094, .int .i64 1076, .int .i64 1077, .int .i64 1092, .int .i64 1075, .int .i64 1093, .int .i64 1080, .int .i64 1081, .int .i64 1082, .int .i64 1083, .int .i64 1084, .int .i64 1085, .int .i64 1086, .int .i64 1087, .int .i64 1103, .int .i64 1088, .int .i64 1089, .int .i64 1090, .int .i64 1091, .int .i64 1078, .int .i64 1074, .int .i64 1100, .int .i64 1099, .int .i64 1079, .int .i64 1096, .int .i64 1101, .int .i64 1097, .int .i64 1095, .int .i64 1098]) (ok := fun _ => True) (okp := fun _ => True) ?hr ?hp (fun _ hk => hk) trivial (Below.refl _ _) (Nat.le_refl _) (by simp) ?_; (case hd => rfl); (case hg => rfl); (case hr => first | (go_simp; done) | (go_simp; rfl)); (case hp => exact rp_); intro v159 w6 ho7 hb hg_ hnew_; clear hg_ hnew_; (first | rw [← Ny158.out] at ho7 | (simp only [Int.reduceToNat] at ho7; rw [← Ny158.out] at ho7)); have n0_ := Aside0.mk (Kd.R_lower ho7 (below_size hb_)); have n1_ := Aside0.mk (below_step hb_ hb); clear HB; have HO160 := n0_; have HB := n1_; clear n0_ n1_; clear hb ho7; obtain ⟨Ao8, co8, eo8⟩ := Kd.R_slice HO160.out; subst eo8; have p161 : 0 ≤ ((ji3) : Int) := of_decide_eq_true as_; have q161 : (ji3) < (y158.length : Int) := of_decide_eq_true as_; obtain ⟨ad161, e161, hx161_0⟩ := Kd.at_int (Kd.R_reads' HO160.out).2.2 (ji3) p161 q161; cases e161; replace p161 := eq_true p161; replace q161 := eq_true q161))
    go_ret
    exact ⟨by first | rfl | (simp [errW_none, errW_some] <;> rfl) | (simp only [← hji3]; first | rfl | (simp [errW_none, errW_some] <;> rfl)) | (simp [*, errW_none, errW_some] <;> rfl), hb_⟩
   ·rw [if_neg c5] at H
    exact absurd H (by simp)
  ·rw [if_neg c4] at H
   exact absurd H (by simp)
 ·rw [if_neg c2] at H
  have c2b0 : decide (224 ≤ a0) = false := decide_eq_false c2
  clear c2
  by_cases c9 : a0 ≥ 192
  ·rw [if_pos c9] at H
   have c9b0 : decide (192 ≤ a0) = true := decide_eq_true c9
   clear c9
   obtain ⟨ji10, hji10⟩ : ∃ j_ : Int, (wrap64 (a0 - 192)) = j_ := ⟨_, rfl⟩
   replace H : (if 0 ≤ (ji10) then (if (ji10) < (y158.length : Int) then (some (rd y158 (ji10))) else (none)) else (none)) = some r := by first | (rw [hji10] at H; exact H) | (simp only [hji10] at H ⊢; exact H)
   have hji10w : (IntKind.i64.wrap (a0 - 192)) = ji10 := (i64_w _).trans hji10
   by_cases c11 : 0 ≤ (ji10)
   ·rw [if_pos c11] at H
    have c11b0 : decide (0 ≤ (ji10)) = true := decide_eq_true c11
    clear c11
    by_cases c12 : (ji10) < (y158.length : Int)
    ·rw [if_pos c12] at H
     have c12b0 : decide ((ji10) < (y158.length : Int)) = true := decide_eq_true c12
     clear c12
     obtain rfl := Option.some.inj H
     go_enter Tryd.func125, Tryd.ntmps125
     go_wp2_with (first | ((with_reducible refine gate_dst (N := 4) rfl ?_); refine Kd.R_lit (Kd.int .i64) _ 3 ?hg (N := 4) ?hd (xs := ([1102, 1072, 1073, 1094, 1076, 1077, 1092, 1075, 1093, 1080, 1081, 1082, 1083, 1084, 1085, 1086, 1087, 1103, 1088, 1089, 1090, 1091, 1078, 1074, 1100, 1099, 1079, 1096, 1101, 1097, 1095, 1098] : List Int)) (inner := [.int .i64 1102, .int .i64 1072, .int .i64 1073, .int .i64 1094, .int .i64 1076, .int .i64 1077, .int .i64 1092, .int .i64 1075, .int .i64 1093, .int .i64 1080, .int .i64 1081, .int .i64 1082, .int .i64 1083, .int .i64 1084, .int .i64 1085, .int .i64 1086, .int .i64 1087, .int .i64 1103, .int .i64 1088, .int .i64 1089, .int .i64 1090, .int .i64 1091, .int .i64 1078, .int .i64 1074, .int .i64 1100, .int .i64 1099, .int .i64 1079, .int .i64 1096, .int .i64 1101, .int .i64 1097, .int .i64 1095, .int .i64 1098]) (ok := fun _ => True) (okp := fun _ => True) ?hr ?hp (fun _ hk => hk) trivial (Below.refl _ _) (Nat.le_refl _) (by simp) ?_; (case hd => rfl); (case hg => rfl); (case hr => first | (go_simp; done) | (go_simp; rfl)); (case hp => exact rp_); intro v159 w13 ho14 hb hg_ hnew_; clear hg_ hnew_; (first | rw [← Ny158.out] at ho14 | (simp only [Int.reduceToNat] at ho14; rw [← Ny158.out] at ho14)); have n0_ := Aside0.mk (Kd.R_lower ho14 (below_size hb_)); have n1_ := Aside0.mk (below_step hb_ hb); clear HB; have HO160 := n0_; have HB := n1_; clear n0_ n1_; clear hb ho14; obtain ⟨Ao15, co15, eo15⟩ := Kd.R_slice HO160.out; subst eo15; have p162 : 0 ≤ ((ji10) : Int) := of_decide_eq_true as_; have q162 : (ji10) < (y158.length : Int) := of_decide_eq_true as_; obtain ⟨ad162, e162, hx162_0⟩ := Kd.at_int (Kd.R_reads' HO160.out).2.2 (ji10) p162 q162; cases e162; replace p162 := eq_true p162; replace q162 := eq_true q162))
     go_ret
     exact ⟨by first | rfl | (simp [errW_none, errW_some] <;> rfl) | (simp only [← hji10]; first | rfl | (simp [errW_none, errW_some] <;> rfl)) | (simp [*, errW_none, errW_some] <;> rfl), hb_⟩
    ·rw [if_neg c12] at H
     exact absurd H (by simp)
   ·rw [if_neg c11] at H
    exact absurd H (by simp)
  ·rw [if_neg c9] at H
   have c9b0 : decide (192 ≤ a0) = false := decide_eq_false c9
   clear c9
   by_cases c16 : a0 = 163
   ·rw [if_pos c16] at H
    have c16b0 : (a0 == 163) = true := beq_iff_eq.mpr c16
    have c16b1 : (a0 != 163) = false := bne_eq_false_iff_eq.mpr c16
    clear c16
    obtain rfl := Option.some.inj H
    go_enter Tryd.func125, Tryd.ntmps125
    go_wp2_with (first | ((with_reducible refine gate_dst (N := 4) rfl ?_); refine Kd.R_lit (Kd.int .i64) _ 3 ?hg (N := 4) ?hd (xs := ([1102, 1072, 1073, 1094, 1076, 1077, 1092, 1075, 1093, 1080, 1081, 1082, 1083, 1084, 1085, 1086, 1087, 1103, 1088, 1089, 1090, 1091, 1078, 1074, 1100, 1099, 1079, 1096, 1101, 1097, 1095, 1098] : List Int)) (inner := [.int .i64 1102, .int .i64 1072, .int .i64 1073, .int .i64 1094, .int .i64 1076, .int .i64 1077, .int .i64 1092, .int .i64 1075, .int .i64 1093, .int .i64 1080, .int .i64 1081, .int .i64 1082, .int .i64 1083, .int .i64 1084, .int .i64 1085, .int .i64 1086, .int .i64 1087, .int .i64 1103, .int .i64 1088, .int .i64 1089, .int .i64 1090, .int .i64 1091, .int .i64 1078, .int .i64 1074, .int .i64 1100, .int .i64 1099, .int .i64 1079, .int .i64 1096, .int .i64 1101, .int .i64 1097, .int .i64 1095, .int .i64 1098]) (ok := fun _ => True) (okp := fun _ => True) ?hr ?hp (fun _ hk => hk) trivial (Below.refl _ _) (Nat.le_refl _) (by simp) ?_; (case hd => rfl); (case hg => rfl); (case hr => first | (go_simp; done) | (go_simp; rfl)); (case hp => exact rp_); intro v159 w17 ho18 hb hg_ hnew_; clear hg_ hnew_; (first | rw [← Ny158.out] at ho18 | (simp only [Int.reduceToNat] at ho18; rw [← Ny158.out] at ho18)); have n0_ := Aside0.mk (Kd.R_lower ho18 (below_size hb_)); have n1_ := Aside0.mk (below_step hb_ hb); clear HB; have HO160 := n0_; have HB := n1_; clear n0_ n1_; clear hb ho18))
    go_ret
    exact ⟨rf_, hb_⟩
   ·rw [if_neg c16] at H
    have c16b0 : (a0 == 163) = false := beq_eq_false_iff_ne.mpr c16
    have c16b1 : (a0 != 163) = true := bne_iff_ne.mpr c16
    by_cases c19 : a0 = 179
    ·rw [if_pos c19] at H
     have c19b0 : (a0 == 179) = true := beq_iff_eq.mpr c19
     have c19b1 : (a0 != 179) = false := bne_eq_false_iff_eq.mpr c19
     clear c19
     obtain rfl := Option.some.inj H
     go_enter Tryd.func125, Tryd.ntmps125
     go_wp2_with (first | ((with_reducible refine gate_dst (N := 4) rfl ?_); refine Kd.R_lit (Kd.int .i64) _ 3 ?hg (N := 4) ?hd (xs := ([1102, 1072, 1073, 1094, 1076, 1077, 1092, 1075, 1093, 1080, 1081, 1082, 1083, 1084, 1085, 1086, 1087, 1103, 1088, 1089, 1090, 1091, 1078, 1074, 1100, 1099, 1079, 1096, 1101, 1097, 1095, 1098] : List Int)) (inner := [.int .i64 1102, .int .i64 1072, .int .i64 1073, .int .i64 1094, .int .i64 1076, .int .i64 1077, .int .i64 1092, .int .i64 1075, .int .i64 1093, .int .i64 1080, .int .i64 1081, .int .i64 1082, .int .i64 1083, .int .i64 1084, .int .i64 1085, .int .i64 1086, .int .i64 1087, .int .i64 1103, .int .i64 1088, .int .i64 1089, .int .i64 1090, .int .i64 1091, .int .i64 1078, .int .i64 1074, .int .i64 1100, .int .i64 1099, .int .i64 1079, .int .i64 1096, .int .i64 1101, .int .i64 1097, .int .i64 1095, .int .i64 1098]) (ok := fun _ => True) (okp := fun _ => True) ?hr ?hp (fun _ hk => hk) trivial (Below.refl _ _) (Nat.le_refl _) (by simp) ?_; (case hd => rfl); (case hg => rfl); (case hr => first | (go_simp; done) | (go_simp; rfl)); (case hp => exact rp_); intro v159 w20 ho21 hb hg_ hnew_; clear hg_ hnew_; (first | rw [← Ny158.out] at ho21 | (simp only [Int.reduceToNat] at ho21; rw [← Ny158.out] at ho21)); have n0_ := Aside0.mk (Kd.R_lower ho21 (below_size hb_)); have n1_ := Aside0.mk (below_step hb_ hb); clear HB; have HO160 := n0_; have HB := n1_; clear n0_ n1_; clear hb ho21))
     go_ret
     exact ⟨rf_, hb_⟩
    ·rw [if_neg c19] at H
     have c19b0 : (a0 == 179) = false := beq_eq_false_iff_ne.mpr c19
     have c19b1 : (a0 != 179) = true := bne_iff_ne.mpr c19
     obtain rfl := Option.some.inj H
     go_enter Tryd.func125, Tryd.ntmps125
     go_wp2_with (first | ((with_reducible refine gate_dst (N := 4) rfl ?_); refine Kd.R_lit (Kd.int .i64) _ 3 ?hg (N := 4) ?hd (xs := ([1102, 1072, 1073, 1094, 1076, 1077, 1092, 1075, 1093, 1080, 1081, 1082, 1083, 1084, 1085, 1086, 1087, 1103, 1088, 1089, 1090, 1091, 1078, 1074, 1100, 1099, 1079, 1096, 1101, 1097, 1095, 1098] : List Int)) (inner := [.int .i64 1102, .int .i64 1072, .int .i64 1073, .int .i64 1094, .int .i64 1076, .int .i64 1077, .int .i64 1092, .int .i64 1075, .int .i64 1093, .int .i64 1080, .int .i64 1081, .int .i64 1082, .int .i64 1083, .int .i64 1084, .int .i64 1085, .int .i64 1086, .int .i64 1087, .int .i64 1103, .int .i64 1088, .int .i64 1089, .int .i64 1090, .int .i64 1091, .int .i64 1078, .int .i64 1074, .int .i64 1100, .int .i64 1099, .int .i64 1079, .int .i64 1096, .int .i64 1101, .int .i64 1097, .int .i64 1095, .int .i64 1098]) (ok := fun _ => True) (okp := fun _ => True) ?hr ?hp (fun _ hk => hk) trivial (Below.refl _ _) (Nat.le_refl _) (by simp) ?_; (case hd => rfl); (case hg => rfl); (case hr => first | (go_simp; done) | (go_simp; rfl)); (case hp => exact rp_); intro v159 w22 ho23 hb hg_ hnew_; clear hg_ hnew_; (first | rw [← Ny158.out] at ho23 | (simp only [Int.reduceToNat] at ho23; rw [← Ny158.out] at ho23)); have n0_ := Aside0.mk (Kd.R_lower ho23 (below_size hb_)); have n1_ := Aside0.mk (below_step hb_ hb); clear HB; have HO160 := n0_; have HB := n1_; clear n0_ n1_; clear hb ho23))
     go_ret
     exact ⟨rf_, hb_⟩

/-! ### spec_l3Win: function 126 -/
def spec_l3Win.f (a0 : Int) : Option (Int) := (some (([8364, (-1), 8218, 402, 8222, 8230, 8224, 8225, 710, 8240, 352, 8249, 338, (-1), 381, (-1), (-1), 8216, 8217, 8220, 8221, 8226, 8211, 8212, 732, 8482, 353, 8250, 339, (-1), 382, 376] : List Int) : List Int)).bind fun y163 => (if a0 ≥ 160 then (some a0) else (if 0 ≤ (wrap64 (a0 - 128)) then (if (wrap64 (a0 - 128)) < (y163.length : Int) then (some (rd y163 (wrap64 (a0 - 128)))) else (none)) else (none)))
set_option maxHeartbeats 8000000 in
set_option maxRecDepth 100000 in
theorem spec_l3Win.calls (a0 : Int) (r : Int) (w : World) (h : spec_l3Win.f a0 = some r) :
  Calls Tryd.prog 126 #[.int .i64 a0] w fun e w' => e = .returned (.int .i64 r) ∧ Below w.heap.size w w' := by
 have HB := Aside0.mk (Below.refl w.heap.size w)
 have H : ((some (([8364, (-1), 8218, 402, 8222, 8230, 8224, 8225, 710, 8240, 352, 8249, 338, (-1), 381, (-1), (-1), 8216, 8217, 8220, 8221, 8226, 8211, 8212, 732, 8482, 353, 8250, 339, (-1), 382, 376] : List Int) : List Int)).bind fun y163 => (if a0 ≥ 160 then (some a0) else (if 0 ≤ (wrap64 (a0 - 128)) then (if (wrap64 (a0 - 128)) < (y163.length : Int) then (some (rd y163 (wrap64 (a0 - 128)))) else (none)) else (none)))) = some r := h
 clear h
 obtain ⟨y163, hy163⟩ : ∃ y_ : List Int, y_ = (([8364, (-1), 8218, 402, 8222, 8230, 8224, 8225, 710, 8240, 352, 8249, 338, (-1), 381, (-1), (-1), 8216, 8217, 8220, 8221, 8226, 8211, 8212, 732, 8482, 353, 8250, 339, (-1), 382, 376] : List Int)) := ⟨_, rfl⟩
 replace H : (if a0 ≥ 160 then (some a0) else (if 0 ≤ (wrap64 (a0 - 128)) then (if (wrap64 (a0 - 128)) < (y163.length : Int) then (some (rd y163 (wrap64 (a0 - 128)))) else (none)) else (none))) = some r := by first | (rw [hy163]; with_reducible exact H) | (have H2_ := (Option.bind_some _ _).symm.trans H; rw [hy163]; with_reducible exact H2_) | (have H2_ := (Option.bind_some _ _).symm.trans H; with_reducible exact H2_) | with_reducible exact H | (rw [hy163]; exact H) | exact H
 have Ny163 := Aside0.mk hy163
 clear hy163
 by_cases c2 : a0 ≥ 160
 ·rw [if_pos c2] at H
  have c2b0 : decide (160 ≤ a0) = true := decide_eq_true c2
  clear c2
  obtain rfl := Option.some.inj H
  go_enter Tryd.func126, Tryd.ntmps126
  go_wp2_with (first | ((with_reducible refine gate_dst (N := 4) rfl ?_); refine Kd.R_lit (Kd.int .i64) _ 3 ?hg (N := 4) ?hd (xs := ([8364, (-1), 8218, 402, 8222, 8230, 8224, 8225, 710, 8240, 352, 8249, 338, (-1), 381, (-1), (-1), 8216, 8217, 8220, 8221, 8226, 8211, 8212, 732, 8482, 353, 8250, 339, (-1), 382, 376] : List Int)) (inner := [.int .i64 8364, .int .i64 (-1), .int .i64 8218, .int .i64 402, .int .i64 8222, .int .i64 8230, .int .i64 8224, .int .i64 8225, .int .i64 710, .int .i64 8240, .int .i64 352, .int .i64 8249, .int .i64 338, .int .i64 (-1), .int .i64 381, .int .i64 (-1), .int .i64 (-1), .int .i64 8216, .int .i64 8217, .int .i64 8220, .int .i64 8221, .int .i64 8226, .int .i64 8211, .int .i64 8212, .int .i64 732, .int .i64 8482, .int .i64 353, .int .i64 8250, .int .i64 339, .int .i64 (-1), .int .i64 382, .int .i64 376]) (ok := fun _ => True) (okp := fun _ => True) ?hr ?hp (fun _ hk => hk) trivial (Below.refl _ _) (Nat.le_refl _) (by simp) ?_; (case hd => rfl); (case hg => rfl); (case hr => first | (go_simp; done) | (go_simp; rfl)); (case hp => exact rp_); intro v164 w3 ho4 hb hg_ hnew_; clear hg_ hnew_; (first | rw [← Ny163.out] at ho4 | (simp only [Int.reduceToNat] at ho4; rw [← Ny163.out] at ho4)); have n0_ := Aside0.mk (Kd.R_lower ho4 (below_size hb_)); have n1_ := Aside0.mk (below_step hb_ hb); clear HB; have HO165 := n0_; have HB := n1_; clear n0_ n1_; clear hb ho4))
  go_ret
  exact ⟨rf_, hb_⟩
 ·rw [if_neg c2] at H
  have c2b0 : decide (160 ≤ a0) = false := decide_eq_false c2
  clear c2
  obtain ⟨ji5, hji5⟩ : ∃ j_ : Int, (wrap64 (a0 - 128)) = j_ := ⟨_, rfl⟩
  replace H : (if 0 ≤ (ji5) then (if (ji5) < (y163.length : Int) then (some (rd y163 (ji5))) else (none)) else (none)) = some r := by first | (rw [hji5] at H; exact H) | (simp only [hji5] at H ⊢; exact H)
  have hji5w : (IntKind.i64.wrap (a0 - 128)) = ji5 := (i64_w _).trans hji5
  by_cases c6 : 0 ≤ (ji5)
  ·rw [if_pos c6] at H
   have c6b0 : decide (0 ≤ (ji5)) = true := decide_eq_true c6
   clear c6
   by_cases c7 : (ji5) < (y163.length : Int)
   ·rw [if_pos c7] at H
    have c7b0 : decide ((ji5) < (y163.length : Int)) = true := decide_eq_true c7
    clear c7
    obtain rfl := Option.some.inj H
    go_enter Tryd.func126, Tryd.ntmps126
    go_wp2_with (first | ((with_reducible refine gate_dst (N := 4) rfl ?_); refine Kd.R_lit (Kd.int .i64) _ 3 ?hg (N := 4) ?hd (xs := ([8364, (-1), 8218, 402, 8222, 8230, 8224, 8225, 710, 8240, 352, 8249, 338, (-1), 381, (-1), (-1), 8216, 8217, 8220, 8221, 8226, 8211, 8212, 732, 8482, 353, 8250, 339, (-1), 382, 376] : List Int)) (inner := [.int .i64 8364, .int .i64 (-1), .int .i64 8218, .int .i64 402, .int .i64 8222, .int .i64 8230, .int .i64 8224, .int .i64 8225, .int .i64 710, .int .i64 8240, .int .i64 352, .int .i64 8249, .int .i64 338, .int .i64 (-1), .int .i64 381, .int .i64 (-1), .int .i64 (-1), .int .i64 8216, .int .i64 8217, .int .i64 8220, .int .i64 8221, .int .i64 8226, .int .i64 8211, .int .i64 8212, .int .i64 732, .int .i64 8482, .int .i64 353, .int .i64 8250, .int .i64 339, .int .i64 (-1), .int .i64 382, .int .i64 376]) (ok := fun _ => True) (okp := fun _ => True) ?hr ?hp (fun _ hk => hk) trivial (Below.refl _ _) (Nat.le_refl _) (by simp) ?_; (case hd => rfl); (case hg => rfl); (case hr => first | (go_simp; done) | (go_simp; rfl)); (case hp => exact rp_); intro v164 w8 ho9 hb hg_ hnew_; clear hg_ hnew_; (first | rw [← Ny163.out] at ho9 | (simp only [Int.reduceToNat] at ho9; rw [← Ny163.out] at ho9)); have n0_ := Aside0.mk (Kd.R_lower ho9 (below_size hb_)); have n1_ := Aside0.mk (below_step hb_ hb); clear HB; have HO165 := n0_; have HB := n1_; clear n0_ n1_; clear hb ho9; obtain ⟨Ao10, co10, eo10⟩ := Kd.R_slice HO165.out; subst eo10; have p166 : 0 ≤ ((ji5) : Int) := of_decide_eq_true as_; have q166 : (ji5) < (y163.length : Int) := of_decide_eq_true as_; obtain ⟨ad166, e166, hx166_0⟩ := Kd.at_int (Kd.R_reads' HO165.out).2.2 (ji5) p166 q166; cases e166; replace p166 := eq_true p166; replace q166 := eq_true q166))
    go_ret
    exact ⟨by first | rfl | (simp [errW_none, errW_some] <;> rfl) | (simp only [← hji5]; first | rfl | (simp [errW_none, errW_some] <;> rfl)) | (simp [*, errW_none, errW_some] <;> rfl), hb_⟩
   ·rw [if_neg c7] at H
    exact absurd H (by simp)
  ·rw [if_neg c6] at H
   exact absurd H (by simp)

/-! ### spec_ByteSign: function 105 -/
def spec_ByteSign.j0 : Nat → Int → Int → Bool → Option (Int × Bool)
 | 0, _, _, _ => none
 | k + 1, x0, x1, x14 => if x14 = true then (some (0, false)) else (if x1 ≥ 128 then (if x0 = 2 then ((spec_l3Nine.f x1).bind fun t169 => (if t169 < 0 then (some (0, false)) else (some (t169, true)))) else (if x0 = 3 then ((spec_l3Koi.f x1).bind fun t170 => (if t170 < 0 then (some (0, false)) else (some (t170, true)))) else (if x0 = 4 then ((spec_l3Win.f x1).bind fun t171 => (if t171 < 0 then (some (0, false)) else (some (t171, true)))) else (if x1 < 0 then (some (0, false)) else (some (x1, true)))))) else (if x1 < 0 then (some (0, false)) else (some (x1, true))))
def spec_ByteSign.f (k : Nat) (a0 : Int) (a1 : Int) : Option (Int × Bool) := (spec_l1In.f a0 1 4).bind fun t167 => (if t167 = true then ((spec_l1In.f a1 0 255).bind fun t168 => (spec_ByteSign.j0 k a0 a1 (!t168))) else (spec_ByteSign.j0 k a0 a1 true))
theorem spec_ByteSign.mono_l : ∀ k, (∀ y0 y1 y2, LeO (spec_ByteSign.j0 k y0 y1 y2) (spec_ByteSign.j0 (k + 1) y0 y1 y2))
 | 0 => fun _ _ _ r h => by simp [spec_ByteSign.j0] at h
 | k + 1 => by
  have ih0 := spec_ByteSign.mono_l k
  ·intro y0 y1 y2
   unfold spec_ByteSign.j0
   repeat' first
   | (with_reducible exact ih0 _ _ _)
   | (with_reducible exact LeO.refl _)
   | (with_reducible exact LeO.none _)
   | (with_reducible refine LeO.ite ?_ ?_)
   | (with_reducible refine LeO.bind ?_ (fun _ => ?_))
   | exact ih0 _ _ _
   | exact LeO.none _
   | refine LeO.ite ?_ ?_
   | refine LeO.bind ?_ (fun _ => ?_)
theorem spec_ByteSign.mono : ∀ a0 a1 k, LeO (spec_ByteSign.f k a0 a1) (spec_ByteSign.f (k + 1) a0 a1) := by
 intro a0 a1 k
 have ih0 := spec_ByteSign.mono_l k
 unfold spec_ByteSign.f
 repeat' first
   | (with_reducible exact ih0 _ _ _)
   | (with_reducible exact LeO.refl _)
   | (with_reducible exact LeO.none _)
   | (with_reducible refine LeO.ite ?_ ?_)
   | (with_reducible refine LeO.bind ?_ (fun _ => ?_))
   | exact ih0 _ _ _
   | exact LeO.none _
   | refine LeO.ite ?_ ?_
   | refine LeO.bind ?_ (fun _ => ?_)
set_option maxHeartbeats 8000000 in
set_option maxRecDepth 100000 in
theorem spec_ByteSign.calls (k : Nat) (a0 : Int) (a1 : Int) (r1 : Int) (r2 : Bool) (w : World) (h : spec_ByteSign.f k a0 a1 = some (r1, r2)) :
  Calls Tryd.prog 105 #[.int .i64 a0, .int .i64 a1] w fun e w' => e = .returned (.tuple #[.int .i64 r1, .bool r2]) ∧ Below w.heap.size w w' := by
 have HB := Aside0.mk (Below.refl w.heap.size w)
 have H : ((spec_l1In.f a0 1 4).bind fun t167 => (if t167 = true then ((spec_l1In.f a1 0 255).bind fun t168 => (spec_ByteSign.j0 k a0 a1 (!t168))) else (spec_ByteSign.j0 k a0 a1 true))) = some (r1, r2) := h
 clear h
 have HC3 := Aside0.mk H
 clear H
 go_enter Tryd.func105, Tryd.ntmps105
 go_upto_region 1 with (fail)
 go_cut [14] (fun v14 wc => ∃ (kq : Nat) (x14_2 : Bool), v14 = .bool x14_2 ∧ Aside0 (spec_ByteSign.j0 kq a0 a1 x14_2 = some (r1, r2)) ∧ Aside0 (kq ≤ k) ∧ Aside0 (Below w.heap.size w wc))
 case first =>
  have H := HC3.out
  clear HC3
  replace H := Option.bind_eq_some_iff.mp H
  obtain ⟨t167, A40, H⟩ := H
  try dsimp only at H
  have A4 := Aside0.mk A40
  clear A40
  by_cases c5 : t167 = true
  ·subst c5
   rw [if_pos rfl] at H
   replace H := Option.bind_eq_some_iff.mp H
   obtain ⟨t168, A60, H⟩ := H
   try dsimp only at H
   have A6 := Aside0.mk A60
   clear A60
   have H' := Aside0.mk H
   clear H
   go_wp2_with (first | ((with_reducible refine gate_callee (f := 96) rfl ?_); refine goesL_ (some 8) rfl rfl Tryd.func96 (by kernel_rfl) rfl #[.int .i64 a0, .int .i64 1, .int .i64 4] rfl ka_ ?_; (with_reducible refine (spec_l1In.calls a0 1 4 true _ A4.out).mono ?_); rintro e w' ⟨rfl, ⟨nd, rfl⟩⟩; refine ⟨_, rfl, ?_⟩) | (go_at_call 96; (with_reducible refine (spec_l1In.calls a1 0 255 t168 _ A6.out).mono ?_); rintro e w' ⟨rfl, ⟨nd, rfl⟩⟩))
   go_meet
   case rel => exact ⟨_, (!t168), (by first | rfl | (simp; done) | (simp [*]; done)), H', ⟨by first | omega | exact Nat.le_refl _⟩, ⟨by repeat (first | (with_reducible first | exact HB.out | apply below_alloc | apply pw_below_drewN | apply below_drew1) | exact HB.out)⟩⟩
  ·replace c5 := Bool.eq_false_iff.mpr c5
   subst c5
   rw [if_neg (show ¬ (false = true) by decide)] at H
   have H' := Aside0.mk H
   clear H
   go_wp2_with (first | ((with_reducible refine gate_callee (f := 96) rfl ?_); refine goesL_ (some 8) rfl rfl Tryd.func96 (by kernel_rfl) rfl #[.int .i64 a0, .int .i64 1, .int .i64 4] rfl ka_ ?_; (with_reducible refine (spec_l1In.calls a0 1 4 false _ A4.out).mono ?_); rintro e w' ⟨rfl, ⟨nd, rfl⟩⟩; refine ⟨_, rfl, ?_⟩))
   go_meet
   case rel => exact ⟨_, (true), (by first | rfl | (simp; done) | (simp [*]; done)), H', ⟨by first | omega | exact Nat.le_refl _⟩, ⟨by repeat (first | (with_reducible first | exact HB.out | apply below_alloc | apply pw_below_drewN | apply below_drew1) | exact HB.out)⟩⟩
 case rest =>
  clear HC3
  try clear c1
  try clear p2
  try clear c5
  obtain ⟨kq, x14_2, rfl, HA, HJ2, HB⟩ := hcut
  cases kq with
  | zero => exact absurd HA.out (by simp [spec_ByteSign.j0])
  | succ kj2 =>
   have H := HA.out
   clear HA
   simp only [spec_ByteSign.j0] at H
   by_cases c7 : x14_2 = true
   ·subst c7
    rw [if_pos rfl] at H
    simp only [Option.some.injEq, Prod.mk.injEq] at H
    obtain ⟨rfl, rfl⟩ := H
    go_wp2
    go_ret2
    exact ⟨rf_, hb_⟩
   ·replace c7 := Bool.eq_false_iff.mpr c7
    subst c7
    rw [if_neg (show ¬ (false = true) by decide)] at H
    by_cases c8 : a1 ≥ 128
    ·rw [if_pos c8] at H
     have c8b0 : decide (128 ≤ a1) = true := decide_eq_true c8
     clear c8
     by_cases c9 : a0 = 2
     ·rw [if_pos c9] at H
      have c9b0 : (a0 == 2) = true := beq_iff_eq.mpr c9
      have c9b1 : (a0 != 2) = false := bne_eq_false_iff_eq.mpr c9
      clear c9
      replace H := Option.bind_eq_some_iff.mp H
      obtain ⟨t169, A100, H⟩ := H
      try dsimp only at H
      have A10 := Aside0.mk A100
      clear A100
      by_cases c11 : t169 < 0
      ·rw [if_pos c11] at H
       have c11b0 : decide (t169 < 0) = true := decide_eq_true c11
       clear c11
       simp only [Option.some.injEq, Prod.mk.injEq] at H
       obtain ⟨rfl, rfl⟩ := H
       go_wp2_with (first | ((with_reducible refine gate_callee (f := 124) rfl ?_); refine goesL_ (some 22) rfl rfl Tryd.func124 (by kernel_rfl) rfl #[.int .i64 a1] rfl ka_ ?_; (with_reducible refine (spec_l3Nine.calls a1 t169 _ A10.out).mono ?_); rintro e w' ⟨rfl, ⟨nd, rfl⟩⟩; refine ⟨_, rfl, ?_⟩))
       go_ret2
       exact ⟨rf_, hb_⟩
      ·rw [if_neg c11] at H
       have c11b0 : decide (t169 < 0) = false := decide_eq_false c11
       clear c11
       simp only [Option.some.injEq, Prod.mk.injEq] at H
       obtain ⟨rfl, rfl⟩ := H
       go_wp2_with (first | ((with_reducible refine gate_callee (f := 124) rfl ?_); refine goesL_ (some 22) rfl rfl Tryd.func124 (by kernel_rfl) rfl #[.int .i64 a1] rfl ka_ ?_; (with_reducible refine (spec_l3Nine.calls a1 t169 _ A10.out).mono ?_); rintro e w' ⟨rfl, ⟨nd, rfl⟩⟩; refine ⟨_, rfl, ?_⟩))
       go_ret2
       exact ⟨rf_, hb_⟩
     ·rw [if_neg c9] at H
      have c9b0 : (a0 == 2) = false := beq_eq_false_iff_ne.mpr c9
      have c9b1 : (a0 != 2) = true := bne_iff_ne.mpr c9
      by_cases c12 : a0 = 3
      ·rw [if_pos c12] at H
       have c12b0 : (a0 == 3) = true := beq_iff_eq.mpr c12
       have c12b1 : (a0 != 3) = false := bne_eq_false_iff_eq.mpr c12
       clear c12
       replace H := Option.bind_eq_some_iff.mp H
       obtain ⟨t170, A130, H⟩ := H
       try dsimp only at H
       have A13 := Aside0.mk A130
       clear A130
       by_cases c14 : t170 < 0
       ·rw [if_pos c14] at H
        have c14b0 : decide (t170 < 0) = true := decide_eq_true c14
        clear c14
        simp only [Option.some.injEq, Prod.mk.injEq] at H
        obtain ⟨rfl, rfl⟩ := H
        go_wp2_with (first | ((with_reducible refine gate_callee (f := 125) rfl ?_); refine goesL_ (some 26) rfl rfl Tryd.func125 (by kernel_rfl) rfl #[.int .i64 a1] rfl ka_ ?_; (with_reducible refine (spec_l3Koi.calls a1 t170 _ A13.out).mono ?_); rintro e w15 ⟨rfl, hb⟩; refine ⟨_, rfl, ?_⟩; have n0_ := Aside0.mk (below_step hb_ hb); clear HB; have HB := n0_; clear n0_; try clear hb))
        go_ret2
        exact ⟨rf_, hb_⟩
       ·rw [if_neg c14] at H
        have c14b0 : decide (t170 < 0) = false := decide_eq_false c14
        clear c14
        simp only [Option.some.injEq, Prod.mk.injEq] at H
        obtain ⟨rfl, rfl⟩ := H
        go_wp2_with (first | ((with_reducible refine gate_callee (f := 125) rfl ?_); refine goesL_ (some 26) rfl rfl Tryd.func125 (by kernel_rfl) rfl #[.int .i64 a1] rfl ka_ ?_; (with_reducible refine (spec_l3Koi.calls a1 t170 _ A13.out).mono ?_); rintro e w16 ⟨rfl, hb⟩; refine ⟨_, rfl, ?_⟩; have n0_ := Aside0.mk (below_step hb_ hb); clear HB; have HB := n0_; clear n0_; try clear hb))
        go_ret2
        exact ⟨rf_, hb_⟩
      ·rw [if_neg c12] at H
       have c12b0 : (a0 == 3) = false := beq_eq_false_iff_ne.mpr c12
       have c12b1 : (a0 != 3) = true := bne_iff_ne.mpr c12
       by_cases c17 : a0 = 4
       ·rw [if_pos c17] at H
        have c17b0 : (a0 == 4) = true := beq_iff_eq.mpr c17
        have c17b1 : (a0 != 4) = false := bne_eq_false_iff_eq.mpr c17
        clear c17
        replace H := Option.bind_eq_some_iff.mp H
        obtain ⟨t171, A180, H⟩ := H
        try dsimp only at H
        have A18 := Aside0.mk A180
        clear A180
        by_cases c19 : t171 < 0
        ·rw [if_pos c19] at H
         have c19b0 : decide (t171 < 0) = true := decide_eq_true c19
         clear c19
         simp only [Option.some.injEq, Prod.mk.injEq] at H
         obtain ⟨rfl, rfl⟩ := H
         go_wp2_with (first | ((with_reducible refine gate_callee (f := 126) rfl ?_); refine goesL_ (some 30) rfl rfl Tryd.func126 (by kernel_rfl) rfl #[.int .i64 a1] rfl ka_ ?_; (with_reducible refine (spec_l3Win.calls a1 t171 _ A18.out).mono ?_); rintro e w20 ⟨rfl, hb⟩; refine ⟨_, rfl, ?_⟩; have n0_ := Aside0.mk (below_step hb_ hb); clear HB; have HB := n0_; clear n0_; try clear hb))
         go_ret2
         exact ⟨rf_, hb_⟩
        ·rw [if_neg c19] at H
         have c19b0 : decide (t171 < 0) = false := decide_eq_false c19
         clear c19
         simp only [Option.some.injEq, Prod.mk.injEq] at H
         obtain ⟨rfl, rfl⟩ := H
         go_wp2_with (first | ((with_reducible refine gate_callee (f := 126) rfl ?_); refine goesL_ (some 30) rfl rfl Tryd.func126 (by kernel_rfl) rfl #[.int .i64 a1] rfl ka_ ?_; (with_reducible refine (spec_l3Win.calls a1 t171 _ A18.out).mono ?_); rintro e w21 ⟨rfl, hb⟩; refine ⟨_, rfl, ?_⟩; have n0_ := Aside0.mk (below_step hb_ hb); clear HB; have HB := n0_; clear n0_; try clear hb))
         go_ret2
         exact ⟨rf_, hb_⟩
       ·rw [if_neg c17] at H
        have c17b0 : (a0 == 4) = false := beq_eq_false_iff_ne.mpr c17
        have c17b1 : (a0 != 4) = true := bne_iff_ne.mpr c17
        by_cases c22 : a1 < 0
        ·rw [if_pos c22] at H
         have c22b0 : decide (a1 < 0) = true := decide_eq_true c22
         clear c22
         simp only [Option.some.injEq, Prod.mk.injEq] at H
         obtain ⟨rfl, rfl⟩ := H
         go_wp2
         go_ret2
         exact ⟨rf_, hb_⟩
        ·rw [if_neg c22] at H
         have c22b0 : decide (a1 < 0) = false := decide_eq_false c22
         clear c22
         simp only [Option.some.injEq, Prod.mk.injEq] at H
         obtain ⟨rfl, rfl⟩ := H
         go_wp2
         go_ret2
         exact ⟨rf_, hb_⟩
    ·rw [if_neg c8] at H
     have c8b0 : decide (128 ≤ a1) = false := decide_eq_false c8
     clear c8
     by_cases c23 : a1 < 0
     ·rw [if_pos c23] at H
      have c23b0 : decide (a1 < 0) = true := decide_eq_true c23
      clear c23
      simp only [Option.some.injEq, Prod.mk.injEq] at H
      obtain ⟨rfl, rfl⟩ := H
      go_wp2
      go_ret2
      exact ⟨rf_, hb_⟩
     ·rw [if_neg c23] at H
      have c23b0 : decide (a1 < 0) = false := decide_eq_false c23
      clear c23
      simp only [Option.some.injEq, Prod.mk.injEq] at H
      obtain ⟨rfl, rfl⟩ := H
      go_wp2
      go_ret2
      exact ⟨rf_, hb_⟩

/-! ### spec_l5Get: function 78 -/
def spec_l5Get.f (k : Nat) (a0 : Int) (l1 : List Int) (a2 : Int) : Option (Int × Int × Bool) := if a0 = 0 then ((spec_GetSign.f k l1 a2).bind fun bt172 => (some (bt172.1, bt172.2.1, bt172.2.2))) else (if a0 = 5 then ((spec_EucSign.f k l1 a2).bind fun bt175 => (some (bt175.1, bt175.2.1, bt175.2.2))) else (if 0 ≤ a2 then (if a2 < (l1.length : Int) then ((spec_ByteSign.f k a0 (wrap64 (rd l1 a2))).bind fun bt179 => (some (bt179.1, wrap64 (a2 + 1), bt179.2))) else (none)) else (none)))
theorem spec_l5Get.mono : ∀ a0 a1 a2 k, LeO (spec_l5Get.f k a0 a1 a2) (spec_l5Get.f (k + 1) a0 a1 a2) := by
 intro a0 a1 a2 k
 unfold spec_l5Get.f
 repeat' first
   | (with_reducible exact spec_ByteSign.mono _ _ _)
   | (with_reducible exact spec_EucSign.mono _ _ _)
   | (with_reducible exact spec_GetSign.mono _ _ _)
   | (with_reducible exact LeO.refl _)
   | (with_reducible exact LeO.none _)
   | (with_reducible refine LeO.ite ?_ ?_)
   | (with_reducible refine LeO.bind ?_ (fun _ => ?_))
   | exact spec_ByteSign.mono _ _ _
   | exact spec_EucSign.mono _ _ _
   | exact spec_GetSign.mono _ _ _
   | exact LeO.none _
   | refine LeO.ite ?_ ?_
   | refine LeO.bind ?_ (fun _ => ?_)
set_option maxHeartbeats 8000000 in
set_option maxRecDepth 100000 in
theorem spec_l5Get.calls (k : Nat) (a0 : Int) (A1 : Option Addr) (c1 : Nat) (l1 : List Int) (a2 : Int) (r1 : Int) (r2 : Int) (r3 : Bool) (w : World) (hr1 : Kd.C (Kd.int .u8) w A1 l1.length l1) (hc1 : l1.length ≤ c1) (h : spec_l5Get.f k a0 l1 a2 = some (r1, r2, r3)) :
  Calls Tryd.prog 78 #[.int .i64 a0, .slice A1 l1.length c1, .int .i64 a2] w fun e w' => e = .returned (.tuple #[.int .i64 r1, .int .i64 r2, .bool r3]) ∧ Below w.heap.size w w' := by
 have HR1 := Aside0.mk hr1
 have HC1 := Aside0.mk hc1
 clear hr1 hc1
 have HB := Aside0.mk (Below.refl w.heap.size w)
 have H : (if a0 = 0 then ((spec_GetSign.f k l1 a2).bind fun bt172 => (some (bt172.1, bt172.2.1, bt172.2.2))) else (if a0 = 5 then ((spec_EucSign.f k l1 a2).bind fun bt175 => (some (bt175.1, bt175.2.1, bt175.2.2))) else (if 0 ≤ a2 then (if a2 < (l1.length : Int) then ((spec_ByteSign.f k a0 (wrap64 (rd l1 a2))).bind fun bt179 => (some (bt179.1, wrap64 (a2 + 1), bt179.2))) else (none)) else (none)))) = some (r1, r2, r3) := h
 clear h
 by_cases c4 : a0 = 0
 ·rw [if_pos c4] at H
  have c4b0 : (a0 == 0) = true := beq_iff_eq.mpr c4
  have c4b1 : (a0 != 0) = false := bne_eq_false_iff_eq.mpr c4
  clear c4
  replace H := Option.bind_eq_some_iff.mp H
  obtain ⟨⟨t172, t173, t174⟩, A50, H⟩ := H
  try dsimp only at H
  have A5 := Aside0.mk A50
  clear A50
  simp only [Option.some.injEq, Prod.mk.injEq] at H
  obtain ⟨rfl, rfl, rfl⟩ := H
  go_enter Tryd.func78, Tryd.ntmps78
  go_wp2_with (first | ((with_reducible refine gate_callee (f := 98) rfl ?_); refine goesL_ (some 16) rfl rfl Tryd.func98 (by kernel_rfl) rfl #[.slice A1 l1.length c1, .int .i64 a2] rfl ka_ ?_; (with_reducible refine (spec_GetSign.calls k _ _ l1 a2 t172 t173 t174 _ ?side1 ?side2 A5.out).mono ?_); (case side1 => repeat (first | exact HR1.out | (with_reducible refine Kd.C_alloc ?_ _) | (with_reducible refine Kd.C_drewN ?_ _) | (with_reducible refine Kd.C_drew ?_))); (case side2 => exact HC1.out); rintro e w6 ⟨rfl, hb⟩; refine ⟨_, rfl, ?_⟩; have n0_ := Aside0.mk (below_step hb_ hb); clear HB; have HB := n0_; clear n0_; try clear hb))
  go_ret3
  exact ⟨rf_, hb_⟩
 ·rw [if_neg c4] at H
  have c4b0 : (a0 == 0) = false := beq_eq_false_iff_ne.mpr c4
  have c4b1 : (a0 != 0) = true := bne_iff_ne.mpr c4
  by_cases c7 : a0 = 5
  ·rw [if_pos c7] at H
   have c7b0 : (a0 == 5) = true := beq_iff_eq.mpr c7
   have c7b1 : (a0 != 5) = false := bne_eq_false_iff_eq.mpr c7
   clear c7
   replace H := Option.bind_eq_some_iff.mp H
   obtain ⟨⟨t175, t176, t177⟩, A80, H⟩ := H
   try dsimp only at H
   have A8 := Aside0.mk A80
   clear A80
   simp only [Option.some.injEq, Prod.mk.injEq] at H
   obtain ⟨rfl, rfl, rfl⟩ := H
   go_enter Tryd.func78, Tryd.ntmps78
   go_wp2_with (first | ((with_reducible refine gate_callee (f := 104) rfl ?_); refine goesL_ (some 24) rfl rfl Tryd.func104 (by kernel_rfl) rfl #[.slice A1 l1.length c1, .int .i64 a2] rfl ka_ ?_; (with_reducible refine (spec_EucSign.calls k _ _ l1 a2 t175 t176 t177 _ ?side1 ?side2 A8.out).mono ?_); (case side1 => repeat (first | exact HR1.out | (with_reducible refine Kd.C_alloc ?_ _) | (with_reducible refine Kd.C_drewN ?_ _) | (with_reducible refine Kd.C_drew ?_))); (case side2 => exact HC1.out); rintro e w' ⟨rfl, ⟨nd, rfl⟩⟩; refine ⟨_, rfl, ?_⟩))
   go_ret3
   exact ⟨rf_, hb_⟩
  ·rw [if_neg c7] at H
   have c7b0 : (a0 == 5) = false := beq_eq_false_iff_ne.mpr c7
   have c7b1 : (a0 != 5) = true := bne_iff_ne.mpr c7
   by_cases c9 : 0 ≤ a2
   ·rw [if_pos c9] at H
    have c9b0 : decide (0 ≤ a2) = true := decide_eq_true c9
    clear c9
    by_cases c10 : a2 < (l1.length : Int)
    ·rw [if_pos c10] at H
     have c10b0 : decide (a2 < (l1.length : Int)) = true := decide_eq_true c10
     clear c10
     replace H := Option.bind_eq_some_iff.mp H
     obtain ⟨⟨t179, t180⟩, A110, H⟩ := H
     try dsimp only at H
     have A11 := Aside0.mk A110
     clear A110
     simp only [Option.some.injEq, Prod.mk.injEq] at H
     obtain ⟨rfl, rfl, rfl⟩ := H
     have p178 : 0 ≤ (a2 : Int) := of_decide_eq_true as_
     have q178 : a2 < (l1.length : Int) := of_decide_eq_true as_
     obtain ⟨ad178, e178, hx178_0⟩ := Kd.at_int HR1.out a2 p178 q178
     cases e178
     replace p178 := eq_true p178
     replace q178 := eq_true q178
     go_enter Tryd.func78, Tryd.ntmps78
     go_wp2_with (first | ((with_reducible refine gate_callee (f := 105) rfl ?_); refine goesL_ (some 35) rfl rfl Tryd.func105 (by kernel_rfl) rfl #[.int .i64 a0, .int .i64 (wrap64 (rd l1 a2))] rfl ka_ ?_; (with_reducible refine (spec_ByteSign.calls k a0 (wrap64 (rd l1 a2)) t179 t180 _ A11.out).mono ?_); rintro e w12 ⟨rfl, hb⟩; refine ⟨_, rfl, ?_⟩; have n0_ := Aside0.mk (below_step hb_ hb); clear HB; have HB := n0_; clear n0_; try clear hb))
     go_ret3
     exact ⟨rf_, hb_⟩
    ·rw [if_neg c10] at H
     exact absurd H (by simp)
   ·rw [if_neg c9] at H
    exact absurd H (by simp)

end Go.Proofs.YtpmimhbnmjffpaaDoor.QFnDetects
