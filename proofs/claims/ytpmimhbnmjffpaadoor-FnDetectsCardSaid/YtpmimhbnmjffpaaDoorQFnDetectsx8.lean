/- The functions that a law reaches, each as a plain function, and that Go comes to just its answer: written by the session's program pp.py (the kit's print, with a few rows turned). -/
import Derived.Test.YtpmimhbnmjffpaaDoorQFnDetectsx0
import Derived.Test.YtpmimhbnmjffpaaDoorQFnDetectsx4
import Derived.Test.YtpmimhbnmjffpaaDoorQFnDetectsx7
namespace Go.Proofs.YtpmimhbnmjffpaaDoor.QFnDetects
open Go.RowKit Go.Proofs.YtpmimhbnmjffpaaDoorW.PrintWords Go.Proofs.YtpmimhbnmjffpaaDoorW.PrintLast Go.Proofs.YtpmimhbnmjffpaaDoorW.PrintMore Go.Proofs.YtpmimhbnmjffpaaDoor.Xw Go.Proofs.YtpmimhbnmjffpaaDoor.Xs Go.Proofs.YtpmimhbnmjffpaaDoor.Ext
attribute [local go_sem] max2_int min2_int max_two min_two max_three min_three max_four min_four   -- for this text's walks alone
set_option linter.unusedVariables false
set_option linter.unusedSimpArgs false

/-! ### spec_Detect: function 40 -/
mutual
def spec_Detect.j0 : Nat → List Int → Bool → Option (Int × Bool)
 | 0, _, _ => none
 | k + 1, x0, x39 => if x39 = true then (some (0, true)) else (spec_Detect.l0 k x0 0 0 1)
def spec_Detect.l0 : Nat → List Int → Int → Int → Int → Option (Int × Bool)
 | 0, _, _, _, _ => none
 | k + 1, x0, x6, x7, x8 => if x8 ≤ 5 then ((spec_Score.f k x8 x0).bind fun bt344 => (if bt344.2 = true then (if x7 = 0 then (spec_Detect.l0 k x0 bt344.1 x8 (wrap64 (x8 + 1))) else (if bt344.1 > x6 then (spec_Detect.l0 k x0 bt344.1 x8 (wrap64 (x8 + 1))) else (spec_Detect.l0 k x0 x6 x7 (wrap64 (x8 + 1))))) else (spec_Detect.l0 k x0 x6 x7 (wrap64 (x8 + 1))))) else (some (x7, (x7 != 0)))
end
def spec_Detect.f (k : Nat) (l0 : List Int) : Option (Int × Bool) := (spec_Decode.f k 0 l0).bind fun bt339 => (if bt339.2 = true then (spec_Detect.j0 k l0 true) else (if (l0.length : Int) ≥ 3 then (if 0 < (l0.length : Int) then (if (rd l0 0) = 239 then (if 1 < (l0.length : Int) then (if (rd l0 1) = 187 then (if 2 < (l0.length : Int) then (spec_Detect.j0 k l0 ((rd l0 2) == 191)) else (none)) else (spec_Detect.j0 k l0 false)) else (none)) else (spec_Detect.j0 k l0 false)) else (none)) else (spec_Detect.j0 k l0 false)))
theorem spec_Detect.mono_l : ∀ k, (∀ y0 y1, LeO (spec_Detect.j0 k y0 y1) (spec_Detect.j0 (k + 1) y0 y1)) ∧ (∀ y0 y1 y2 y3, LeO (spec_Detect.l0 k y0 y1 y2 y3) (spec_Detect.l0 (k + 1) y0 y1 y2 y3))
 | 0 => ⟨fun _ _ r h => by simp [spec_Detect.j0] at h, fun _ _ _ _ r h => by simp [spec_Detect.l0] at h⟩
 | k + 1 => by
  obtain ⟨ih0, ih1⟩ := spec_Detect.mono_l k
  refine ⟨?_, ?_⟩
  ·intro y0 y1
   unfold spec_Detect.j0
   repeat' first
   | (with_reducible exact ih0 _ _)
   | (with_reducible exact ih1 _ _ _ _)
   | (with_reducible exact spec_Decode.mono _ _ _)
   | (with_reducible exact spec_Score.mono _ _ _)
   | (with_reducible exact LeO.refl _)
   | (with_reducible exact LeO.none _)
   | (with_reducible refine LeO.ite ?_ ?_)
   | (with_reducible refine LeO.bind ?_ (fun _ => ?_))
   | exact ih0 _ _
   | exact ih1 _ _ _ _
   | exact spec_Decode.mono _ _ _
   | exact spec_Score.mono _ _ _
   | exact LeO.none _
   | refine LeO.ite ?_ ?_
   | refine LeO.bind ?_ (fun _ => ?_)
  ·intro y0 y1 y2 y3
   unfold spec_Detect.l0
   repeat' first
   | (with_reducible exact ih0 _ _)
   | (with_reducible exact ih1 _ _ _ _)
   | (with_reducible exact spec_Decode.mono _ _ _)
   | (with_reducible exact spec_Score.mono _ _ _)
   | (with_reducible exact LeO.refl _)
   | (with_reducible exact LeO.none _)
   | (with_reducible refine LeO.ite ?_ ?_)
   | (with_reducible refine LeO.bind ?_ (fun _ => ?_))
   | exact ih0 _ _
   | exact ih1 _ _ _ _
   | exact spec_Decode.mono _ _ _
   | exact spec_Score.mono _ _ _
   | exact LeO.none _
   | refine LeO.ite ?_ ?_
   | refine LeO.bind ?_ (fun _ => ?_)
theorem spec_Detect.mono : ∀ a0 k, LeO (spec_Detect.f k a0) (spec_Detect.f (k + 1) a0) := by
 intro a0 k
 obtain ⟨ih0, ih1⟩ := spec_Detect.mono_l k
 unfold spec_Detect.f
 repeat' first
   | (with_reducible exact ih0 _ _)
   | (with_reducible exact ih1 _ _ _ _)
   | (with_reducible exact spec_Decode.mono _ _ _)
   | (with_reducible exact spec_Score.mono _ _ _)
   | (with_reducible exact LeO.refl _)
   | (with_reducible exact LeO.none _)
   | (with_reducible refine LeO.ite ?_ ?_)
   | (with_reducible refine LeO.bind ?_ (fun _ => ?_))
   | exact ih0 _ _
   | exact ih1 _ _ _ _
   | exact spec_Decode.mono _ _ _
   | exact spec_Score.mono _ _ _
   | exact LeO.none _
   | refine LeO.ite ?_ ?_
   | refine LeO.bind ?_ (fun _ => ?_)
set_option maxHeartbeats 8000000 in
set_option maxRecDepth 100000 in
theorem spec_Detect.calls (k : Nat) (A0 : Option Addr) (c0 : Nat) (l0 : List Int) (r1 : Int) (r2 : Bool) (w : World) (hr0 : Kd.C (Kd.int .u8) w A0 l0.length l0) (hc0 : l0.length ≤ c0) (h : spec_Detect.f k l0 = some (r1, r2)) :
  Calls Tryd.prog 40 #[.slice A0 l0.length c0] w fun e w' => e = .returned (.tuple #[.int .i64 r1, .bool r2]) ∧ Below w.heap.size w w' := by
 have HR0 := Aside0.mk hr0
 have HC0 := Aside0.mk hc0
 clear hr0 hc0
 have HB := Aside0.mk (Below.refl w.heap.size w)
 have H : ((spec_Decode.f k 0 l0).bind fun bt339 => (if bt339.2 = true then (spec_Detect.j0 k l0 true) else (if (l0.length : Int) ≥ 3 then (if 0 < (l0.length : Int) then (if (rd l0 0) = 239 then (if 1 < (l0.length : Int) then (if (rd l0 1) = 187 then (if 2 < (l0.length : Int) then (spec_Detect.j0 k l0 ((rd l0 2) == 191)) else (none)) else (spec_Detect.j0 k l0 false)) else (none)) else (spec_Detect.j0 k l0 false)) else (none)) else (spec_Detect.j0 k l0 false)))) = some (r1, r2) := h
 clear h
 replace H := Option.bind_eq_some_iff.mp H
 obtain ⟨⟨t339, t340⟩, A20, H⟩ := H
 try dsimp only at H
 have A2 := Aside0.mk A20
 clear A20
 have HC3 := Aside0.mk H
 clear H
 go_enter Tryd.func40, Tryd.ntmps40
 go_upto_region 2 with (first | ((with_reducible refine gate_callee (f := 58) rfl ?_); refine goesL_ (some 13) rfl rfl Tryd.func58 (by kernel_rfl) rfl #[.int .i64 0, .slice A0 l0.length c0] rfl ka_ ?_; (with_reducible refine (spec_Decode.calls k 0 _ _ l0 t339 t340 _ ?side1 ?side2 A2.out).mono ?_); (case side1 => repeat (first | exact HR0.out | (with_reducible refine Kd.C_alloc ?_ _) | (with_reducible refine Kd.C_drewN ?_ _) | (with_reducible refine Kd.C_drew ?_))); (case side2 => exact HC0.out); rintro e w4 ⟨rfl, hb⟩; refine ⟨_, rfl, ?_⟩; have n0_ := Aside0.mk (below_step hb_ hb); clear HB; have HB := n0_; clear n0_; try clear hb))
 (try simp only [Act.put, List.setIfInBounds_toArray, List.set_cons_zero, List.set_cons_succ])
 go_cut [39] (fun v39 wc => ∃ (kq : Nat) (x39_2 : Bool), v39 = .bool x39_2 ∧ Aside0 (spec_Detect.j0 kq l0 x39_2 = some (r1, r2)) ∧ Aside0 (kq ≤ k) ∧ Aside0 (Below w.heap.size w wc))
 case first =>
  have H := HC3.out
  clear HC3
  by_cases c5 : t340 = true
  ·subst c5
   rw [if_pos rfl] at H
   have H' := Aside0.mk H
   clear H
   go_wp2
   go_meet
   case rel => exact ⟨_, (true), (by first | rfl | (simp; done) | (simp [*]; done)), H', ⟨by first | omega | exact Nat.le_refl _⟩, ⟨by repeat (first | (with_reducible first | exact HB.out | apply below_alloc | apply pw_below_drewN | apply below_drew1) | exact HB.out)⟩⟩
  ·replace c5 := Bool.eq_false_iff.mpr c5
   subst c5
   rw [if_neg (show ¬ (false = true) by decide)] at H
   by_cases c6 : (l0.length : Int) ≥ 3
   ·rw [if_pos c6] at H
    have c6b0 : decide (3 ≤ (l0.length : Int)) = true := decide_eq_true c6
    have c6b1 : decide (3 ≤ l0.length) = true := decide_eq_true (by omega)
    clear c6
    (first | rw [c6b0] | (simp only [i64_w, i32_w]; rw [c6b0]) | skip)
    by_cases c7 : 0 < (l0.length : Int)
    ·rw [if_pos c7] at H
     have c7b0 : decide (0 < (l0.length : Int)) = true := decide_eq_true c7
     have c7b1 : decide (0 < l0.length) = true := decide_eq_true (by omega)
     clear c7
     by_cases c8 : (rd l0 0) = 239
     ·rw [if_pos c8] at H
      have c8b0 : ((rd l0 0) == 239) = true := beq_iff_eq.mpr c8
      have c8b1 : ((rd l0 0) != 239) = false := bne_eq_false_iff_eq.mpr c8
      clear c8
      by_cases c9 : 1 < (l0.length : Int)
      ·rw [if_pos c9] at H
       have c9b0 : decide (1 < (l0.length : Int)) = true := decide_eq_true c9
       have c9b1 : decide (1 < l0.length) = true := decide_eq_true (by omega)
       clear c9
       by_cases c10 : (rd l0 1) = 187
       ·rw [if_pos c10] at H
        have c10b0 : ((rd l0 1) == 187) = true := beq_iff_eq.mpr c10
        have c10b1 : ((rd l0 1) != 187) = false := bne_eq_false_iff_eq.mpr c10
        clear c10
        by_cases c11 : 2 < (l0.length : Int)
        ·rw [if_pos c11] at H
         have c11b0 : decide (2 < (l0.length : Int)) = true := decide_eq_true c11
         have c11b1 : decide (2 < l0.length) = true := decide_eq_true (by omega)
         clear c11
         have H' := Aside0.mk H
         clear H
         have p341 : 0 ≤ (0 : Int) := (by omega)
         have q341 : 0 < (l0.length : Int) := of_decide_eq_true as_
         obtain ⟨ad341, e341, hx341_0⟩ := Kd.at_int HR0.out 0 p341 q341
         cases e341
         have qi341 : (0 < l0.length) = True := eq_true (by omega)
         (try rw [show ((0 : Int)).toNat = 0 from rfl] at hx341_0)
         (try rw [Addr.add_zero'] at hx341_0)
         replace hx341_0 := (HB.out.cell (World.block_lt_of_cell? w _ hx341_0)).trans hx341_0
         replace p341 := eq_true p341
         replace q341 := eq_true q341
         have p342 : 0 ≤ (1 : Int) := (by omega)
         have q342 : 1 < (l0.length : Int) := of_decide_eq_true as_
         obtain ⟨ad342, e342, hx342_0⟩ := Kd.at_int HR0.out 1 p342 q342
         obtain rfl : ad341 = ad342 := (by injection e342)
         (try simp only [show (1 : Int).toNat = 1 from rfl, Nat.reduceMul, Nat.reduceEqDiff, Go.Addr.add, ↓reduceIte] at hx342_0)
         have qi342 : (1 < l0.length) = True := eq_true (by omega)
         (try rw [show ((1 : Int)).toNat = 1 from rfl] at hx342_0)
         replace hx342_0 := (HB.out.cell (World.block_lt_of_cell? w _ hx342_0)).trans hx342_0
         replace p342 := eq_true p342
         replace q342 := eq_true q342
         have p343 : 0 ≤ (2 : Int) := (by omega)
         have q343 : 2 < (l0.length : Int) := of_decide_eq_true as_
         obtain ⟨ad343, e343, hx343_0⟩ := Kd.at_int HR0.out 2 p343 q343
         obtain rfl : ad341 = ad343 := (by injection e343)
         (try simp only [show (2 : Int).toNat = 2 from rfl, Nat.reduceMul, Nat.reduceEqDiff, Go.Addr.add, ↓reduceIte] at hx343_0)
         have qi343 : (2 < l0.length) = True := eq_true (by omega)
         (try rw [show ((2 : Int)).toNat = 2 from rfl] at hx343_0)
         replace hx343_0 := (HB.out.cell (World.block_lt_of_cell? w _ hx343_0)).trans hx343_0
         replace p343 := eq_true p343
         replace q343 := eq_true q343
         go_wp2
         go_meet
         case rel => exact ⟨_, (((rd l0 2) == 191)), (by first | rfl | (simp; done) | (simp [*]; done)), H', ⟨by first | omega | exact Nat.le_refl _⟩, ⟨by repeat (first | (with_reducible first | exact HB.out | apply below_alloc | apply pw_below_drewN | apply below_drew1) | exact HB.out)⟩⟩
        ·rw [if_neg c11] at H
         exact absurd H (by simp)
       ·rw [if_neg c10] at H
        have c10b0 : ((rd l0 1) == 187) = false := beq_eq_false_iff_ne.mpr c10
        have c10b1 : ((rd l0 1) != 187) = true := bne_iff_ne.mpr c10
        have H' := Aside0.mk H
        clear H
        have p341 : 0 ≤ (0 : Int) := (by omega)
        have q341 : 0 < (l0.length : Int) := of_decide_eq_true as_
        obtain ⟨ad341, e341, hx341_0⟩ := Kd.at_int HR0.out 0 p341 q341
        cases e341
        have qi341 : (0 < l0.length) = True := eq_true (by omega)
        (try rw [show ((0 : Int)).toNat = 0 from rfl] at hx341_0)
        (try rw [Addr.add_zero'] at hx341_0)
        replace hx341_0 := (HB.out.cell (World.block_lt_of_cell? w _ hx341_0)).trans hx341_0
        replace p341 := eq_true p341
        replace q341 := eq_true q341
        have p342 : 0 ≤ (1 : Int) := (by omega)
        have q342 : 1 < (l0.length : Int) := of_decide_eq_true as_
        obtain ⟨ad342, e342, hx342_0⟩ := Kd.at_int HR0.out 1 p342 q342
        obtain rfl : ad341 = ad342 := (by injection e342)
        (try simp only [show (1 : Int).toNat = 1 from rfl, Nat.reduceMul, Nat.reduceEqDiff, Go.Addr.add, ↓reduceIte] at hx342_0)
        have qi342 : (1 < l0.length) = True := eq_true (by omega)
        (try rw [show ((1 : Int)).toNat = 1 from rfl] at hx342_0)
        replace hx342_0 := (HB.out.cell (World.block_lt_of_cell? w _ hx342_0)).trans hx342_0
        replace p342 := eq_true p342
        replace q342 := eq_true q342
        go_wp2
        go_meet
        case rel => exact ⟨_, (false), (by first | rfl | (simp; done) | (simp [*]; done)), H', ⟨by first | omega | exact Nat.le_refl _⟩, ⟨by repeat (first | (with_reducible first | exact HB.out | apply below_alloc | apply pw_below_drewN | apply below_drew1) | exact HB.out)⟩⟩
      ·rw [if_neg c9] at H
       exact absurd H (by simp)
     ·rw [if_neg c8] at H
      have c8b0 : ((rd l0 0) == 239) = false := beq_eq_false_iff_ne.mpr c8
      have c8b1 : ((rd l0 0) != 239) = true := bne_iff_ne.mpr c8
      have H' := Aside0.mk H
      clear H
      have p341 : 0 ≤ (0 : Int) := (by omega)
      have q341 : 0 < (l0.length : Int) := of_decide_eq_true as_
      obtain ⟨ad341, e341, hx341_0⟩ := Kd.at_int HR0.out 0 p341 q341
      cases e341
      have qi341 : (0 < l0.length) = True := eq_true (by omega)
      (try rw [show ((0 : Int)).toNat = 0 from rfl] at hx341_0)
      (try rw [Addr.add_zero'] at hx341_0)
      replace hx341_0 := (HB.out.cell (World.block_lt_of_cell? w _ hx341_0)).trans hx341_0
      replace p341 := eq_true p341
      replace q341 := eq_true q341
      go_wp2
      go_meet
      case rel => exact ⟨_, (false), (by first | rfl | (simp; done) | (simp [*]; done)), H', ⟨by first | omega | exact Nat.le_refl _⟩, ⟨by repeat (first | (with_reducible first | exact HB.out | apply below_alloc | apply pw_below_drewN | apply below_drew1) | exact HB.out)⟩⟩
    ·rw [if_neg c7] at H
     exact absurd H (by simp)
   ·rw [if_neg c6] at H
    have c6b0 : decide (3 ≤ (l0.length : Int)) = false := decide_eq_false c6
    have c6b1 : decide (3 ≤ l0.length) = false := decide_eq_false (by omega)
    clear c6
    (first | rw [c6b0] | (simp only [i64_w, i32_w]; rw [c6b0]) | skip)
    have H' := Aside0.mk H
    clear H
    go_wp2
    go_meet
    case rel => exact ⟨_, (false), (by first | rfl | (simp; done) | (simp [*]; done)), H', ⟨by first | omega | exact Nat.le_refl _⟩, ⟨by repeat (first | (with_reducible first | exact HB.out | apply below_alloc | apply pw_below_drewN | apply below_drew1) | exact HB.out)⟩⟩
 case rest =>
  clear HC3
  try clear c1
  try clear p2
  try clear p3
  try clear q3
  try clear hx3
  try clear qi3
  try clear c4
  try clear c5
  try clear c6
  try clear c6b0
  try clear c6b1
  try clear c7
  try clear c7b0
  try clear c7b1
  try clear c8
  try clear c8b0
  try clear c8b1
  try clear c9
  try clear c9b0
  try clear c9b1
  try clear c10
  try clear c10b0
  try clear c10b1
  try clear c11
  try clear c11b0
  try clear c11b1
  try clear hx341_0
  try clear hx342_0
  try clear hx343_0
  try clear p341
  try clear p342
  try clear p343
  try clear q341
  try clear q342
  try clear q343
  obtain ⟨kq, x39_2, rfl, HA, HJ2, HB⟩ := hcut
  cases kq with
  | zero => exact absurd HA.out (by simp [spec_Detect.j0])
  | succ kj2 =>
   have H := HA.out
   clear HA
   simp only [spec_Detect.j0] at H
   by_cases c12 : x39_2 = true
   ·subst c12
    rw [if_pos rfl] at H
    simp only [Option.some.injEq, Prod.mk.injEq] at H
    obtain ⟨rfl, rfl⟩ := H
    go_wp2
    go_ret2
    exact ⟨rf_, hb_⟩
   ·replace c12 := Bool.eq_false_iff.mpr c12
    subst c12
    rw [if_neg (show ¬ (false = true) by decide)] at H
    have H' := Aside0.mk H
    clear H
    go_wp2
    go_loopg [6, 7, 8] kj2 (fun kq v6 v7 v8 w' => ∃ (x6_2 : Int) (x7_2 : Int) (x8_2 : Int), v6 = .int .i64 x6_2 ∧ v7 = .int .i64 x7_2 ∧ v8 = .int .i64 x8_2 ∧ Aside0 (spec_Detect.l0 kq l0 x6_2 x7_2 x8_2 = some (r1, r2)) ∧ Aside0 (kq ≤ kj2) ∧ Aside0 (Below w.heap.size w w'))
    case atStart => exact ⟨(0), (0), (1), (by first | rfl | (simp; done) | (simp [*]; done)), (by first | rfl | (simp; done) | (simp [*]; done)), (by first | rfl | (simp; done) | (simp [*]; done)), H', ⟨Nat.le_refl _⟩, ⟨by repeat (first | (with_reducible first | exact HB.out | apply below_alloc | apply pw_below_drewN | apply below_drew1) | exact HB.out)⟩⟩
    case round =>
     clear H'
     try clear c1
     try clear p2
     try clear p3
     try clear q3
     try clear hx3
     try clear qi3
     try clear c4
     try clear c5
     try clear c6
     try clear c6b0
     try clear c6b1
     try clear c7
     try clear c7b0
     try clear c7b1
     try clear c8
     try clear c8b0
     try clear c8b1
     try clear c9
     try clear c9b0
     try clear c9b1
     try clear c10
     try clear c10b0
     try clear c10b1
     try clear c11
     try clear c11b0
     try clear c11b1
     try clear c12
     try clear hx341_0
     try clear hx342_0
     try clear hx343_0
     try clear p2
     try clear p3
     try clear p341
     try clear p342
     try clear p343
     try clear q3
     try clear q341
     try clear q342
     try clear q343
     obtain ⟨x6_2, x7_2, x8_2, rfl, rfl, rfl, HA, HK2, HB⟩ := hrel
     cases gk with
     | zero => exact absurd HA.out (by simp [spec_Detect.l0])
     | succ k2 =>
      have H := HA.out
      clear HA
      simp only [spec_Detect.l0] at H
      by_cases c13 : x8_2 ≤ 5
      ·rw [if_pos c13] at H
       have c13b0 : decide (x8_2 ≤ 5) = true := decide_eq_true c13
       clear c13
       replace H := Option.bind_eq_some_iff.mp H
       obtain ⟨⟨t344, t345⟩, A140, H⟩ := H
       try dsimp only at H
       have A14 := Aside0.mk A140
       clear A140
       by_cases c15 : t345 = true
       ·subst c15
        rw [if_pos rfl] at H
        by_cases c16 : x7_2 = 0
        ·rw [if_pos c16] at H
         have c16b0 : (x7_2 == 0) = true := beq_iff_eq.mpr c16
         have c16b1 : (x7_2 != 0) = false := bne_eq_false_iff_eq.mpr c16
         clear c16
         have H' := Aside0.mk H
         clear H
         go_wp2_with (first | ((with_reducible refine gate_callee (f := 30) rfl ?_); refine goesL_ (some 47) rfl rfl Tryd.func30 (by kernel_rfl) rfl #[.int .i64 x8_2, .slice A0 l0.length c0] rfl ka_ ?_; (with_reducible refine (spec_Score.calls k2 x8_2 _ _ l0 t344 true _ ?side1 ?side2 A14.out).mono ?_); (case side1 => repeat (first | exact (Kd.C_below HR0.out HB.out) | (with_reducible refine Kd.C_alloc ?_ _) | (with_reducible refine Kd.C_drewN ?_ _) | (with_reducible refine Kd.C_drew ?_))); (case side2 => exact HC0.out); rintro e w17 ⟨rfl, hb⟩; refine ⟨_, rfl, ?_⟩; have n0_ := Aside0.mk (below_step hb_ hb); clear HB; have HB := n0_; clear n0_; try clear hb))
         go_roundg k2
         case measure => have := HJ2.out; have := HK2.out; omega
         case rel => exact ⟨(t344), (x8_2), (wrap64 (x8_2 + 1)), (by first | rfl | (simp; done) | (simp [*]; done)), (by first | rfl | (simp; done) | (simp [*]; done)), (by first | rfl | (simp; done) | (simp [*]; done)), H', ⟨by have := HJ2.out; have := HK2.out; omega⟩, ⟨by repeat (first | (with_reducible first | exact HB.out | apply below_alloc | apply pw_below_drewN | apply below_drew1) | exact HB.out)⟩⟩
        ·rw [if_neg c16] at H
         have c16b0 : (x7_2 == 0) = false := beq_eq_false_iff_ne.mpr c16
         have c16b1 : (x7_2 != 0) = true := bne_iff_ne.mpr c16
         by_cases c18 : t344 > x6_2
         ·rw [if_pos c18] at H
          have c18b0 : decide (x6_2 < t344) = true := decide_eq_true c18
          clear c18
          have H' := Aside0.mk H
          clear H
          go_wp2_with (first | ((with_reducible refine gate_callee (f := 30) rfl ?_); refine goesL_ (some 47) rfl rfl Tryd.func30 (by kernel_rfl) rfl #[.int .i64 x8_2, .slice A0 l0.length c0] rfl ka_ ?_; (with_reducible refine (spec_Score.calls k2 x8_2 _ _ l0 t344 true _ ?side1 ?side2 A14.out).mono ?_); (case side1 => repeat (first | exact (Kd.C_below HR0.out HB.out) | (with_reducible refine Kd.C_alloc ?_ _) | (with_reducible refine Kd.C_drewN ?_ _) | (with_reducible refine Kd.C_drew ?_))); (case side2 => exact HC0.out); rintro e w19 ⟨rfl, hb⟩; refine ⟨_, rfl, ?_⟩; have n0_ := Aside0.mk (below_step hb_ hb); clear HB; have HB := n0_; clear n0_; try clear hb))
          go_roundg k2
          case measure => have := HJ2.out; have := HK2.out; omega
          case rel => exact ⟨(t344), (x8_2), (wrap64 (x8_2 + 1)), (by first | rfl | (simp; done) | (simp [*]; done)), (by first | rfl | (simp; done) | (simp [*]; done)), (by first | rfl | (simp; done) | (simp [*]; done)), H', ⟨by have := HJ2.out; have := HK2.out; omega⟩, ⟨by repeat (first | (with_reducible first | exact HB.out | apply below_alloc | apply pw_below_drewN | apply below_drew1) | exact HB.out)⟩⟩
         ·rw [if_neg c18] at H
          have c18b0 : decide (x6_2 < t344) = false := decide_eq_false c18
          clear c18
          have H' := Aside0.mk H
          clear H
          go_wp2_with (first | ((with_reducible refine gate_callee (f := 30) rfl ?_); refine goesL_ (some 47) rfl rfl Tryd.func30 (by kernel_rfl) rfl #[.int .i64 x8_2, .slice A0 l0.length c0] rfl ka_ ?_; (with_reducible refine (spec_Score.calls k2 x8_2 _ _ l0 t344 true _ ?side1 ?side2 A14.out).mono ?_); (case side1 => repeat (first | exact (Kd.C_below HR0.out HB.out) | (with_reducible refine Kd.C_alloc ?_ _) | (with_reducible refine Kd.C_drewN ?_ _) | (with_reducible refine Kd.C_drew ?_))); (case side2 => exact HC0.out); rintro e w20 ⟨rfl, hb⟩; refine ⟨_, rfl, ?_⟩; have n0_ := Aside0.mk (below_step hb_ hb); clear HB; have HB := n0_; clear n0_; try clear hb))
          go_roundg k2
          case measure => have := HJ2.out; have := HK2.out; omega
          case rel => exact ⟨(x6_2), (x7_2), (wrap64 (x8_2 + 1)), (by first | rfl | (simp; done) | (simp [*]; done)), (by first | rfl | (simp; done) | (simp [*]; done)), (by first | rfl | (simp; done) | (simp [*]; done)), H', ⟨by have := HJ2.out; have := HK2.out; omega⟩, ⟨by repeat (first | (with_reducible first | exact HB.out | apply below_alloc | apply pw_below_drewN | apply below_drew1) | exact HB.out)⟩⟩
       ·replace c15 := Bool.eq_false_iff.mpr c15
        subst c15
        rw [if_neg (show ¬ (false = true) by decide)] at H
        have H' := Aside0.mk H
        clear H
        go_wp2_with (first | ((with_reducible refine gate_callee (f := 30) rfl ?_); refine goesL_ (some 47) rfl rfl Tryd.func30 (by kernel_rfl) rfl #[.int .i64 x8_2, .slice A0 l0.length c0] rfl ka_ ?_; (with_reducible refine (spec_Score.calls k2 x8_2 _ _ l0 t344 false _ ?side1 ?side2 A14.out).mono ?_); (case side1 => repeat (first | exact (Kd.C_below HR0.out HB.out) | (with_reducible refine Kd.C_alloc ?_ _) | (with_reducible refine Kd.C_drewN ?_ _) | (with_reducible refine Kd.C_drew ?_))); (case side2 => exact HC0.out); rintro e w21 ⟨rfl, hb⟩; refine ⟨_, rfl, ?_⟩; have n0_ := Aside0.mk (below_step hb_ hb); clear HB; have HB := n0_; clear n0_; try clear hb))
        go_roundg k2
        case measure => have := HJ2.out; have := HK2.out; omega
        case rel => exact ⟨(x6_2), (x7_2), (wrap64 (x8_2 + 1)), (by first | rfl | (simp; done) | (simp [*]; done)), (by first | rfl | (simp; done) | (simp [*]; done)), (by first | rfl | (simp; done) | (simp [*]; done)), H', ⟨by have := HJ2.out; have := HK2.out; omega⟩, ⟨by repeat (first | (with_reducible first | exact HB.out | apply below_alloc | apply pw_below_drewN | apply below_drew1) | exact HB.out)⟩⟩
      ·rw [if_neg c13] at H
       have c13b0 : decide (x8_2 ≤ 5) = false := decide_eq_false c13
       clear c13
       simp only [Option.some.injEq, Prod.mk.injEq] at H
       obtain ⟨rfl, rfl⟩ := H
       go_wp2
       go_ret2
       exact ⟨rf_, hb_⟩

/-! ### impl_Detect: function 41 -/
mutual
def impl_Detect.j0 : Nat → List Int → Bool → Option (Int × Bool)
 | 0, _, _ => none
 | k + 1, x0, x39 => if x39 = true then (some (0, true)) else (impl_Detect.l0 k x0 0 0 1)
def impl_Detect.l0 : Nat → List Int → Int → Int → Int → Option (Int × Bool)
 | 0, _, _, _, _ => none
 | k + 1, x0, x6, x7, x8 => if x8 ≤ 5 then ((impl_Score.f k x8 x0).bind fun bt351 => (if bt351.2 = true then (if x6 = 0 then (impl_Detect.l0 k x0 x8 bt351.1 (wrap64 (x8 + 1))) else (if bt351.1 > x7 then (impl_Detect.l0 k x0 x8 bt351.1 (wrap64 (x8 + 1))) else (impl_Detect.l0 k x0 x6 x7 (wrap64 (x8 + 1))))) else (impl_Detect.l0 k x0 x6 x7 (wrap64 (x8 + 1))))) else (some (x6, (x6 != 0)))
end
def impl_Detect.f (k : Nat) (l0 : List Int) : Option (Int × Bool) := (impl_Decode.f k 0 l0).bind fun bt346 => (if bt346.2 = true then (impl_Detect.j0 k l0 true) else (if (l0.length : Int) ≥ 3 then (if 0 < (l0.length : Int) then (if (rd l0 0) = 239 then (if 1 < (l0.length : Int) then (if (rd l0 1) = 187 then (if 2 < (l0.length : Int) then (impl_Detect.j0 k l0 ((rd l0 2) == 191)) else (none)) else (impl_Detect.j0 k l0 false)) else (none)) else (impl_Detect.j0 k l0 false)) else (none)) else (impl_Detect.j0 k l0 false)))
theorem impl_Detect.mono_l : ∀ k, (∀ y0 y1, LeO (impl_Detect.j0 k y0 y1) (impl_Detect.j0 (k + 1) y0 y1)) ∧ (∀ y0 y1 y2 y3, LeO (impl_Detect.l0 k y0 y1 y2 y3) (impl_Detect.l0 (k + 1) y0 y1 y2 y3))
 | 0 => ⟨fun _ _ r h => by simp [impl_Detect.j0] at h, fun _ _ _ _ r h => by simp [impl_Detect.l0] at h⟩
 | k + 1 => by
  obtain ⟨ih0, ih1⟩ := impl_Detect.mono_l k
  refine ⟨?_, ?_⟩
  ·intro y0 y1
   unfold impl_Detect.j0
   repeat' first
   | (with_reducible exact ih0 _ _)
   | (with_reducible exact ih1 _ _ _ _)
   | (with_reducible exact impl_Decode.mono _ _ _)
   | (with_reducible exact impl_Score.mono _ _ _)
   | (with_reducible exact LeO.refl _)
   | (with_reducible exact LeO.none _)
   | (with_reducible refine LeO.ite ?_ ?_)
   | (with_reducible refine LeO.bind ?_ (fun _ => ?_))
   | exact ih0 _ _
   | exact ih1 _ _ _ _
   | exact impl_Decode.mono _ _ _
   | exact impl_Score.mono _ _ _
   | exact LeO.none _
   | refine LeO.ite ?_ ?_
   | refine LeO.bind ?_ (fun _ => ?_)
  ·intro y0 y1 y2 y3
   unfold impl_Detect.l0
   repeat' first
   | (with_reducible exact ih0 _ _)
   | (with_reducible exact ih1 _ _ _ _)
   | (with_reducible exact impl_Decode.mono _ _ _)
   | (with_reducible exact impl_Score.mono _ _ _)
   | (with_reducible exact LeO.refl _)
   | (with_reducible exact LeO.none _)
   | (with_reducible refine LeO.ite ?_ ?_)
   | (with_reducible refine LeO.bind ?_ (fun _ => ?_))
   | exact ih0 _ _
   | exact ih1 _ _ _ _
   | exact impl_Decode.mono _ _ _
   | exact impl_Score.mono _ _ _
   | exact LeO.none _
   | refine LeO.ite ?_ ?_
   | refine LeO.bind ?_ (fun _ => ?_)
theorem impl_Detect.mono : ∀ a0 k, LeO (impl_Detect.f k a0) (impl_Detect.f (k + 1) a0) := by
 intro a0 k
 obtain ⟨ih0, ih1⟩ := impl_Detect.mono_l k
 unfold impl_Detect.f
 repeat' first
   | (with_reducible exact ih0 _ _)
   | (with_reducible exact ih1 _ _ _ _)
   | (with_reducible exact impl_Decode.mono _ _ _)
   | (with_reducible exact impl_Score.mono _ _ _)
   | (with_reducible exact LeO.refl _)
   | (with_reducible exact LeO.none _)
   | (with_reducible refine LeO.ite ?_ ?_)
   | (with_reducible refine LeO.bind ?_ (fun _ => ?_))
   | exact ih0 _ _
   | exact ih1 _ _ _ _
   | exact impl_Decode.mono _ _ _
   | exact impl_Score.mono _ _ _
   | exact LeO.none _
   | refine LeO.ite ?_ ?_
   | refine LeO.bind ?_ (fun _ => ?_)
set_option maxHeartbeats 8000000 in
set_option maxRecDepth 100000 in
theorem impl_Detect.calls (k : Nat) (A0 : Option Addr) (c0 : Nat) (l0 : List Int) (r1 : Int) (r2 : Bool) (w : World) (hT : TabsOk w) (hr0 : Kd.C (Kd.int .u8) w A0 l0.length l0) (hc0 : l0.length ≤ c0) (h : impl_Detect.f k l0 = some (r1, r2)) :
  Calls Tryd.prog 41 #[.slice A0 l0.length c0] w fun e w' => e = .returned (.tuple #[.int .i64 r1, .bool r2]) ∧ Below w.heap.size w w' := by
 have HT := Aside0.mk hT
 clear hT
 have HR0 := Aside0.mk hr0
 have HC0 := Aside0.mk hc0
 clear hr0 hc0
 have HB := Aside0.mk (Below.refl w.heap.size w)
 have H : ((impl_Decode.f k 0 l0).bind fun bt346 => (if bt346.2 = true then (impl_Detect.j0 k l0 true) else (if (l0.length : Int) ≥ 3 then (if 0 < (l0.length : Int) then (if (rd l0 0) = 239 then (if 1 < (l0.length : Int) then (if (rd l0 1) = 187 then (if 2 < (l0.length : Int) then (impl_Detect.j0 k l0 ((rd l0 2) == 191)) else (none)) else (impl_Detect.j0 k l0 false)) else (none)) else (impl_Detect.j0 k l0 false)) else (none)) else (impl_Detect.j0 k l0 false)))) = some (r1, r2) := h
 clear h
 replace H := Option.bind_eq_some_iff.mp H
 obtain ⟨⟨t346, t347⟩, A20, H⟩ := H
 try dsimp only at H
 have A2 := Aside0.mk A20
 clear A20
 have HC3 := Aside0.mk H
 clear H
 go_enter Tryd.func41, Tryd.ntmps41
 go_upto_region 2 with (first | ((with_reducible refine gate_callee (f := 44) rfl ?_); refine goesL_ (some 13) rfl rfl Tryd.func44 (by kernel_rfl) rfl #[.int .i64 0, .slice A0 l0.length c0] rfl ka_ ?_; (with_reducible refine (impl_Decode.calls (hT := ?sideT) k 0 _ _ l0 t346 t347 _ ?side1 ?side2 A2.out).mono ?_); (case sideT => first | exact HT.out | exact HT.out.below hb_ | exact HT.out.drawn (by repeat (first | exact Drawn0.refl _ | apply Drawn0.step | assumption))); (case side1 => repeat (first | exact HR0.out | (with_reducible refine Kd.C_alloc ?_ _) | (with_reducible refine Kd.C_drewN ?_ _) | (with_reducible refine Kd.C_drew ?_))); (case side2 => exact HC0.out); rintro e w4 ⟨rfl, hb⟩; refine ⟨_, rfl, ?_⟩; have n0_ := Aside0.mk (below_step hb_ hb); clear HB; have HB := n0_; clear n0_; try clear hb))
 (try simp only [Act.put, List.setIfInBounds_toArray, List.set_cons_zero, List.set_cons_succ])
 go_cut [39] (fun v39 wc => ∃ (kq : Nat) (x39_2 : Bool), v39 = .bool x39_2 ∧ Aside0 (impl_Detect.j0 kq l0 x39_2 = some (r1, r2)) ∧ Aside0 (kq ≤ k) ∧ Aside0 (Below w.heap.size w wc))
 case first =>
  have H := HC3.out
  clear HC3
  by_cases c5 : t347 = true
  ·subst c5
   rw [if_pos rfl] at H
   have H' := Aside0.mk H
   clear H
   go_wp2
   go_meet
   case rel => exact ⟨_, (true), (by first | rfl | (simp; done) | (simp [*]; done)), H', ⟨by first | omega | exact Nat.le_refl _⟩, ⟨by repeat (first | (with_reducible first | exact HB.out | apply below_alloc | apply pw_below_drewN | apply below_drew1) | exact HB.out)⟩⟩
  ·replace c5 := Bool.eq_false_iff.mpr c5
   subst c5
   rw [if_neg (show ¬ (false = true) by decide)] at H
   by_cases c6 : (l0.length : Int) ≥ 3
   ·rw [if_pos c6] at H
    have c6b0 : decide (3 ≤ (l0.length : Int)) = true := decide_eq_true c6
    have c6b1 : decide (3 ≤ l0.length) = true := decide_eq_true (by omega)
    clear c6
    (first | rw [c6b0] | (simp only [i64_w, i32_w]; rw [c6b0]) | skip)
    by_cases c7 : 0 < (l0.length : Int)
    ·rw [if_pos c7] at H
     have c7b0 : decide (0 < (l0.length : Int)) = true := decide_eq_true c7
     have c7b1 : decide (0 < l0.length) = true := decide_eq_true (by omega)
     clear c7
     by_cases c8 : (rd l0 0) = 239
     ·rw [if_pos c8] at H
      have c8b0 : ((rd l0 0) == 239) = true := beq_iff_eq.mpr c8
      have c8b1 : ((rd l0 0) != 239) = false := bne_eq_false_iff_eq.mpr c8
      clear c8
      by_cases c9 : 1 < (l0.length : Int)
      ·rw [if_pos c9] at H
       have c9b0 : decide (1 < (l0.length : Int)) = true := decide_eq_true c9
       have c9b1 : decide (1 < l0.length) = true := decide_eq_true (by omega)
       clear c9
       by_cases c10 : (rd l0 1) = 187
       ·rw [if_pos c10] at H
        have c10b0 : ((rd l0 1) == 187) = true := beq_iff_eq.mpr c10
        have c10b1 : ((rd l0 1) != 187) = false := bne_eq_false_iff_eq.mpr c10
        clear c10
        by_cases c11 : 2 < (l0.length : Int)
        ·rw [if_pos c11] at H
         have c11b0 : decide (2 < (l0.length : Int)) = true := decide_eq_true c11
         have c11b1 : decide (2 < l0.length) = true := decide_eq_true (by omega)
         clear c11
         have H' := Aside0.mk H
         clear H
         have p348 : 0 ≤ (0 : Int) := (by omega)
         have q348 : 0 < (l0.length : Int) := of_decide_eq_true as_
         obtain ⟨ad348, e348, hx348_0⟩ := Kd.at_int HR0.out 0 p348 q348
         cases e348
         have qi348 : (0 < l0.length) = True := eq_true (by omega)
         (try rw [show ((0 : Int)).toNat = 0 from rfl] at hx348_0)
         (try rw [Addr.add_zero'] at hx348_0)
         replace hx348_0 := (HB.out.cell (World.block_lt_of_cell? w _ hx348_0)).trans hx348_0
         replace p348 := eq_true p348
         replace q348 := eq_true q348
         have p349 : 0 ≤ (1 : Int) := (by omega)
         have q349 : 1 < (l0.length : Int) := of_decide_eq_true as_
         obtain ⟨ad349, e349, hx349_0⟩ := Kd.at_int HR0.out 1 p349 q349
         obtain rfl : ad348 = ad349 := (by injection e349)
         (try simp only [show (1 : Int).toNat = 1 from rfl, Nat.reduceMul, Nat.reduceEqDiff, Go.Addr.add, ↓reduceIte] at hx349_0)
         have qi349 : (1 < l0.length) = True := eq_true (by omega)
         (try rw [show ((1 : Int)).toNat = 1 from rfl] at hx349_0)
         replace hx349_0 := (HB.out.cell (World.block_lt_of_cell? w _ hx349_0)).trans hx349_0
         replace p349 := eq_true p349
         replace q349 := eq_true q349
         have p350 : 0 ≤ (2 : Int) := (by omega)
         have q350 : 2 < (l0.length : Int) := of_decide_eq_true as_
         obtain ⟨ad350, e350, hx350_0⟩ := Kd.at_int HR0.out 2 p350 q350
         obtain rfl : ad348 = ad350 := (by injection e350)
         (try simp only [show (2 : Int).toNat = 2 from rfl, Nat.reduceMul, Nat.reduceEqDiff, Go.Addr.add, ↓reduceIte] at hx350_0)
         have qi350 : (2 < l0.length) = True := eq_true (by omega)
         (try rw [show ((2 : Int)).toNat = 2 from rfl] at hx350_0)
         replace hx350_0 := (HB.out.cell (World.block_lt_of_cell? w _ hx350_0)).trans hx350_0
         replace p350 := eq_true p350
         replace q350 := eq_true q350
         go_wp2
         go_meet
         case rel => exact ⟨_, (((rd l0 2) == 191)), (by first | rfl | (simp; done) | (simp [*]; done)), H', ⟨by first | omega | exact Nat.le_refl _⟩, ⟨by repeat (first | (with_reducible first | exact HB.out | apply below_alloc | apply pw_below_drewN | apply below_drew1) | exact HB.out)⟩⟩
        ·rw [if_neg c11] at H
         exact absurd H (by simp)
       ·rw [if_neg c10] at H
        have c10b0 : ((rd l0 1) == 187) = false := beq_eq_false_iff_ne.mpr c10
        have c10b1 : ((rd l0 1) != 187) = true := bne_iff_ne.mpr c10
        have H' := Aside0.mk H
        clear H
        have p348 : 0 ≤ (0 : Int) := (by omega)
        have q348 : 0 < (l0.length : Int) := of_decide_eq_true as_
        obtain ⟨ad348, e348, hx348_0⟩ := Kd.at_int HR0.out 0 p348 q348
        cases e348
        have qi348 : (0 < l0.length) = True := eq_true (by omega)
        (try rw [show ((0 : Int)).toNat = 0 from rfl] at hx348_0)
        (try rw [Addr.add_zero'] at hx348_0)
        replace hx348_0 := (HB.out.cell (World.block_lt_of_cell? w _ hx348_0)).trans hx348_0
        replace p348 := eq_true p348
        replace q348 := eq_true q348
        have p349 : 0 ≤ (1 : Int) := (by omega)
        have q349 : 1 < (l0.length : Int) := of_decide_eq_true as_
        obtain ⟨ad349, e349, hx349_0⟩ := Kd.at_int HR0.out 1 p349 q349
        obtain rfl : ad348 = ad349 := (by injection e349)
        (try simp only [show (1 : Int).toNat = 1 from rfl, Nat.reduceMul, Nat.reduceEqDiff, Go.Addr.add, ↓reduceIte] at hx349_0)
        have qi349 : (1 < l0.length) = True := eq_true (by omega)
        (try rw [show ((1 : Int)).toNat = 1 from rfl] at hx349_0)
        replace hx349_0 := (HB.out.cell (World.block_lt_of_cell? w _ hx349_0)).trans hx349_0
        replace p349 := eq_true p349
        replace q349 := eq_true q349
        go_wp2
        go_meet
        case rel => exact ⟨_, (false), (by first | rfl | (simp; done) | (simp [*]; done)), H', ⟨by first | omega | exact Nat.le_refl _⟩, ⟨by repeat (first | (with_reducible first | exact HB.out | apply below_alloc | apply pw_below_drewN | apply below_drew1) | exact HB.out)⟩⟩
      ·rw [if_neg c9] at H
       exact absurd H (by simp)
     ·rw [if_neg c8] at H
      have c8b0 : ((rd l0 0) == 239) = false := beq_eq_false_iff_ne.mpr c8
      have c8b1 : ((rd l0 0) != 239) = true := bne_iff_ne.mpr c8
      have H' := Aside0.mk H
      clear H
      have p348 : 0 ≤ (0 : Int) := (by omega)
      have q348 : 0 < (l0.length : Int) := of_decide_eq_true as_
      obtain ⟨ad348, e348, hx348_0⟩ := Kd.at_int HR0.out 0 p348 q348
      cases e348
      have qi348 : (0 < l0.length) = True := eq_true (by omega)
      (try rw [show ((0 : Int)).toNat = 0 from rfl] at hx348_0)
      (try rw [Addr.add_zero'] at hx348_0)
      replace hx348_0 := (HB.out.cell (World.block_lt_of_cell? w _ hx348_0)).trans hx348_0
      replace p348 := eq_true p348
      replace q348 := eq_true q348
      go_wp2
      go_meet
      case rel => exact ⟨_, (false), (by first | rfl | (simp; done) | (simp [*]; done)), H', ⟨by first | omega | exact Nat.le_refl _⟩, ⟨by repeat (first | (with_reducible first | exact HB.out | apply below_alloc | apply pw_below_drewN | apply below_drew1) | exact HB.out)⟩⟩
    ·rw [if_neg c7] at H
     exact absurd H (by simp)
   ·rw [if_neg c6] at H
    have c6b0 : decide (3 ≤ (l0.length : Int)) = false := decide_eq_false c6
    have c6b1 : decide (3 ≤ l0.length) = false := decide_eq_false (by omega)
    clear c6
    (first | rw [c6b0] | (simp only [i64_w, i32_w]; rw [c6b0]) | skip)
    have H' := Aside0.mk H
    clear H
    go_wp2
    go_meet
    case rel => exact ⟨_, (false), (by first | rfl | (simp; done) | (simp [*]; done)), H', ⟨by first | omega | exact Nat.le_refl _⟩, ⟨by repeat (first | (with_reducible first | exact HB.out | apply below_alloc | apply pw_below_drewN | apply below_drew1) | exact HB.out)⟩⟩
 case rest =>
  clear HC3
  try clear c1
  try clear p2
  try clear p3
  try clear q3
  try clear hx3
  try clear qi3
  try clear c4
  try clear c5
  try clear c6
  try clear c6b0
  try clear c6b1
  try clear c7
  try clear c7b0
  try clear c7b1
  try clear c8
  try clear c8b0
  try clear c8b1
  try clear c9
  try clear c9b0
  try clear c9b1
  try clear c10
  try clear c10b0
  try clear c10b1
  try clear c11
  try clear c11b0
  try clear c11b1
  try clear hx348_0
  try clear hx349_0
  try clear hx350_0
  try clear p348
  try clear p349
  try clear p350
  try clear q348
  try clear q349
  try clear q350
  obtain ⟨kq, x39_2, rfl, HA, HJ2, HB⟩ := hcut
  cases kq with
  | zero => exact absurd HA.out (by simp [impl_Detect.j0])
  | succ kj2 =>
   have H := HA.out
   clear HA
   simp only [impl_Detect.j0] at H
   by_cases c12 : x39_2 = true
   ·subst c12
    rw [if_pos rfl] at H
    simp only [Option.some.injEq, Prod.mk.injEq] at H
    obtain ⟨rfl, rfl⟩ := H
    go_wp2
    go_ret2
    exact ⟨rf_, hb_⟩
   ·replace c12 := Bool.eq_false_iff.mpr c12
    subst c12
    rw [if_neg (show ¬ (false = true) by decide)] at H
    have H' := Aside0.mk H
    clear H
    go_wp2
    go_loopg [6, 7, 8] kj2 (fun kq v6 v7 v8 w' => ∃ (x6_2 : Int) (x7_2 : Int) (x8_2 : Int), v6 = .int .i64 x6_2 ∧ v7 = .int .i64 x7_2 ∧ v8 = .int .i64 x8_2 ∧ Aside0 (impl_Detect.l0 kq l0 x6_2 x7_2 x8_2 = some (r1, r2)) ∧ Aside0 (kq ≤ kj2) ∧ Aside0 (Below w.heap.size w w'))
    case atStart => exact ⟨(0), (0), (1), (by first | rfl | (simp; done) | (simp [*]; done)), (by first | rfl | (simp; done) | (simp [*]; done)), (by first | rfl | (simp; done) | (simp [*]; done)), H', ⟨Nat.le_refl _⟩, ⟨by repeat (first | (with_reducible first | exact HB.out | apply below_alloc | apply pw_below_drewN | apply below_drew1) | exact HB.out)⟩⟩
    case round =>
     clear H'
     try clear c1
     try clear p2
     try clear p3
     try clear q3
     try clear hx3
     try clear qi3
     try clear c4
     try clear c5
     try clear c6
     try clear c6b0
     try clear c6b1
     try clear c7
     try clear c7b0
     try clear c7b1
     try clear c8
     try clear c8b0
     try clear c8b1
     try clear c9
     try clear c9b0
     try clear c9b1
     try clear c10
     try clear c10b0
     try clear c10b1
     try clear c11
     try clear c11b0
     try clear c11b1
     try clear c12
     try clear hx348_0
     try clear hx349_0
     try clear hx350_0
     try clear p2
     try clear p3
     try clear p348
     try clear p349
     try clear p350
     try clear q3
     try clear q348
     try clear q349
     try clear q350
     obtain ⟨x6_2, x7_2, x8_2, rfl, rfl, rfl, HA, HK2, HB⟩ := hrel
     cases gk with
     | zero => exact absurd HA.out (by simp [impl_Detect.l0])
     | succ k2 =>
      have H := HA.out
      clear HA
      simp only [impl_Detect.l0] at H
      by_cases c13 : x8_2 ≤ 5
      ·rw [if_pos c13] at H
       have c13b0 : decide (x8_2 ≤ 5) = true := decide_eq_true c13
       clear c13
       replace H := Option.bind_eq_some_iff.mp H
       obtain ⟨⟨t351, t352⟩, A140, H⟩ := H
       try dsimp only at H
       have A14 := Aside0.mk A140
       clear A140
       by_cases c15 : t352 = true
       ·subst c15
        rw [if_pos rfl] at H
        by_cases c16 : x6_2 = 0
        ·rw [if_pos c16] at H
         have c16b0 : (x6_2 == 0) = true := beq_iff_eq.mpr c16
         have c16b1 : (x6_2 != 0) = false := bne_eq_false_iff_eq.mpr c16
         clear c16
         have H' := Aside0.mk H
         clear H
         go_wp2_with (first | ((with_reducible refine gate_callee (f := 32) rfl ?_); refine goesL_ (some 47) rfl rfl Tryd.func32 (by kernel_rfl) rfl #[.int .i64 x8_2, .slice A0 l0.length c0] rfl ka_ ?_; (with_reducible refine (impl_Score.calls (hT := ?sideT) k2 x8_2 _ _ l0 t351 true _ ?side1 ?side2 A14.out).mono ?_); (case sideT => first | exact HT.out | exact HT.out.below hb_ | exact HT.out.drawn (by repeat (first | exact Drawn0.refl _ | apply Drawn0.step | assumption))); (case side1 => repeat (first | exact (Kd.C_below HR0.out HB.out) | (with_reducible refine Kd.C_alloc ?_ _) | (with_reducible refine Kd.C_drewN ?_ _) | (with_reducible refine Kd.C_drew ?_))); (case side2 => exact HC0.out); rintro e w17 ⟨rfl, hb⟩; refine ⟨_, rfl, ?_⟩; have n0_ := Aside0.mk (below_step hb_ hb); clear HB; have HB := n0_; clear n0_; try clear hb))
         go_roundg k2
         case measure => have := HJ2.out; have := HK2.out; omega
         case rel => exact ⟨(x8_2), (t351), (wrap64 (x8_2 + 1)), (by first | rfl | (simp; done) | (simp [*]; done)), (by first | rfl | (simp; done) | (simp [*]; done)), (by first | rfl | (simp; done) | (simp [*]; done)), H', ⟨by have := HJ2.out; have := HK2.out; omega⟩, ⟨by repeat (first | (with_reducible first | exact HB.out | apply below_alloc | apply pw_below_drewN | apply below_drew1) | exact HB.out)⟩⟩
        ·rw [if_neg c16] at H
         have c16b0 : (x6_2 == 0) = false := beq_eq_false_iff_ne.mpr c16
         have c16b1 : (x6_2 != 0) = true := bne_iff_ne.mpr c16
         by_cases c18 : t351 > x7_2
         ·rw [if_pos c18] at H
          have c18b0 : decide (x7_2 < t351) = true := decide_eq_true c18
          clear c18
          have H' := Aside0.mk H
          clear H
          go_wp2_with (first | ((with_reducible refine gate_callee (f := 32) rfl ?_); refine goesL_ (some 47) rfl rfl Tryd.func32 (by kernel_rfl) rfl #[.int .i64 x8_2, .slice A0 l0.length c0] rfl ka_ ?_; (with_reducible refine (impl_Score.calls (hT := ?sideT) k2 x8_2 _ _ l0 t351 true _ ?side1 ?side2 A14.out).mono ?_); (case sideT => first | exact HT.out | exact HT.out.below hb_ | exact HT.out.drawn (by repeat (first | exact Drawn0.refl _ | apply Drawn0.step | assumption))); (case side1 => repeat (first | exact (Kd.C_below HR0.out HB.out) | (with_reducible refine Kd.C_alloc ?_ _) | (with_reducible refine Kd.C_drewN ?_ _) | (with_reducible refine Kd.C_drew ?_))); (case side2 => exact HC0.out); rintro e w19 ⟨rfl, hb⟩; refine ⟨_, rfl, ?_⟩; have n0_ := Aside0.mk (below_step hb_ hb); clear HB; have HB := n0_; clear n0_; try clear hb))
          go_roundg k2
          case measure => have := HJ2.out; have := HK2.out; omega
          case rel => exact ⟨(x8_2), (t351), (wrap64 (x8_2 + 1)), (by first | rfl | (simp; done) | (simp [*]; done)), (by first | rfl | (simp; done) | (simp [*]; done)), (by first | rfl | (simp; done) | (simp [*]; done)), H', ⟨by have := HJ2.out; have := HK2.out; omega⟩, ⟨by repeat (first | (with_reducible first | exact HB.out | apply below_alloc | apply pw_below_drewN | apply below_drew1) | exact HB.out)⟩⟩
         ·rw [if_neg c18] at H
          have c18b0 : decide (x7_2 < t351) = false := decide_eq_false c18
          clear c18
          have H' := Aside0.mk H
          clear H
          go_wp2_with (first | ((with_reducible refine gate_callee (f := 32) rfl ?_); refine goesL_ (some 47) rfl rfl Tryd.func32 (by kernel_rfl) rfl #[.int .i64 x8_2, .slice A0 l0.length c0] rfl ka_ ?_; (with_reducible refine (impl_Score.calls (hT := ?sideT) k2 x8_2 _ _ l0 t351 true _ ?side1 ?side2 A14.out).mono ?_); (case sideT => first | exact HT.out | exact HT.out.below hb_ | exact HT.out.drawn (by repeat (first | exact Drawn0.refl _ | apply Drawn0.step | assumption))); (case side1 => repeat (first | exact (Kd.C_below HR0.out HB.out) | (with_reducible refine Kd.C_alloc ?_ _) | (with_reducible refine Kd.C_drewN ?_ _) | (with_reducible refine Kd.C_drew ?_))); (case side2 => exact HC0.out); rintro e w20 ⟨rfl, hb⟩; refine ⟨_, rfl, ?_⟩; have n0_ := Aside0.mk (below_step hb_ hb); clear HB; have HB := n0_; clear n0_; try clear hb))
          go_roundg k2
          case measure => have := HJ2.out; have := HK2.out; omega
          case rel => exact ⟨(x6_2), (x7_2), (wrap64 (x8_2 + 1)), (by first | rfl | (simp; done) | (simp [*]; done)), (by first | rfl | (simp; done) | (simp [*]; done)), (by first | rfl | (simp; done) | (simp [*]; done)), H', ⟨by have := HJ2.out; have := HK2.out; omega⟩, ⟨by repeat (first | (with_reducible first | exact HB.out | apply below_alloc | apply pw_below_drewN | apply below_drew1) | exact HB.out)⟩⟩
       ·replace c15 := Bool.eq_false_iff.mpr c15
        subst c15
        rw [if_neg (show ¬ (false = true) by decide)] at H
        have H' := Aside0.mk H
        clear H
        go_wp2_with (first | ((with_reducible refine gate_callee (f := 32) rfl ?_); refine goesL_ (some 47) rfl rfl Tryd.func32 (by kernel_rfl) rfl #[.int .i64 x8_2, .slice A0 l0.length c0] rfl ka_ ?_; (with_reducible refine (impl_Score.calls (hT := ?sideT) k2 x8_2 _ _ l0 t351 false _ ?side1 ?side2 A14.out).mono ?_); (case sideT => first | exact HT.out | exact HT.out.below hb_ | exact HT.out.drawn (by repeat (first | exact Drawn0.refl _ | apply Drawn0.step | assumption))); (case side1 => repeat (first | exact (Kd.C_below HR0.out HB.out) | (with_reducible refine Kd.C_alloc ?_ _) | (with_reducible refine Kd.C_drewN ?_ _) | (with_reducible refine Kd.C_drew ?_))); (case side2 => exact HC0.out); rintro e w21 ⟨rfl, hb⟩; refine ⟨_, rfl, ?_⟩; have n0_ := Aside0.mk (below_step hb_ hb); clear HB; have HB := n0_; clear n0_; try clear hb))
        go_roundg k2
        case measure => have := HJ2.out; have := HK2.out; omega
        case rel => exact ⟨(x6_2), (x7_2), (wrap64 (x8_2 + 1)), (by first | rfl | (simp; done) | (simp [*]; done)), (by first | rfl | (simp; done) | (simp [*]; done)), (by first | rfl | (simp; done) | (simp [*]; done)), H', ⟨by have := HJ2.out; have := HK2.out; omega⟩, ⟨by repeat (first | (with_reducible first | exact HB.out | apply below_alloc | apply pw_below_drewN | apply below_drew1) | exact HB.out)⟩⟩
      ·rw [if_neg c13] at H
       have c13b0 : decide (x8_2 ≤ 5) = false := decide_eq_false c13
       clear c13
       simp only [Option.some.injEq, Prod.mk.injEq] at H
       obtain ⟨rfl, rfl⟩ := H
       go_wp2
       go_ret2
       exact ⟨rf_, hb_⟩

/-! ### laws_big: function 42 -/
def laws_big.f (l0 : List Int) : Option (Bool) := some (decide ((l0.length : Int) > 1048576))
set_option maxHeartbeats 8000000 in
set_option maxRecDepth 100000 in
theorem laws_big.calls (A0 : Option Addr) (c0 : Nat) (l0 : List Int) (r : Bool) (w : World) (hr0 : Kd.C (Kd.int .u8) w A0 l0.length l0) (hc0 : l0.length ≤ c0) (h : laws_big.f l0 = some r) :
  Calls Tryd.prog 42 #[.slice A0 l0.length c0] w fun e w' => e = .returned (.bool r) ∧ Drawn0 w w' := by
 have HR0 := Aside0.mk hr0
 have HC0 := Aside0.mk hc0
 clear hr0 hc0
 have H : (some (decide ((l0.length : Int) > 1048576))) = some r := h
 clear h
 obtain rfl := Option.some.inj H
 go_enter Tryd.func42, Tryd.ntmps42
 go_wp2
 go_ret
 exact ⟨by first | rfl | (simp; done) | (simp [*]; done), dn_⟩

end Go.Proofs.YtpmimhbnmjffpaaDoor.QFnDetects
