/- The functions that a law reaches, each as a plain function, and that Go comes to just its answer: written by the session's program pp.py (the kit's print, with a few rows turned). -/
import Derived.Test.YtpmimhbnmjffpaaDoorQFnExactFeedx0
import Derived.Test.YtpmimhbnmjffpaaDoorQFnExactFeedx2
import Derived.Test.YtpmimhbnmjffpaaDoorQFnExactFeedx4
namespace Go.Proofs.YtpmimhbnmjffpaaDoor.QFnExactFeed
open Go.RowKit Go.Proofs.YtpmimhbnmjffpaaDoorW.PrintWords Go.Proofs.YtpmimhbnmjffpaaDoorW.PrintLast Go.Proofs.YtpmimhbnmjffpaaDoorW.PrintMore Go.Proofs.YtpmimhbnmjffpaaDoor.Xw Go.Proofs.YtpmimhbnmjffpaaDoor.Xs Go.Proofs.YtpmimhbnmjffpaaDoor.Ext
attribute [local go_sem] max2_int min2_int max_two min_two max_three min_three max_four min_four   -- for this text's walks alone
set_option linter.unusedVariables false
set_option linter.unusedSimpArgs false

/-! ### spec_l5Get: function 78 -/
def spec_l5Get.f (k : Nat) (a0 : Int) (l1 : List Int) (a2 : Int) : Option (Int × Int × Bool) := if a0 = 0 then ((spec_GetSign.f k l1 a2).bind fun bt249 => (some (bt249.1, bt249.2.1, bt249.2.2))) else (if a0 = 5 then ((spec_EucSign.f k l1 a2).bind fun bt252 => (some (bt252.1, bt252.2.1, bt252.2.2))) else (if 0 ≤ a2 then (if a2 < (l1.length : Int) then ((spec_ByteSign.f k a0 (wrap64 (rd l1 a2))).bind fun bt256 => (some (bt256.1, wrap64 (a2 + 1), bt256.2))) else (none)) else (none)))
theorem spec_l5Get.mono : ∀ a0 a1 a2 k, LeO (spec_l5Get.f k a0 a1 a2) (spec_l5Get.f (k + 1) a0 a1 a2) := by
 intro a0 a1 a2 k
 unfold spec_l5Get.f
 repeat' first
   | (with_reducible exact spec_ByteSign.mono _ _ _)
   | (with_reducible exact spec_EucSign.mono _ _ _)
   | (with_reducible exact spec_GetSign.mono _ _ _)
   | (with_reducible exact LeO.refl _)
   | (with_reducible exact LeO.none _)
   | (with_reducible refine LeO.ite ?_ ?_)
   | (with_reducible refine LeO.bind ?_ (fun _ => ?_))
   | exact spec_ByteSign.mono _ _ _
   | exact spec_EucSign.mono _ _ _
   | exact spec_GetSign.mono _ _ _
   | exact LeO.none _
   | refine LeO.ite ?_ ?_
   | refine LeO.bind ?_ (fun _ => ?_)
set_option maxHeartbeats 8000000 in
set_option maxRecDepth 100000 in
theorem spec_l5Get.calls (k : Nat) (a0 : Int) (A1 : Option Addr) (c1 : Nat) (l1 : List Int) (a2 : Int) (r1 : Int) (r2 : Int) (r3 : Bool) (w : World) (hr1 : Kd.C (Kd.int .u8) w A1 l1.length l1) (hc1 : l1.length ≤ c1) (h : spec_l5Get.f k a0 l1 a2 = some (r1, r2, r3)) :
  Calls Tryd.prog 78 #[.int .i64 a0, .slice A1 l1.length c1, .int .i64 a2] w fun e w' => e = .returned (.tuple #[.int .i64 r1, .int .i64 r2, .bool r3]) ∧ Below w.heap.size w w' := by
 have HR1 := Aside0.mk hr1
 have HC1 := Aside0.mk hc1
 clear hr1 hc1
 have HB := Aside0.mk (Below.refl w.heap.size w)
 have H : (if a0 = 0 then ((spec_GetSign.f k l1 a2).bind fun bt249 => (some (bt249.1, bt249.2.1, bt249.2.2))) else (if a0 = 5 then ((spec_EucSign.f k l1 a2).bind fun bt252 => (some (bt252.1, bt252.2.1, bt252.2.2))) else (if 0 ≤ a2 then (if a2 < (l1.length : Int) then ((spec_ByteSign.f k a0 (wrap64 (rd l1 a2))).bind fun bt256 => (some (bt256.1, wrap64 (a2 + 1), bt256.2))) else (none)) else (none)))) = some (r1, r2, r3) := h
 clear h
 by_cases c4 : a0 = 0
 ·rw [if_pos c4] at H
  have c4b0 : (a0 == 0) = true := beq_iff_eq.mpr c4
  have c4b1 : (a0 != 0) = false := bne_eq_false_iff_eq.mpr c4
  clear c4
  replace H := Option.bind_eq_some_iff.mp H
  obtain ⟨⟨t249, t250, t251⟩, A50, H⟩ := H
  try dsimp only at H
  have A5 := Aside0.mk A50
  clear A50
  simp only [Option.some.injEq, Prod.mk.injEq] at H
  obtain ⟨rfl, rfl, rfl⟩ := H
  go_enter Tryd.func78, Tryd.ntmps78
  go_wp2_with (first | ((with_reducible refine gate_callee (f := 98) rfl ?_); refine goesL_ (some 16) rfl rfl Tryd.func98 (by kernel_rfl) rfl #[.slice A1 l1.length c1, .int .i64 a2] rfl ka_ ?_; (with_reducible refine (spec_GetSign.calls k _ _ l1 a2 t249 t250 t251 _ ?side1 ?side2 A5.out).mono ?_); (case side1 => repeat (first | exact HR1.out | (with_reducible refine Kd.C_alloc ?_ _) | (with_reducible refine Kd.C_drewN ?_ _) | (with_reducible refine Kd.C_drew ?_))); (case side2 => exact HC1.out); rintro e w6 ⟨rfl, hb⟩; refine ⟨_, rfl, ?_⟩; have n0_ := Aside0.mk (below_step hb_ hb); clear HB; have HB := n0_; clear n0_; try clear hb))
  go_ret3
  exact ⟨rf_, hb_⟩
 ·rw [if_neg c4] at H
  have c4b0 : (a0 == 0) = false := beq_eq_false_iff_ne.mpr c4
  have c4b1 : (a0 != 0) = true := bne_iff_ne.mpr c4
  by_cases c7 : a0 = 5
  ·rw [if_pos c7] at H
   have c7b0 : (a0 == 5) = true := beq_iff_eq.mpr c7
   have c7b1 : (a0 != 5) = false := bne_eq_false_iff_eq.mpr c7
   clear c7
   replace H := Option.bind_eq_some_iff.mp H
   obtain ⟨⟨t252, t253, t254⟩, A80, H⟩ := H
   try dsimp only at H
   have A8 := Aside0.mk A80
   clear A80
   simp only [Option.some.injEq, Prod.mk.injEq] at H
   obtain ⟨rfl, rfl, rfl⟩ := H
   go_enter Tryd.func78, Tryd.ntmps78
   go_wp2_with (first | ((with_reducible refine gate_callee (f := 104) rfl ?_); refine goesL_ (some 24) rfl rfl Tryd.func104 (by kernel_rfl) rfl #[.slice A1 l1.length c1, .int .i64 a2] rfl ka_ ?_; (with_reducible refine (spec_EucSign.calls k _ _ l1 a2 t252 t253 t254 _ ?side1 ?side2 A8.out).mono ?_); (case side1 => repeat (first | exact HR1.out | (with_reducible refine Kd.C_alloc ?_ _) | (with_reducible refine Kd.C_drewN ?_ _) | (with_reducible refine Kd.C_drew ?_))); (case side2 => exact HC1.out); rintro e w' ⟨rfl, ⟨nd, rfl⟩⟩; refine ⟨_, rfl, ?_⟩))
   go_ret3
   exact ⟨rf_, hb_⟩
  ·rw [if_neg c7] at H
   have c7b0 : (a0 == 5) = false := beq_eq_false_iff_ne.mpr c7
   have c7b1 : (a0 != 5) = true := bne_iff_ne.mpr c7
   by_cases c9 : 0 ≤ a2
   ·rw [if_pos c9] at H
    have c9b0 : decide (0 ≤ a2) = true := decide_eq_true c9
    clear c9
    by_cases c10 : a2 < (l1.length : Int)
    ·rw [if_pos c10] at H
     have c10b0 : decide (a2 < (l1.length : Int)) = true := decide_eq_true c10
     clear c10
     replace H := Option.bind_eq_some_iff.mp H
     obtain ⟨⟨t256, t257⟩, A110, H⟩ := H
     try dsimp only at H
     have A11 := Aside0.mk A110
     clear A110
     simp only [Option.some.injEq, Prod.mk.injEq] at H
     obtain ⟨rfl, rfl, rfl⟩ := H
     have p255 : 0 ≤ (a2 : Int) := of_decide_eq_true as_
     have q255 : a2 < (l1.length : Int) := of_decide_eq_true as_
     obtain ⟨ad255, e255, hx255_0⟩ := Kd.at_int HR1.out a2 p255 q255
     cases e255
     replace p255 := eq_true p255
     replace q255 := eq_true q255
     go_enter Tryd.func78, Tryd.ntmps78
     go_wp2_with (first | ((with_reducible refine gate_callee (f := 105) rfl ?_); refine goesL_ (some 35) rfl rfl Tryd.func105 (by kernel_rfl) rfl #[.int .i64 a0, .int .i64 (wrap64 (rd l1 a2))] rfl ka_ ?_; (with_reducible refine (spec_ByteSign.calls k a0 (wrap64 (rd l1 a2)) t256 t257 _ A11.out).mono ?_); rintro e w12 ⟨rfl, hb⟩; refine ⟨_, rfl, ?_⟩; have n0_ := Aside0.mk (below_step hb_ hb); clear HB; have HB := n0_; clear n0_; try clear hb))
     go_ret3
     exact ⟨rf_, hb_⟩
    ·rw [if_neg c10] at H
     exact absurd H (by simp)
   ·rw [if_neg c9] at H
    exact absurd H (by simp)

end Go.Proofs.YtpmimhbnmjffpaaDoor.QFnExactFeed
