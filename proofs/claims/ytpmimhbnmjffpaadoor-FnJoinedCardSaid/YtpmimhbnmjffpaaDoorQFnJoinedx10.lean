/- The functions that a law reaches, each as a plain function, and that Go comes to just its answer: written by the session's program pp.py (the kit's print, with a few rows turned). -/
import Derived.Test.YtpmimhbnmjffpaaDoorQFnJoinedx0
import Derived.Test.YtpmimhbnmjffpaaDoorQFnJoinedx4
import Derived.Test.YtpmimhbnmjffpaaDoorQFnJoinedx6
import Derived.Test.YtpmimhbnmjffpaaDoorQFnJoinedx7
import Derived.Test.YtpmimhbnmjffpaaDoorQFnJoinedx8
import Derived.Test.YtpmimhbnmjffpaaDoorQFnJoinedx9
namespace Go.Proofs.YtpmimhbnmjffpaaDoor.QFnJoined
open Go.RowKit Go.Proofs.YtpmimhbnmjffpaaDoorW.PrintWords Go.Proofs.YtpmimhbnmjffpaaDoorW.PrintLast Go.Proofs.YtpmimhbnmjffpaaDoorW.PrintMore Go.Proofs.YtpmimhbnmjffpaaDoor.Xw Go.Proofs.YtpmimhbnmjffpaaDoor.Xs Go.Proofs.YtpmimhbnmjffpaaDoor.Ext
attribute [local go_sem] max2_int min2_int max_two min_two max_three min_three max_four min_four   -- for this text's walks alone
set_option linter.unusedVariables false
set_option linter.unusedSimpArgs false

/-! ### laws_FnJoined: function 12 -/
def laws_FnJoined.j0 : Nat → ByteArray → Bool → ByteArray → Bool → ByteArray → Bool → ByteArray → List Int → Bool → List Int → Bool → Bool → Option (Bool)
  | 0, _, _, _, _, _, _, _, _, _, _, _, _ => none
  | k + 1, x7, x8, x9, x10, x11, x12, x14, x15, x16, x17, x18, x95 => if x95 = true then (some false) else (if x8 = true then (if x10 = true then (if x12 = true then (if x7.size + x9.size ≤ 9223372036854775807 then (if x11.toList = (x7 ++ x9).toList then (if (x16 == x18) = true then (if x16 = true then (if (strOfNums x15).size + (strOfNums x15).size ≤ 9223372036854775807 then (if (strOfNums x17).toList = ((strOfNums x15) ++ (strOfNums x15)).toList then (some true) else (some (x14.toList == ([] : List UInt8)))) else (none)) else (some true)) else (some (x14.toList == ([] : List UInt8)))) else (some false)) else (none)) else (some false)) else (if (x16 == x18) = true then (if x16 = true then (if (strOfNums x15).size + (strOfNums x15).size ≤ 9223372036854775807 then (if (strOfNums x17).toList = ((strOfNums x15) ++ (strOfNums x15)).toList then (some true) else (some (x14.toList == ([] : List UInt8)))) else (none)) else (some true)) else (some (x14.toList == ([] : List UInt8))))) else (if (x16 == x18) = true then (if x16 = true then (if (strOfNums x15).size + (strOfNums x15).size ≤ 9223372036854775807 then (if (strOfNums x17).toList = ((strOfNums x15) ++ (strOfNums x15)).toList then (some true) else (some (x14.toList == ([] : List UInt8)))) else (none)) else (some true)) else (some (x14.toList == ([] : List UInt8)))))
def laws_FnJoined.f (k : Nat) (l0 : List Int) : Option (Bool) := (laws_big.f l0).bind fun t612 => (if t612 = true then (some true) else ((spec_DrawDecode.f k l0).bind fun bt613 => ((spec_DrawDecodeLossy.f k l0).bind fun bt617 => ((impl_Decode.f k bt613.1 bt613.2).bind fun bt621 => ((impl_Decode.f k bt613.1 bt617.2).bind fun bt623 => ((some (([] : List Int) : List Int)).bind fun y625 => (if y625.length + bt613.2.length < 140737488355328 then ((some (y625 ++ bt613.2 : List Int)).bind fun y628 => (if y628.length + bt617.2.length < 140737488355328 then ((impl_Decode.f k bt613.1 (y628 ++ bt617.2)).bind fun bt634 => ((spec_DrawEncode.f k l0).bind fun bt636 => ((impl_Encode.f k bt636.1 bt636.2).bind fun bt638 => (if bt636.2.size + bt636.2.size ≤ 9223372036854775807 then ((impl_Encode.f k bt636.1 (bt636.2 ++ bt636.2)).bind fun bt642 => ((spec_Decode.f k bt613.1 bt613.2).bind fun bt646 => ((spec_Encode.f k bt636.1 bt636.2).bind fun bt648 => (if (bt621.2 != bt646.2) = true then (laws_FnJoined.j0 k bt621.1 bt621.2 bt623.1 bt623.2 bt634.1 bt634.2 bt636.2 bt638.1 bt638.2 bt642.1 bt642.2 true) else (laws_FnJoined.j0 k bt621.1 bt621.2 bt623.1 bt623.2 bt634.1 bt634.2 bt636.2 bt638.1 bt638.2 bt642.1 bt642.2 (bt638.2 != bt648.2)))))) else (none))))) else (none))) else (none))))))))
theorem laws_FnJoined.mono_l : ∀ k, (∀ y0 y1 y2 y3 y4 y5 y6 y7 y8 y9 y10 y11, LeO (laws_FnJoined.j0 k y0 y1 y2 y3 y4 y5 y6 y7 y8 y9 y10 y11) (laws_FnJoined.j0 (k + 1) y0 y1 y2 y3 y4 y5 y6 y7 y8 y9 y10 y11))
  | 0 => fun _ _ _ _ _ _ _ _ _ _ _ _ r h => by simp [laws_FnJoined.j0] at h
  | k + 1 => by
    have ih0 := laws_FnJoined.mono_l k
    · intro y0 y1 y2 y3 y4 y5 y6 y7 y8 y9 y10 y11
      unfold laws_FnJoined.j0
      repeat' first
      | (with_reducible exact ih0 _ _ _ _ _ _ _ _ _ _ _ _)
      | (with_reducible exact impl_Decode.mono _ _ _)
      | (with_reducible exact impl_Encode.mono _ _ _)
      | (with_reducible exact spec_Decode.mono _ _ _)
      | (with_reducible exact spec_DrawDecode.mono _ _)
      | (with_reducible exact spec_DrawDecodeLossy.mono _ _)
      | (with_reducible exact spec_DrawEncode.mono _ _)
      | (with_reducible exact spec_Encode.mono _ _ _)
      | (with_reducible exact LeO.refl _)
      | (with_reducible exact LeO.none _)
      | (with_reducible refine LeO.ite ?_ ?_)
      | (with_reducible refine LeO.bind ?_ (fun _ => ?_))
      | exact ih0 _ _ _ _ _ _ _ _ _ _ _ _
      | exact impl_Decode.mono _ _ _
      | exact impl_Encode.mono _ _ _
      | exact spec_Decode.mono _ _ _
      | exact spec_DrawDecode.mono _ _
      | exact spec_DrawDecodeLossy.mono _ _
      | exact spec_DrawEncode.mono _ _
      | exact spec_Encode.mono _ _ _
      | exact LeO.none _
      | refine LeO.ite ?_ ?_
      | refine LeO.bind ?_ (fun _ => ?_)
theorem laws_FnJoined.mono : ∀ a0 k, LeO (laws_FnJoined.f k a0) (laws_FnJoined.f (k + 1) a0) := by
  intro a0 k
  have ih0 := laws_FnJoined.mono_l k
  unfold laws_FnJoined.f
  repeat' first
      | (with_reducible exact ih0 _ _ _ _ _ _ _ _ _ _ _ _)
      | (with_reducible exact impl_Decode.mono _ _ _)
      | (with_reducible exact impl_Encode.mono _ _ _)
      | (with_reducible exact spec_Decode.mono _ _ _)
      | (with_reducible exact spec_DrawDecode.mono _ _)
      | (with_reducible exact spec_DrawDecodeLossy.mono _ _)
      | (with_reducible exact spec_DrawEncode.mono _ _)
      | (with_reducible exact spec_Encode.mono _ _ _)
      | (with_reducible exact LeO.refl _)
      | (with_reducible exact LeO.none _)
      | (with_reducible refine LeO.ite ?_ ?_)
      | (with_reducible refine LeO.bind ?_ (fun _ => ?_))
      | exact ih0 _ _ _ _ _ _ _ _ _ _ _ _
      | exact impl_Decode.mono _ _ _
      | exact impl_Encode.mono _ _ _
      | exact spec_Decode.mono _ _ _
      | exact spec_DrawDecode.mono _ _
      | exact spec_DrawDecodeLossy.mono _ _
      | exact spec_DrawEncode.mono _ _
      | exact spec_Encode.mono _ _ _
      | exact LeO.none _
      | refine LeO.ite ?_ ?_
      | refine LeO.bind ?_ (fun _ => ?_)
set_option maxHeartbeats 8000000 in
set_option maxRecDepth 100000 in
theorem laws_FnJoined.calls (k : Nat) (A0 : Option Addr) (c0 : Nat) (l0 : List Int) (r : Bool) (w : World) (hT : TabsOk w) (hr0 : Kd.C (Kd.int .u8) w A0 l0.length l0) (hc0 : l0.length ≤ c0) (h : laws_FnJoined.f k l0 = some r) (hr_ : r = true) :
    Calls Tryd.prog 12 #[.slice A0 l0.length c0] w fun e w' => e = .returned (.bool r) ∧ Below w.heap.size w w' := by
  have HT := Aside0.mk hT
  clear hT
  have HR0 := Aside0.mk hr0
  have HC0 := Aside0.mk hc0
  clear hr0 hc0
  have HB := Aside0.mk (Below.refl w.heap.size w)
  have H : ((laws_big.f l0).bind fun t612 => (if t612 = true then (some true) else ((spec_DrawDecode.f k l0).bind fun bt613 => ((spec_DrawDecodeLossy.f k l0).bind fun bt617 => ((impl_Decode.f k bt613.1 bt613.2).bind fun bt621 => ((impl_Decode.f k bt613.1 bt617.2).bind fun bt623 => ((some (([] : List Int) : List Int)).bind fun y625 => (if y625.length + bt613.2.length < 140737488355328 then ((some (y625 ++ bt613.2 : List Int)).bind fun y628 => (if y628.length + bt617.2.length < 140737488355328 then ((impl_Decode.f k bt613.1 (y628 ++ bt617.2)).bind fun bt634 => ((spec_DrawEncode.f k l0).bind fun bt636 => ((impl_Encode.f k bt636.1 bt636.2).bind fun bt638 => (if bt636.2.size + bt636.2.size ≤ 9223372036854775807 then ((impl_Encode.f k bt636.1 (bt636.2 ++ bt636.2)).bind fun bt642 => ((spec_Decode.f k bt613.1 bt613.2).bind fun bt646 => ((spec_Encode.f k bt636.1 bt636.2).bind fun bt648 => (if (bt621.2 != bt646.2) = true then (laws_FnJoined.j0 k bt621.1 bt621.2 bt623.1 bt623.2 bt634.1 bt634.2 bt636.2 bt638.1 bt638.2 bt642.1 bt642.2 true) else (laws_FnJoined.j0 k bt621.1 bt621.2 bt623.1 bt623.2 bt634.1 bt634.2 bt636.2 bt638.1 bt638.2 bt642.1 bt642.2 (bt638.2 != bt648.2)))))) else (none))))) else (none))) else (none))))))))) = some r := h
  clear h
  replace H := Option.bind_eq_some_iff.mp H
  obtain ⟨t612, A20, H⟩ := H
  replace H : (if t612 = true then (some true) else ((spec_DrawDecode.f k l0).bind fun bt613 => ((spec_DrawDecodeLossy.f k l0).bind fun bt617 => ((impl_Decode.f k bt613.1 bt613.2).bind fun bt621 => ((impl_Decode.f k bt613.1 bt617.2).bind fun bt623 => ((some (([] : List Int) : List Int)).bind fun y625 => (if y625.length + bt613.2.length < 140737488355328 then ((some (y625 ++ bt613.2 : List Int)).bind fun y628 => (if y628.length + bt617.2.length < 140737488355328 then ((impl_Decode.f k bt613.1 (y628 ++ bt617.2)).bind fun bt634 => ((spec_DrawEncode.f k l0).bind fun bt636 => ((impl_Encode.f k bt636.1 bt636.2).bind fun bt638 => (if bt636.2.size + bt636.2.size ≤ 9223372036854775807 then ((impl_Encode.f k bt636.1 (bt636.2 ++ bt636.2)).bind fun bt642 => ((spec_Decode.f k bt613.1 bt613.2).bind fun bt646 => ((spec_Encode.f k bt636.1 bt636.2).bind fun bt648 => (if (bt621.2 != bt646.2) = true then (laws_FnJoined.j0 k bt621.1 bt621.2 bt623.1 bt623.2 bt634.1 bt634.2 bt636.2 bt638.1 bt638.2 bt642.1 bt642.2 true) else (laws_FnJoined.j0 k bt621.1 bt621.2 bt623.1 bt623.2 bt634.1 bt634.2 bt636.2 bt638.1 bt638.2 bt642.1 bt642.2 (bt638.2 != bt648.2)))))) else (none))))) else (none))) else (none)))))))) = some r := H
  have A2 := Aside0.mk A20
  clear A20
  by_cases c3 : t612 = true
  · subst c3
    have H1 : (some true) = some r := by rw [if_pos rfl] at H; exact H
    clear H
    have H := H1
    clear H1
    obtain rfl := Option.some.inj H
    clear hr_
    go_enter Tryd.func12, Tryd.ntmps12
    go_wp2_with (first | ((with_reducible refine gate_callee (f := 42) rfl ?_); refine goesL_ (some 24) rfl rfl Tryd.func42 (by kernel_rfl) rfl #[.slice A0 l0.length c0] rfl ka_ ?_; (with_reducible refine (laws_big.calls _ _ l0 true _ ?side1 ?side2 A2.out).mono ?_); (case side1 => repeat (first | exact HR0.out | (with_reducible refine Kd.C_alloc ?_ _) | (with_reducible refine Kd.C_drewN ?_ _) | (with_reducible refine Kd.C_drew ?_))); (case side2 => exact HC0.out); rintro e w' ⟨rfl, ⟨nd, rfl⟩⟩; refine ⟨_, rfl, ?_⟩))
    go_ret
    exact ⟨rf_, hb_⟩
  · replace c3 := Bool.eq_false_iff.mpr c3
    subst c3
    have H1 : ((spec_DrawDecode.f k l0).bind fun bt613 => ((spec_DrawDecodeLossy.f k l0).bind fun bt617 => ((impl_Decode.f k bt613.1 bt613.2).bind fun bt621 => ((impl_Decode.f k bt613.1 bt617.2).bind fun bt623 => ((some (([] : List Int) : List Int)).bind fun y625 => (if y625.length + bt613.2.length < 140737488355328 then ((some (y625 ++ bt613.2 : List Int)).bind fun y628 => (if y628.length + bt617.2.length < 140737488355328 then ((impl_Decode.f k bt613.1 (y628 ++ bt617.2)).bind fun bt634 => ((spec_DrawEncode.f k l0).bind fun bt636 => ((impl_Encode.f k bt636.1 bt636.2).bind fun bt638 => (if bt636.2.size + bt636.2.size ≤ 9223372036854775807 then ((impl_Encode.f k bt636.1 (bt636.2 ++ bt636.2)).bind fun bt642 => ((spec_Decode.f k bt613.1 bt613.2).bind fun bt646 => ((spec_Encode.f k bt636.1 bt636.2).bind fun bt648 => (if (bt621.2 != bt646.2) = true then (laws_FnJoined.j0 k bt621.1 bt621.2 bt623.1 bt623.2 bt634.1 bt634.2 bt636.2 bt638.1 bt638.2 bt642.1 bt642.2 true) else (laws_FnJoined.j0 k bt621.1 bt621.2 bt623.1 bt623.2 bt634.1 bt634.2 bt636.2 bt638.1 bt638.2 bt642.1 bt642.2 (bt638.2 != bt648.2)))))) else (none))))) else (none))) else (none))))))) = some r := by rw [if_neg (show ¬ (false = true) by decide)] at H; exact H
    clear H
    have H := H1
    clear H1
    replace H := Option.bind_eq_some_iff.mp H
    obtain ⟨⟨t613, t614⟩, A40, H⟩ := H
    replace H : ((spec_DrawDecodeLossy.f k l0).bind fun bt617 => ((impl_Decode.f k t613 t614).bind fun bt621 => ((impl_Decode.f k t613 bt617.2).bind fun bt623 => ((some (([] : List Int) : List Int)).bind fun y625 => (if y625.length + t614.length < 140737488355328 then ((some (y625 ++ t614 : List Int)).bind fun y628 => (if y628.length + bt617.2.length < 140737488355328 then ((impl_Decode.f k t613 (y628 ++ bt617.2)).bind fun bt634 => ((spec_DrawEncode.f k l0).bind fun bt636 => ((impl_Encode.f k bt636.1 bt636.2).bind fun bt638 => (if bt636.2.size + bt636.2.size ≤ 9223372036854775807 then ((impl_Encode.f k bt636.1 (bt636.2 ++ bt636.2)).bind fun bt642 => ((spec_Decode.f k t613 t614).bind fun bt646 => ((spec_Encode.f k bt636.1 bt636.2).bind fun bt648 => (if (bt621.2 != bt646.2) = true then (laws_FnJoined.j0 k bt621.1 bt621.2 bt623.1 bt623.2 bt634.1 bt634.2 bt636.2 bt638.1 bt638.2 bt642.1 bt642.2 true) else (laws_FnJoined.j0 k bt621.1 bt621.2 bt623.1 bt623.2 bt634.1 bt634.2 bt636.2 bt638.1 bt638.2 bt642.1 bt642.2 (bt638.2 != bt648.2)))))) else (none))))) else (none))) else (none)))))) = some r := H
    have A4 := Aside0.mk A40
    clear A40
    replace H := Option.bind_eq_some_iff.mp H
    obtain ⟨⟨t617, t618⟩, A50, H⟩ := H
    replace H : ((impl_Decode.f k t613 t614).bind fun bt621 => ((impl_Decode.f k t613 t618).bind fun bt623 => ((some (([] : List Int) : List Int)).bind fun y625 => (if y625.length + t614.length < 140737488355328 then ((some (y625 ++ t614 : List Int)).bind fun y628 => (if y628.length + t618.length < 140737488355328 then ((impl_Decode.f k t613 (y628 ++ t618)).bind fun bt634 => ((spec_DrawEncode.f k l0).bind fun bt636 => ((impl_Encode.f k bt636.1 bt636.2).bind fun bt638 => (if bt636.2.size + bt636.2.size ≤ 9223372036854775807 then ((impl_Encode.f k bt636.1 (bt636.2 ++ bt636.2)).bind fun bt642 => ((spec_Decode.f k t613 t614).bind fun bt646 => ((spec_Encode.f k bt636.1 bt636.2).bind fun bt648 => (if (bt621.2 != bt646.2) = true then (laws_FnJoined.j0 k bt621.1 bt621.2 bt623.1 bt623.2 bt634.1 bt634.2 bt636.2 bt638.1 bt638.2 bt642.1 bt642.2 true) else (laws_FnJoined.j0 k bt621.1 bt621.2 bt623.1 bt623.2 bt634.1 bt634.2 bt636.2 bt638.1 bt638.2 bt642.1 bt642.2 (bt638.2 != bt648.2)))))) else (none))))) else (none))) else (none))))) = some r := H
    have A5 := Aside0.mk A50
    clear A50
    replace H := Option.bind_eq_some_iff.mp H
    obtain ⟨⟨t621, t622⟩, A60, H⟩ := H
    replace H : ((impl_Decode.f k t613 t618).bind fun bt623 => ((some (([] : List Int) : List Int)).bind fun y625 => (if y625.length + t614.length < 140737488355328 then ((some (y625 ++ t614 : List Int)).bind fun y628 => (if y628.length + t618.length < 140737488355328 then ((impl_Decode.f k t613 (y628 ++ t618)).bind fun bt634 => ((spec_DrawEncode.f k l0).bind fun bt636 => ((impl_Encode.f k bt636.1 bt636.2).bind fun bt638 => (if bt636.2.size + bt636.2.size ≤ 9223372036854775807 then ((impl_Encode.f k bt636.1 (bt636.2 ++ bt636.2)).bind fun bt642 => ((spec_Decode.f k t613 t614).bind fun bt646 => ((spec_Encode.f k bt636.1 bt636.2).bind fun bt648 => (if (t622 != bt646.2) = true then (laws_FnJoined.j0 k t621 t622 bt623.1 bt623.2 bt634.1 bt634.2 bt636.2 bt638.1 bt638.2 bt642.1 bt642.2 true) else (laws_FnJoined.j0 k t621 t622 bt623.1 bt623.2 bt634.1 bt634.2 bt636.2 bt638.1 bt638.2 bt642.1 bt642.2 (bt638.2 != bt648.2)))))) else (none))))) else (none))) else (none)))) = some r := H
    have A6 := Aside0.mk A60
    clear A60
    replace H := Option.bind_eq_some_iff.mp H
    obtain ⟨⟨t623, t624⟩, A70, H⟩ := H
    replace H : ((some (([] : List Int) : List Int)).bind fun y625 => (if y625.length + t614.length < 140737488355328 then ((some (y625 ++ t614 : List Int)).bind fun y628 => (if y628.length + t618.length < 140737488355328 then ((impl_Decode.f k t613 (y628 ++ t618)).bind fun bt634 => ((spec_DrawEncode.f k l0).bind fun bt636 => ((impl_Encode.f k bt636.1 bt636.2).bind fun bt638 => (if bt636.2.size + bt636.2.size ≤ 9223372036854775807 then ((impl_Encode.f k bt636.1 (bt636.2 ++ bt636.2)).bind fun bt642 => ((spec_Decode.f k t613 t614).bind fun bt646 => ((spec_Encode.f k bt636.1 bt636.2).bind fun bt648 => (if (t622 != bt646.2) = true then (laws_FnJoined.j0 k t621 t622 t623 t624 bt634.1 bt634.2 bt636.2 bt638.1 bt638.2 bt642.1 bt642.2 true) else (laws_FnJoined.j0 k t621 t622 t623 t624 bt634.1 bt634.2 bt636.2 bt638.1 bt638.2 bt642.1 bt642.2 (bt638.2 != bt648.2)))))) else (none))))) else (none))) else (none))) = some r := H
    have A7 := Aside0.mk A70
    clear A70
    obtain ⟨y625, hy625⟩ : ∃ y_ : List Int, y_ = (([] : List Int)) := ⟨_, rfl⟩
    replace H : (if y625.length + t614.length < 140737488355328 then ((some (y625 ++ t614 : List Int)).bind fun y628 => (if y628.length + t618.length < 140737488355328 then ((impl_Decode.f k t613 (y628 ++ t618)).bind fun bt634 => ((spec_DrawEncode.f k l0).bind fun bt636 => ((impl_Encode.f k bt636.1 bt636.2).bind fun bt638 => (if bt636.2.size + bt636.2.size ≤ 9223372036854775807 then ((impl_Encode.f k bt636.1 (bt636.2 ++ bt636.2)).bind fun bt642 => ((spec_Decode.f k t613 t614).bind fun bt646 => ((spec_Encode.f k bt636.1 bt636.2).bind fun bt648 => (if (t622 != bt646.2) = true then (laws_FnJoined.j0 k t621 t622 t623 t624 bt634.1 bt634.2 bt636.2 bt638.1 bt638.2 bt642.1 bt642.2 true) else (laws_FnJoined.j0 k t621 t622 t623 t624 bt634.1 bt634.2 bt636.2 bt638.1 bt638.2 bt642.1 bt642.2 (bt638.2 != bt648.2)))))) else (none))))) else (none))) else (none)) = some r := by first | (rw [hy625]; with_reducible exact H) | (have H2_ := (Option.bind_some _ _).symm.trans H; rw [hy625]; with_reducible exact H2_) | (have H2_ := (Option.bind_some _ _).symm.trans H; with_reducible exact H2_) | with_reducible exact H | (rw [hy625]; exact H) | exact H
    have Ny625 := Aside0.mk hy625
    clear hy625
    by_cases c8 : y625.length + t614.length < 140737488355328
    · rw [if_pos c8] at H
      have LMc8 := Aside0.mk c8
      clear c8
      obtain ⟨y628, hy628⟩ : ∃ y_ : List Int, y_ = (y625 ++ t614) := ⟨_, rfl⟩
      replace H : (if y628.length + t618.length < 140737488355328 then ((impl_Decode.f k t613 (y628 ++ t618)).bind fun bt634 => ((spec_DrawEncode.f k l0).bind fun bt636 => ((impl_Encode.f k bt636.1 bt636.2).bind fun bt638 => (if bt636.2.size + bt636.2.size ≤ 9223372036854775807 then ((impl_Encode.f k bt636.1 (bt636.2 ++ bt636.2)).bind fun bt642 => ((spec_Decode.f k t613 t614).bind fun bt646 => ((spec_Encode.f k bt636.1 bt636.2).bind fun bt648 => (if (t622 != bt646.2) = true then (laws_FnJoined.j0 k t621 t622 t623 t624 bt634.1 bt634.2 bt636.2 bt638.1 bt638.2 bt642.1 bt642.2 true) else (laws_FnJoined.j0 k t621 t622 t623 t624 bt634.1 bt634.2 bt636.2 bt638.1 bt638.2 bt642.1 bt642.2 (bt638.2 != bt648.2)))))) else (none))))) else (none)) = some r := by first | (rw [hy628]; with_reducible exact H) | (have H2_ := (Option.bind_some _ _).symm.trans H; rw [hy628]; with_reducible exact H2_) | (have H2_ := (Option.bind_some _ _).symm.trans H; with_reducible exact H2_) | with_reducible exact H | (rw [hy628]; exact H) | exact H
      have Ny628 := Aside0.mk hy628
      clear hy628
      by_cases c9 : y628.length + t618.length < 140737488355328
      · rw [if_pos c9] at H
        have LMc9 := Aside0.mk c9
        clear c9
        obtain ⟨y631, hy631⟩ : ∃ y_ : List Int, y_ = (y628 ++ t618) := ⟨_, rfl⟩
        replace H : ((impl_Decode.f k t613 y631).bind fun bt634 => ((spec_DrawEncode.f k l0).bind fun bt636 => ((impl_Encode.f k bt636.1 bt636.2).bind fun bt638 => (if bt636.2.size + bt636.2.size ≤ 9223372036854775807 then ((impl_Encode.f k bt636.1 (bt636.2 ++ bt636.2)).bind fun bt642 => ((spec_Decode.f k t613 t614).bind fun bt646 => ((spec_Encode.f k bt636.1 bt636.2).bind fun bt648 => (if (t622 != bt646.2) = true then (laws_FnJoined.j0 k t621 t622 t623 t624 bt634.1 bt634.2 bt636.2 bt638.1 bt638.2 bt642.1 bt642.2 true) else (laws_FnJoined.j0 k t621 t622 t623 t624 bt634.1 bt634.2 bt636.2 bt638.1 bt638.2 bt642.1 bt642.2 (bt638.2 != bt648.2)))))) else (none))))) = some r := by first | (rw [hy631]; with_reducible exact H) | (have H2_ := (Option.bind_some _ _).symm.trans H; rw [hy631]; with_reducible exact H2_) | (have H2_ := (Option.bind_some _ _).symm.trans H; with_reducible exact H2_) | with_reducible exact H | (rw [hy631]; exact H) | exact H
        have Ny631 := Aside0.mk hy631
        clear hy631
        replace H := Option.bind_eq_some_iff.mp H
        obtain ⟨⟨t634, t635⟩, A100, H⟩ := H
        replace H : ((spec_DrawEncode.f k l0).bind fun bt636 => ((impl_Encode.f k bt636.1 bt636.2).bind fun bt638 => (if bt636.2.size + bt636.2.size ≤ 9223372036854775807 then ((impl_Encode.f k bt636.1 (bt636.2 ++ bt636.2)).bind fun bt642 => ((spec_Decode.f k t613 t614).bind fun bt646 => ((spec_Encode.f k bt636.1 bt636.2).bind fun bt648 => (if (t622 != bt646.2) = true then (laws_FnJoined.j0 k t621 t622 t623 t624 t634 t635 bt636.2 bt638.1 bt638.2 bt642.1 bt642.2 true) else (laws_FnJoined.j0 k t621 t622 t623 t624 t634 t635 bt636.2 bt638.1 bt638.2 bt642.1 bt642.2 (bt638.2 != bt648.2)))))) else (none)))) = some r := H
        have A10 := Aside0.mk A100
        clear A100
        replace H := Option.bind_eq_some_iff.mp H
        obtain ⟨⟨t636, t637⟩, A110, H⟩ := H
        replace H : ((impl_Encode.f k t636 t637).bind fun bt638 => (if t637.size + t637.size ≤ 9223372036854775807 then ((impl_Encode.f k t636 (t637 ++ t637)).bind fun bt642 => ((spec_Decode.f k t613 t614).bind fun bt646 => ((spec_Encode.f k t636 t637).bind fun bt648 => (if (t622 != bt646.2) = true then (laws_FnJoined.j0 k t621 t622 t623 t624 t634 t635 t637 bt638.1 bt638.2 bt642.1 bt642.2 true) else (laws_FnJoined.j0 k t621 t622 t623 t624 t634 t635 t637 bt638.1 bt638.2 bt642.1 bt642.2 (bt638.2 != bt648.2)))))) else (none))) = some r := H
        have A11 := Aside0.mk A110
        clear A110
        replace H := Option.bind_eq_some_iff.mp H
        obtain ⟨⟨t638, t639⟩, A120, H⟩ := H
        replace H : (if t637.size + t637.size ≤ 9223372036854775807 then ((impl_Encode.f k t636 (t637 ++ t637)).bind fun bt642 => ((spec_Decode.f k t613 t614).bind fun bt646 => ((spec_Encode.f k t636 t637).bind fun bt648 => (if (t622 != bt646.2) = true then (laws_FnJoined.j0 k t621 t622 t623 t624 t634 t635 t637 t638 t639 bt642.1 bt642.2 true) else (laws_FnJoined.j0 k t621 t622 t623 t624 t634 t635 t637 t638 t639 bt642.1 bt642.2 (t639 != bt648.2)))))) else (none)) = some r := H
        have A12 := Aside0.mk A120
        clear A120
        by_cases c13 : t637.size + t637.size ≤ 9223372036854775807
        · rw [if_pos c13] at H
          have c13b0 := eq_true c13
          have c13b1 : decide (t637.size + t637.size ≤ 9223372036854775807) = true := decide_eq_true c13
          try have c13b2 : (9223372036854775807 < t637.size + t637.size) = False := eq_false (Nat.not_lt.2 c13)
          replace H := Option.bind_eq_some_iff.mp H
          obtain ⟨⟨t642, t643⟩, A140, H⟩ := H
          replace H : ((spec_Decode.f k t613 t614).bind fun bt646 => ((spec_Encode.f k t636 t637).bind fun bt648 => (if (t622 != bt646.2) = true then (laws_FnJoined.j0 k t621 t622 t623 t624 t634 t635 t637 t638 t639 t642 t643 true) else (laws_FnJoined.j0 k t621 t622 t623 t624 t634 t635 t637 t638 t639 t642 t643 (t639 != bt648.2))))) = some r := H
          have A14 := Aside0.mk A140
          clear A140
          replace H := Option.bind_eq_some_iff.mp H
          obtain ⟨⟨t646, t647⟩, A150, H⟩ := H
          replace H : ((spec_Encode.f k t636 t637).bind fun bt648 => (if (t622 != t647) = true then (laws_FnJoined.j0 k t621 t622 t623 t624 t634 t635 t637 t638 t639 t642 t643 true) else (laws_FnJoined.j0 k t621 t622 t623 t624 t634 t635 t637 t638 t639 t642 t643 (t639 != bt648.2)))) = some r := H
          have A15 := Aside0.mk A150
          clear A150
          replace H := Option.bind_eq_some_iff.mp H
          obtain ⟨⟨t648, t649⟩, A160, H⟩ := H
          replace H : (if (t622 != t647) = true then (laws_FnJoined.j0 k t621 t622 t623 t624 t634 t635 t637 t638 t639 t642 t643 true) else (laws_FnJoined.j0 k t621 t622 t623 t624 t634 t635 t637 t638 t639 t642 t643 (t639 != t649))) = some r := H
          have A16 := Aside0.mk A160
          clear A160
          have HC17 := Aside0.mk H
          clear H
          go_enter Tryd.func12, Tryd.ntmps12
          go_upto_region 13 with (first | ((with_reducible refine gate_callee (f := 42) rfl ?_); refine goesL_ (some 24) rfl rfl Tryd.func42 (by kernel_rfl) rfl #[.slice A0 l0.length c0] rfl ka_ ?_; (with_reducible refine (laws_big.calls _ _ l0 false _ ?side1 ?side2 A2.out).mono ?_); (case side1 => repeat (first | exact HR0.out | (with_reducible refine Kd.C_alloc ?_ _) | (with_reducible refine Kd.C_drewN ?_ _) | (with_reducible refine Kd.C_drew ?_))); (case side2 => exact HC0.out); rintro e w' ⟨rfl, ⟨nd, rfl⟩⟩; refine ⟨_, rfl, ?_⟩) | ((with_reducible refine gate_callee (f := 43) rfl ?_); refine goesL_ (some 27) rfl rfl Tryd.func43 (by kernel_rfl) rfl #[.slice A0 l0.length c0] rfl ka_ ?_; (with_reducible refine (spec_DrawDecode.calls k _ _ l0 t613 t614 _ ?side1 ?side2 A4.out).mono ?_); (case side1 => repeat (first | exact HR0.out | (with_reducible refine Kd.C_alloc ?_ _) | (with_reducible refine Kd.C_drewN ?_ _) | (with_reducible refine Kd.C_drew ?_))); (case side2 => exact HC0.out); rintro e w18 ⟨v615, rfl, ho0, hb⟩; refine ⟨_, rfl, ?_⟩; have n0_ := Aside0.mk (Kd.R_lower ho0 (below_size hb_)); have n1_ := Aside0.mk (below_step hb_ hb); clear HB; have HO616 := n0_; have HB := n1_; clear n0_ n1_; (try clear hb); (try clear hb2); (try clear hk); (try clear hi); (try clear ho0)) | ((with_reducible refine gate_callee (f := 56) rfl ?_); refine goesL_ (some 32) rfl rfl Tryd.func56 (by kernel_rfl) rfl #[.slice A0 l0.length c0] rfl ka_ ?_; (with_reducible refine (spec_DrawDecodeLossy.calls k _ _ l0 t617 t618 _ ?side1 ?side2 A5.out).mono ?_); (case side1 => repeat (first | exact (Kd.C_below HR0.out HB.out) | (with_reducible refine Kd.C_alloc ?_ _) | (with_reducible refine Kd.C_drewN ?_ _) | (with_reducible refine Kd.C_drew ?_))); (case side2 => exact HC0.out); rintro e w19 ⟨v619, rfl, ho0, hb⟩; refine ⟨_, rfl, ?_⟩; have n0_ := Aside0.mk (Kd.R_elder' (kr_ HO616) (Kd.R_base ho0) hb); have n1_ := Aside0.mk (Kd.R_lower (Kd.R_new' ho0 (Kd.R_lt (kr_ HO616))) (below_size hb_)); have n2_ := Aside0.mk (below_step hb_ hb); clear HO616; clear HB; have HO616 := n0_; have HO620 := n1_; have HB := n2_; clear n0_ n1_ n2_; (try clear hb); (try clear hb2); (try clear hk); (try clear hi); (try clear ho0); obtain ⟨Ao20, co20, eo20⟩ := Kd.R_slice HO616.out; subst eo20) | ((with_reducible refine gate_callee (f := 44) rfl ?_); refine goesL_ (some 38) rfl rfl Tryd.func44 (by kernel_rfl) rfl #[.int .i64 t613, .slice Ao20 t614.length co20] rfl ka_ ?_; (with_reducible refine (impl_Decode.calls (hT := ?sideT) k t613 _ _ t614 t621 t622 _ ?side1 ?side2 A6.out).mono ?_); (case sideT => first | exact HT.out | exact HT.out.below hb_ | exact HT.out.drawn (by repeat (first | exact Drawn0.refl _ | apply Drawn0.step | assumption))); (case side1 => repeat (first | exact (Kd.R_reads' HO616.out).2.2 | (with_reducible refine Kd.C_alloc ?_ _) | (with_reducible refine Kd.C_drewN ?_ _) | (with_reducible refine Kd.C_drew ?_))); (case side2 => exact (Kd.R_reads' HO616.out).2.1); rintro e w21 ⟨rfl, hb⟩; refine ⟨_, rfl, ?_⟩; have n0_ := Aside0.mk (Kd.R_below (kr_ HO616) hb); have n1_ := Aside0.mk (Kd.R_below (kr_ HO620) hb); have n2_ := Aside0.mk (below_step hb_ hb); clear HO616; clear HO620; clear HB; have HO616 := n0_; have HO620 := n1_; have HB := n2_; clear n0_ n1_ n2_; (try clear hb); (try clear hb2); (try clear hk); (try clear hi); obtain ⟨Ao22, co22, eo22⟩ := Kd.R_slice HO620.out; subst eo22) | ((with_reducible refine gate_callee (f := 44) rfl ?_); refine goesL_ (some 44) rfl rfl Tryd.func44 (by kernel_rfl) rfl #[.int .i64 t613, .slice Ao22 t618.length co22] rfl ka_ ?_; (with_reducible refine (impl_Decode.calls (hT := ?sideT) k t613 _ _ t618 t623 t624 _ ?side1 ?side2 A7.out).mono ?_); (case sideT => first | exact HT.out | exact HT.out.below hb_ | exact HT.out.drawn (by repeat (first | exact Drawn0.refl _ | apply Drawn0.step | assumption))); (case side1 => repeat (first | exact (Kd.R_reads' HO620.out).2.2 | (with_reducible refine Kd.C_alloc ?_ _) | (with_reducible refine Kd.C_drewN ?_ _) | (with_reducible refine Kd.C_drew ?_))); (case side2 => exact (Kd.R_reads' HO620.out).2.1); rintro e w23 ⟨rfl, hb⟩; refine ⟨_, rfl, ?_⟩; have n0_ := Aside0.mk (Kd.R_below (kr_ HO616) hb); have n1_ := Aside0.mk (Kd.R_below (kr_ HO620) hb); have n2_ := Aside0.mk (below_step hb_ hb); clear HO616; clear HO620; clear HB; have HO616 := n0_; have HO620 := n1_; have HB := n2_; clear n0_ n1_ n2_; (try clear hb); (try clear hb2); (try clear hk); (try clear hi)) | ((with_reducible refine gate_dst (N := 49) rfl ?_); refine Kd.R_lit (Kd.int .u8) _ 5 ?hg (N := 49) ?hd (xs := ([] : List Int)) (inner := []) (ok := fun _ => True) (okp := fun _ => True) ?hr ?hp (fun _ hk => hk) trivial (Below.refl _ _) (Nat.le_refl _) (by simp) ?_; (case hd => rfl); (case hg => rfl); (case hr => first | (go_simp; done) | (go_simp; rfl)); (case hp => exact (Reps.none _ _)); intro v626 w24 ho25 hb hg_ hnew_; clear hg_ hnew_; (first | rw [← Ny625.out] at ho25 | (simp only [Int.reduceToNat] at ho25; rw [← Ny625.out] at ho25)); have n0_ := Aside0.mk (Kd.R_elder' (kr_ HO616) (Kd.R_base ho25) hb); have n1_ := Aside0.mk (Kd.R_elder' (kr_ HO620) (Kd.R_base ho25) hb); have n2_ := Aside0.mk (Kd.R_lower (Kd.R_new' (Kd.R_new' ho25 (Kd.R_lt (kr_ HO616))) (Kd.R_lt (kr_ HO620))) (below_size hb_)); have n3_ := Aside0.mk (below_step hb_ hb); clear HO616; clear HO620; clear HB; have HO616 := n0_; have HO620 := n1_; have HO627 := n2_; have HB := n3_; clear n0_ n1_ n2_ n3_; clear hb ho25) | ((with_reducible refine gate_builtin (b := .append) (xs := #[.tmp 49, .tmp 50]) rfl ?_); at_builtin; refine Kd.R_append_rows (Kd.int .u8) (w0 := w) w.heap.size rfl (.tmp 49) (.tmp 50) 23 5 (.int .u8 0) 1 rfl Tryd.underlying23 info5 rfl (by decide) (by omega) v626 y625 t614 _ _ _ (fun k_ => some k_ ≠ (.slice Ao20 t614.length co20 : Value).ownBlock ∧ some k_ ≠ (.slice Ao22 t618.length co22 : Value).ownBlock) (fun _ => False) rfl rfl ?aO ?aR (fun _ _ h => h) (fun _ h => h.elim) ?aF ?aB ?aS ?aL ?_; (case aR => repeat (first | exact (Kd.R_reads' HO616.out).2.2 | (with_reducible refine Kd.C_alloc ?_ _) | (with_reducible refine Kd.C_drewN ?_ _) | (with_reducible refine Kd.C_drew ?_))); (case aB => exact hb_); (case aF => exact (fun k_ hk => ⟨Kd.fresh' (Kd.R_lt (kr_ HO616)) k_ hk, Kd.fresh' (Kd.R_lt (kr_ HO620)) k_ hk⟩)); (case aO => exact (by (with_reducible repeat (first | apply Kd.R_alloc | apply Kd.R_drewN | apply Kd.R_drew)); exact Kd.R_mono HO627.out (fun _ hk => ⟨hk.1.2, hk.2⟩))); (case aS => exact (below_size hb_)); (case aL => have := LMc8.out; omega); intro v629 w26 ho hb hg hat; rw [← Ny628.out] at ho; have n0_ := Aside0.mk (Kd.R_after (ok := (fun k_ => some k_ ≠ (.slice Ao22 t618.length co22 : Value).ownBlock)) (by (with_reducible repeat (first | apply Kd.R_alloc | apply Kd.R_drewN | apply Kd.R_drew)); exact Kd.R_mono HO616.out (fun _ hk => ⟨hk.1.2, hk.2⟩)) hg hat); have n1_ := Aside0.mk (Kd.R_after (ok := (fun k_ => some k_ ≠ (.slice Ao20 t614.length co20 : Value).ownBlock)) (by (with_reducible repeat (first | apply Kd.R_alloc | apply Kd.R_drewN | apply Kd.R_drew)); exact Kd.R_mono HO620.out (fun _ hk => ⟨hk.1.2, hk.2⟩)) hg hat); have n2_ := Aside0.mk (hb); have n3_ := Aside0.mk (ho); clear HO616; clear HO620; clear HB; clear HO627; have HO616 := n0_; have HO620 := n1_; have HB := n2_; have HO630 := n3_; clear n0_ n1_ n2_ n3_; clear ho hb hg hat) | ((with_reducible refine gate_builtin (b := .append) (xs := #[.tmp 51, .tmp 52]) rfl ?_); at_builtin; refine Kd.R_append_rows (Kd.int .u8) (w0 := w) w.heap.size rfl (.tmp 51) (.tmp 52) 23 5 (.int .u8 0) 1 rfl Tryd.underlying23 info5 rfl (by decide) (by omega) v629 y628 t618 _ _ _ (fun k_ => some k_ ≠ (.slice Ao20 t614.length co20 : Value).ownBlock ∧ some k_ ≠ (.slice Ao22 t618.length co22 : Value).ownBlock) (fun _ => False) rfl rfl ?aO ?aR (fun _ _ h => h) (fun _ h => h.elim) ?aF ?aB ?aS ?aL ?_; (case aR => repeat (first | exact (Kd.R_reads' HO620.out).2.2 | (with_reducible refine Kd.C_alloc ?_ _) | (with_reducible refine Kd.C_drewN ?_ _) | (with_reducible refine Kd.C_drew ?_))); (case aB => exact hb_); (case aF => exact (fun k_ hk => ⟨Kd.fresh' (Kd.R_lt (kr_ HO616)) k_ hk, Kd.fresh' (Kd.R_lt (kr_ HO620)) k_ hk⟩)); (case aO => exact (kr_ HO630)); (case aS => exact (below_size hb_)); (case aL => have := LMc9.out; omega); intro v632 w27 ho hb hg hat; rw [← Ny631.out] at ho; have n0_ := Aside0.mk (Kd.R_after (ok := (fun k_ => some k_ ≠ (.slice Ao22 t618.length co22 : Value).ownBlock)) (kr_ HO616) hg hat); have n1_ := Aside0.mk (Kd.R_after (ok := (fun k_ => some k_ ≠ (.slice Ao20 t614.length co20 : Value).ownBlock)) (kr_ HO620) hg hat); have n2_ := Aside0.mk (hb); have n3_ := Aside0.mk (ho); clear HO616; clear HO620; clear HB; clear HO630; have HO616 := n0_; have HO620 := n1_; have HB := n2_; have HO633 := n3_; clear n0_ n1_ n2_ n3_; clear ho hb hg hat; obtain ⟨Ao28, co28, eo28⟩ := Kd.R_slice HO633.out; subst eo28) | ((with_reducible refine gate_callee (f := 44) rfl ?_); refine goesL_ (some 54) rfl rfl Tryd.func44 (by kernel_rfl) rfl #[.int .i64 t613, .slice Ao28 y631.length co28] rfl ka_ ?_; (with_reducible refine (impl_Decode.calls (hT := ?sideT) k t613 _ _ y631 t634 t635 _ ?side1 ?side2 A10.out).mono ?_); (case sideT => first | exact HT.out | exact HT.out.below hb_ | exact HT.out.drawn (by repeat (first | exact Drawn0.refl _ | apply Drawn0.step | assumption))); (case side1 => repeat (first | exact (Kd.R_reads' HO633.out).2.2 | (with_reducible refine Kd.C_alloc ?_ _) | (with_reducible refine Kd.C_drewN ?_ _) | (with_reducible refine Kd.C_drew ?_))); (case side2 => exact (Kd.R_reads' HO633.out).2.1); rintro e w29 ⟨rfl, hb⟩; refine ⟨_, rfl, ?_⟩; have n0_ := Aside0.mk (Kd.R_below (kr_ HO616) hb); have n1_ := Aside0.mk (Kd.R_below (kr_ HO620) hb); have n2_ := Aside0.mk (Kd.R_below (kr_ HO633) hb); have n3_ := Aside0.mk (below_step hb_ hb); clear HO616; clear HO620; clear HO633; clear HB; have HO616 := n0_; have HO620 := n1_; have HO633 := n2_; have HB := n3_; clear n0_ n1_ n2_ n3_; (try clear hb); (try clear hb2); (try clear hk); (try clear hi)) | ((with_reducible refine gate_callee (f := 57) rfl ?_); refine goesL_ (some 59) rfl rfl Tryd.func57 (by kernel_rfl) rfl #[.slice A0 l0.length c0] rfl ka_ ?_; (with_reducible refine (spec_DrawEncode.calls k _ _ l0 t636 t637 _ ?side1 ?side2 A11.out).mono ?_); (case side1 => repeat (first | exact (Kd.C_below HR0.out HB.out) | (with_reducible refine Kd.C_alloc ?_ _) | (with_reducible refine Kd.C_drewN ?_ _) | (with_reducible refine Kd.C_drew ?_))); (case side2 => exact HC0.out); rintro e w30 ⟨rfl, hb⟩; refine ⟨_, rfl, ?_⟩; have n0_ := Aside0.mk (Kd.R_below (kr_ HO616) hb); have n1_ := Aside0.mk (Kd.R_below (kr_ HO620) hb); have n2_ := Aside0.mk (Kd.R_below (kr_ HO633) hb); have n3_ := Aside0.mk (below_step hb_ hb); clear HO616; clear HO620; clear HO633; clear HB; have HO616 := n0_; have HO620 := n1_; have HO633 := n2_; have HB := n3_; clear n0_ n1_ n2_ n3_; (try clear hb); (try clear hb2); (try clear hk); (try clear hi)) | ((with_reducible refine gate_callee (f := 19) rfl ?_); refine goesL_ (some 65) rfl rfl Tryd.func19 (by kernel_rfl) rfl #[.int .i64 t636, .string t637] rfl ka_ ?_; (with_reducible refine (impl_Encode.calls (hT := ?sideT) k t636 t637 t638 t639 _ A12.out).mono ?_); (case sideT => first | exact HT.out | exact HT.out.below hb_ | exact HT.out.drawn (by repeat (first | exact Drawn0.refl _ | apply Drawn0.step | assumption))); rintro e w31 ⟨v640, rfl, ho0, hb⟩; refine ⟨_, rfl, ?_⟩; have n0_ := Aside0.mk (Kd.R_elder' (kr_ HO616) (Kd.R_base ho0) hb); have n1_ := Aside0.mk (Kd.R_elder' (kr_ HO620) (Kd.R_base ho0) hb); have n2_ := Aside0.mk (Kd.R_elder' (kr_ HO633) (Kd.R_base ho0) hb); have n3_ := Aside0.mk (Kd.R_lower (Kd.R_new' (Kd.R_new' (Kd.R_new' ho0 (Kd.R_lt (kr_ HO616))) (Kd.R_lt (kr_ HO620))) (Kd.R_lt (kr_ HO633))) (below_size hb_)); have n4_ := Aside0.mk (below_step hb_ hb); clear HO616; clear HO620; clear HO633; clear HB; have HO616 := n0_; have HO620 := n1_; have HO633 := n2_; have HO641 := n3_; have HB := n4_; clear n0_ n1_ n2_ n3_ n4_; (try clear hb); (try clear hb2); (try clear hk); (try clear hi); (try clear ho0)) | ((with_reducible refine gate_callee (f := 19) rfl ?_); refine goesL_ (some 73) rfl rfl Tryd.func19 (by kernel_rfl) rfl #[.int .i64 t636, .string (t637 ++ t637)] rfl ka_ ?_; (with_reducible refine (impl_Encode.calls (hT := ?sideT) k t636 (t637 ++ t637) t642 t643 _ A14.out).mono ?_); (case sideT => first | exact HT.out | exact HT.out.below hb_ | exact HT.out.drawn (by repeat (first | exact Drawn0.refl _ | apply Drawn0.step | assumption))); rintro e w32 ⟨v644, rfl, ho0, hb⟩; refine ⟨_, rfl, ?_⟩; have n0_ := Aside0.mk (Kd.R_elder' (kr_ HO616) (Kd.R_base ho0) hb); have n1_ := Aside0.mk (Kd.R_elder' (kr_ HO620) (Kd.R_base ho0) hb); have n2_ := Aside0.mk (Kd.R_elder' (kr_ HO633) (Kd.R_base ho0) hb); have n3_ := Aside0.mk (Kd.R_elder' (kr_ HO641) (Kd.R_base ho0) hb); have n4_ := Aside0.mk (Kd.R_lower (Kd.R_new' (Kd.R_new' (Kd.R_new' (Kd.R_new' ho0 (Kd.R_lt (kr_ HO616))) (Kd.R_lt (kr_ HO620))) (Kd.R_lt (kr_ HO633))) (Kd.R_lt (kr_ HO641))) (below_size hb_)); have n5_ := Aside0.mk (below_step hb_ hb); clear HO616; clear HO620; clear HO633; clear HO641; clear HB; have HO616 := n0_; have HO620 := n1_; have HO633 := n2_; have HO641 := n3_; have HO645 := n4_; have HB := n5_; clear n0_ n1_ n2_ n3_ n4_ n5_; (try clear hb); (try clear hb2); (try clear hk); (try clear hi); (try clear ho0)) | ((with_reducible refine gate_callee (f := 58) rfl ?_); refine goesL_ (some 79) rfl rfl Tryd.func58 (by kernel_rfl) rfl #[.int .i64 t613, .slice Ao20 t614.length co20] rfl ka_ ?_; (with_reducible refine (spec_Decode.calls k t613 _ _ t614 t646 t647 _ ?side1 ?side2 A15.out).mono ?_); (case side1 => repeat (first | exact (Kd.R_reads' HO616.out).2.2 | (with_reducible refine Kd.C_alloc ?_ _) | (with_reducible refine Kd.C_drewN ?_ _) | (with_reducible refine Kd.C_drew ?_))); (case side2 => exact (Kd.R_reads' HO616.out).2.1); rintro e w33 ⟨rfl, hb⟩; refine ⟨_, rfl, ?_⟩; have n0_ := Aside0.mk (Kd.R_below (kr_ HO616) hb); have n1_ := Aside0.mk (Kd.R_below (kr_ HO620) hb); have n2_ := Aside0.mk (Kd.R_below (kr_ HO633) hb); have n3_ := Aside0.mk (Kd.R_below (kr_ HO641) hb); have n4_ := Aside0.mk (Kd.R_below (kr_ HO645) hb); have n5_ := Aside0.mk (below_step hb_ hb); clear HO616; clear HO620; clear HO633; clear HO641; clear HO645; clear HB; have HO616 := n0_; have HO620 := n1_; have HO633 := n2_; have HO641 := n3_; have HO645 := n4_; have HB := n5_; clear n0_ n1_ n2_ n3_ n4_ n5_; (try clear hb); (try clear hb2); (try clear hk); (try clear hi)) | ((with_reducible refine gate_callee (f := 18) rfl ?_); refine goesL_ (some 85) rfl rfl Tryd.func18 (by kernel_rfl) rfl #[.int .i64 t636, .string t637] rfl ka_ ?_; (with_reducible refine (spec_Encode.calls k t636 t637 t648 t649 _ A16.out).mono ?_); rintro e w34 ⟨v650, rfl, ho0, hb⟩; refine ⟨_, rfl, ?_⟩; have n0_ := Aside0.mk (Kd.R_elder' (kr_ HO616) (Kd.R_base ho0) hb); have n1_ := Aside0.mk (Kd.R_elder' (kr_ HO620) (Kd.R_base ho0) hb); have n2_ := Aside0.mk (Kd.R_elder' (kr_ HO633) (Kd.R_base ho0) hb); have n3_ := Aside0.mk (Kd.R_elder' (kr_ HO641) (Kd.R_base ho0) hb); have n4_ := Aside0.mk (Kd.R_elder' (kr_ HO645) (Kd.R_base ho0) hb); have n5_ := Aside0.mk (Kd.R_lower (Kd.R_new' (Kd.R_new' (Kd.R_new' (Kd.R_new' (Kd.R_new' ho0 (Kd.R_lt (kr_ HO616))) (Kd.R_lt (kr_ HO620))) (Kd.R_lt (kr_ HO633))) (Kd.R_lt (kr_ HO641))) (Kd.R_lt (kr_ HO645))) (below_size hb_)); have n6_ := Aside0.mk (below_step hb_ hb); clear HO616; clear HO620; clear HO633; clear HO641; clear HO645; clear HB; have HO616 := n0_; have HO620 := n1_; have HO633 := n2_; have HO641 := n3_; have HO645 := n4_; have HO651 := n5_; have HB := n6_; clear n0_ n1_ n2_ n3_ n4_ n5_ n6_; (try clear hb); (try clear hb2); (try clear hk); (try clear hi); (try clear ho0)))
          (try simp only [Act.put, List.setIfInBounds_toArray, List.set_cons_zero, List.set_cons_succ])
          go_cut [95] (fun v95 wc => ∃ (kq : Nat) (x95_16 : Bool), v95 = .bool x95_16 ∧ Aside0 (laws_FnJoined.j0 kq t621 t622 t623 t624 t634 t635 t637 t638 t639 t642 t643 x95_16 = some r) ∧ Aside0 (kq ≤ k) ∧ Aside0 (Kd.R (Kd.int .u8) 5 wc w.heap.size (fun k_ => some k_ ≠ (v644 : Value).ownBlock) v640 t638) ∧ Aside0 (Kd.R (Kd.int .u8) 5 wc w.heap.size (fun k_ => some k_ ≠ (v640 : Value).ownBlock) v644 t642) ∧ Aside0 (Below w.heap.size w wc))
          case first =>
            have H := HC17.out
            clear HC17
            by_cases c35 : (t622 != t647) = true
            · rw [if_pos c35] at H
              have c35b0 : (t622 != t647) = true := c35
              (try (have c35b1 : decide (t622 = t647) = false := by simpa using c35))
              (try (have c35b2 : (t622 == t647) = false := by simpa using c35))
              (try (have c35b3 : ¬ (t622 = t647) := by simpa using c35))
              clear c35
              (first | rw [c35b0] | (simp only [i64_w, i32_w]; rw [c35b0]) | skip)
              have H' := Aside0.mk H
              clear H
              go_wp2
              go_meet
              case rel => exact ⟨_, (true), (by first | rfl | (simp; done) | (simp [*]; done)), H', ⟨by first | omega | exact Nat.le_refl _⟩, ⟨by (with_reducible repeat (first | apply Kd.R_alloc | apply Kd.R_drewN | apply Kd.R_drew)); exact Kd.R_mono HO641.out (fun _ hk => hk.1.2)⟩, ⟨by (with_reducible repeat (first | apply Kd.R_alloc | apply Kd.R_drewN | apply Kd.R_drew)); exact Kd.R_mono HO645.out (fun _ hk => hk.1.2)⟩, ⟨by repeat (first | (with_reducible first | exact HB.out | apply below_alloc | apply pw_below_drewN | apply below_drew1) | exact HB.out)⟩⟩
            · rw [if_neg c35] at H
              have c35b0 : (t622 != t647) = false := by simpa using c35
              (try (have c35b1 : decide (t622 = t647) = true := by simpa using c35))
              (try (have c35b2 : (t622 == t647) = true := by simpa using c35))
              clear c35
              (first | rw [c35b0] | (simp only [i64_w, i32_w]; rw [c35b0]) | skip)
              have H' := Aside0.mk H
              clear H
              go_wp2
              go_meet
              case rel => exact ⟨_, ((t639 != t649)), (by first | rfl | (simp; done) | (simp [*]; done)), H', ⟨by first | omega | exact Nat.le_refl _⟩, ⟨by (with_reducible repeat (first | apply Kd.R_alloc | apply Kd.R_drewN | apply Kd.R_drew)); exact Kd.R_mono HO641.out (fun _ hk => hk.1.2)⟩, ⟨by (with_reducible repeat (first | apply Kd.R_alloc | apply Kd.R_drewN | apply Kd.R_drew)); exact Kd.R_mono HO645.out (fun _ hk => hk.1.2)⟩, ⟨by repeat (first | (with_reducible first | exact HB.out | apply below_alloc | apply pw_below_drewN | apply below_drew1) | exact HB.out)⟩⟩
          case rest =>
            clear HC17
            try clear c1
            try clear p2
            try clear c3
            try clear c4
            try clear c5
            try clear c8
            try clear c9
            try clear c12
            try clear c13
            try clear c13b0
            try clear c13b1
            try clear c13b2
            try clear c18
            try clear c19
            try clear c35
            try clear c35b0
            try clear c35b1
            try clear c35b2
            obtain ⟨kq, x95_16, rfl, HA, HJ16, HO_15, HO_17, HB⟩ := hcut
            cases kq with
            | zero => exact absurd HA.out (by simp [laws_FnJoined.j0])
            | succ kj16 =>
              have H := HA.out
              clear HA
              simp only [laws_FnJoined.j0] at H
              by_cases c36 : x95_16 = true
              · subst c36
                have H1 : (some false) = some r := by rw [if_pos rfl] at H; exact H
                clear H
                have H := H1
                clear H1
                obtain rfl := Option.some.inj H
                cases hr_
              · replace c36 := Bool.eq_false_iff.mpr c36
                subst c36
                have H1 : (if t622 = true then (if t624 = true then (if t635 = true then (if t621.size + t623.size ≤ 9223372036854775807 then (if t634.toList = (t621 ++ t623).toList then (if (t639 == t643) = true then (if t639 = true then (if (strOfNums t638).size + (strOfNums t638).size ≤ 9223372036854775807 then (if (strOfNums t642).toList = ((strOfNums t638) ++ (strOfNums t638)).toList then (some true) else (some (t637.toList == ([] : List UInt8)))) else (none)) else (some true)) else (some (t637.toList == ([] : List UInt8)))) else (some false)) else (none)) else (some false)) else (if (t639 == t643) = true then (if t639 = true then (if (strOfNums t638).size + (strOfNums t638).size ≤ 9223372036854775807 then (if (strOfNums t642).toList = ((strOfNums t638) ++ (strOfNums t638)).toList then (some true) else (some (t637.toList == ([] : List UInt8)))) else (none)) else (some true)) else (some (t637.toList == ([] : List UInt8))))) else (if (t639 == t643) = true then (if t639 = true then (if (strOfNums t638).size + (strOfNums t638).size ≤ 9223372036854775807 then (if (strOfNums t642).toList = ((strOfNums t638) ++ (strOfNums t638)).toList then (some true) else (some (t637.toList == ([] : List UInt8)))) else (none)) else (some true)) else (some (t637.toList == ([] : List UInt8))))) = some r := by rw [if_neg (show ¬ (false = true) by decide)] at H; exact H
                clear H
                have H := H1
                clear H1
                by_cases c37 : t622 = true
                · subst c37
                  have H1 : (if t624 = true then (if t635 = true then (if t621.size + t623.size ≤ 9223372036854775807 then (if t634.toList = (t621 ++ t623).toList then (if (t639 == t643) = true then (if t639 = true then (if (strOfNums t638).size + (strOfNums t638).size ≤ 9223372036854775807 then (if (strOfNums t642).toList = ((strOfNums t638) ++ (strOfNums t638)).toList then (some true) else (some (t637.toList == ([] : List UInt8)))) else (none)) else (some true)) else (some (t637.toList == ([] : List UInt8)))) else (some false)) else (none)) else (some false)) else (if (t639 == t643) = true then (if t639 = true then (if (strOfNums t638).size + (strOfNums t638).size ≤ 9223372036854775807 then (if (strOfNums t642).toList = ((strOfNums t638) ++ (strOfNums t638)).toList then (some true) else (some (t637.toList == ([] : List UInt8)))) else (none)) else (some true)) else (some (t637.toList == ([] : List UInt8))))) = some r := by rw [if_pos rfl] at H; exact H
                  clear H
                  have H := H1
                  clear H1
                  by_cases c38 : t624 = true
                  · subst c38
                    have H1 : (if t635 = true then (if t621.size + t623.size ≤ 9223372036854775807 then (if t634.toList = (t621 ++ t623).toList then (if (t639 == t643) = true then (if t639 = true then (if (strOfNums t638).size + (strOfNums t638).size ≤ 9223372036854775807 then (if (strOfNums t642).toList = ((strOfNums t638) ++ (strOfNums t638)).toList then (some true) else (some (t637.toList == ([] : List UInt8)))) else (none)) else (some true)) else (some (t637.toList == ([] : List UInt8)))) else (some false)) else (none)) else (some false)) = some r := by rw [if_pos rfl] at H; exact H
                    clear H
                    have H := H1
                    clear H1
                    by_cases c39 : t635 = true
                    · subst c39
                      have H1 : (if t621.size + t623.size ≤ 9223372036854775807 then (if t634.toList = (t621 ++ t623).toList then (if (t639 == t643) = true then (if t639 = true then (if (strOfNums t638).size + (strOfNums t638).size ≤ 9223372036854775807 then (if (strOfNums t642).toList = ((strOfNums t638) ++ (strOfNums t638)).toList then (some true) else (some (t637.toList == ([] : List UInt8)))) else (none)) else (some true)) else (some (t637.toList == ([] : List UInt8)))) else (some false)) else (none)) = some r := by rw [if_pos rfl] at H; exact H
                      clear H
                      have H := H1
                      clear H1
                      by_cases c40 : t621.size + t623.size ≤ 9223372036854775807
                      · rw [if_pos c40] at H
                        have c40b0 := eq_true c40
                        have c40b1 : decide (t621.size + t623.size ≤ 9223372036854775807) = true := decide_eq_true c40
                        try have c40b2 : (9223372036854775807 < t621.size + t623.size) = False := eq_false (Nat.not_lt.2 c40)
                        by_cases c41 : t634.toList = (t621 ++ t623).toList
                        · rw [if_pos c41] at H
                          have c41b0 : (t634.toList == (t621 ++ t623).toList) = true := beq_iff_eq.mpr c41
                          have c41b1 : (t634.toList != (t621 ++ t623).toList) = false := bne_eq_false_iff_eq.mpr c41
                          clear c41
                          by_cases c42 : (t639 == t643) = true
                          · rw [if_pos c42] at H
                            have c42b0 : (t639 == t643) = true := c42
                            (try (have c42b1 : decide (t639 = t643) = true := by simpa using c42))
                            (try (have c42b2 : (t639 == t643) = true := by simpa using c42))
                            clear c42
                            by_cases c43 : t639 = true
                            · subst c43
                              have H1 : (if (strOfNums t638).size + (strOfNums t638).size ≤ 9223372036854775807 then (if (strOfNums t642).toList = ((strOfNums t638) ++ (strOfNums t638)).toList then (some true) else (some (t637.toList == ([] : List UInt8)))) else (none)) = some r := by rw [if_pos rfl] at H; exact H
                              clear H
                              have H := H1
                              clear H1
                              by_cases c44 : (strOfNums t638).size + (strOfNums t638).size ≤ 9223372036854775807
                              · rw [if_pos c44] at H
                                have c44b0 := eq_true c44
                                have c44b1 : decide ((strOfNums t638).size + (strOfNums t638).size ≤ 9223372036854775807) = true := decide_eq_true c44
                                try have c44b2 : (9223372036854775807 < (strOfNums t638).size + (strOfNums t638).size) = False := eq_false (Nat.not_lt.2 c44)
                                by_cases c45 : (strOfNums t642).toList = ((strOfNums t638) ++ (strOfNums t638)).toList
                                · rw [if_pos c45] at H
                                  have c45b0 : ((strOfNums t642).toList == ((strOfNums t638) ++ (strOfNums t638)).toList) = true := beq_iff_eq.mpr c45
                                  have c45b1 : ((strOfNums t642).toList != ((strOfNums t638) ++ (strOfNums t638)).toList) = false := bne_eq_false_iff_eq.mpr c45
                                  clear c45
                                  obtain rfl := Option.some.inj H
                                  clear hr_
                                  have hcv46 := own_string (P := Tryd.prog) Tryd.underlying23 Tryd.underlying5 Tryd.underlying9 (Kd.own_of_R HO_17.out)
                                  try have hcn46 := fun n_ : Nat => own_string (P := Tryd.prog) Tryd.underlying23 Tryd.underlying5 Tryd.underlying9 (Kd.own_of_R (Kd.R_drewN HO_17.out n_))
                                  have hcv47 := own_string (P := Tryd.prog) Tryd.underlying23 Tryd.underlying5 Tryd.underlying9 (Kd.own_of_R HO_15.out)
                                  try have hcn47 := fun n_ : Nat => own_string (P := Tryd.prog) Tryd.underlying23 Tryd.underlying5 Tryd.underlying9 (Kd.own_of_R (Kd.R_drewN HO_15.out n_))
                                  have hcv48 := own_string (P := Tryd.prog) Tryd.underlying23 Tryd.underlying5 Tryd.underlying9 (Kd.own_of_R HO_15.out)
                                  try have hcn48 := fun n_ : Nat => own_string (P := Tryd.prog) Tryd.underlying23 Tryd.underlying5 Tryd.underlying9 (Kd.own_of_R (Kd.R_drewN HO_15.out n_))
                                  go_wp2
                                  go_ret
                                  exact ⟨rf_, hb_⟩
                                · rw [if_neg c45] at H
                                  have c45b0 : ((strOfNums t642).toList == ((strOfNums t638) ++ (strOfNums t638)).toList) = false := beq_eq_false_iff_ne.mpr c45
                                  have c45b1 : ((strOfNums t642).toList != ((strOfNums t638) ++ (strOfNums t638)).toList) = true := bne_iff_ne.mpr c45
                                  obtain rfl := Option.some.inj H
                                  clear hr_
                                  have hcv49 := own_string (P := Tryd.prog) Tryd.underlying23 Tryd.underlying5 Tryd.underlying9 (Kd.own_of_R HO_17.out)
                                  try have hcn49 := fun n_ : Nat => own_string (P := Tryd.prog) Tryd.underlying23 Tryd.underlying5 Tryd.underlying9 (Kd.own_of_R (Kd.R_drewN HO_17.out n_))
                                  have hcv50 := own_string (P := Tryd.prog) Tryd.underlying23 Tryd.underlying5 Tryd.underlying9 (Kd.own_of_R HO_15.out)
                                  try have hcn50 := fun n_ : Nat => own_string (P := Tryd.prog) Tryd.underlying23 Tryd.underlying5 Tryd.underlying9 (Kd.own_of_R (Kd.R_drewN HO_15.out n_))
                                  have hcv51 := own_string (P := Tryd.prog) Tryd.underlying23 Tryd.underlying5 Tryd.underlying9 (Kd.own_of_R HO_15.out)
                                  try have hcn51 := fun n_ : Nat => own_string (P := Tryd.prog) Tryd.underlying23 Tryd.underlying5 Tryd.underlying9 (Kd.own_of_R (Kd.R_drewN HO_15.out n_))
                                  go_wp2
                                  go_ret
                                  exact ⟨rf_, hb_⟩
                              · rw [if_neg c44] at H
                                exact absurd H (by simp)
                            · replace c43 := Bool.eq_false_iff.mpr c43
                              subst c43
                              have H1 : (some true) = some r := by rw [if_neg (show ¬ (false = true) by decide)] at H; exact H
                              clear H
                              have H := H1
                              clear H1
                              obtain rfl := Option.some.inj H
                              clear hr_
                              go_wp2
                              go_ret
                              exact ⟨rf_, hb_⟩
                          · rw [if_neg c42] at H
                            have c42b0 : (t639 == t643) = false := by simpa using c42
                            (try (have c42b1 : decide (t639 = t643) = false := by simpa using c42))
                            (try (have c42b2 : (t639 == t643) = false := by simpa using c42))
                            (try (have c42b3 : ¬ (t639 = t643) := by simpa using c42))
                            clear c42
                            obtain rfl := Option.some.inj H
                            clear hr_
                            go_wp2
                            go_ret
                            exact ⟨rf_, hb_⟩
                        · rw [if_neg c41] at H
                          have c41b0 : (t634.toList == (t621 ++ t623).toList) = false := beq_eq_false_iff_ne.mpr c41
                          have c41b1 : (t634.toList != (t621 ++ t623).toList) = true := bne_iff_ne.mpr c41
                          obtain rfl := Option.some.inj H
                          cases hr_
                      · rw [if_neg c40] at H
                        exact absurd H (by simp)
                    · replace c39 := Bool.eq_false_iff.mpr c39
                      subst c39
                      have H1 : (some false) = some r := by rw [if_neg (show ¬ (false = true) by decide)] at H; exact H
                      clear H
                      have H := H1
                      clear H1
                      obtain rfl := Option.some.inj H
                      cases hr_
                  · replace c38 := Bool.eq_false_iff.mpr c38
                    subst c38
                    have H1 : (if (t639 == t643) = true then (if t639 = true then (if (strOfNums t638).size + (strOfNums t638).size ≤ 9223372036854775807 then (if (strOfNums t642).toList = ((strOfNums t638) ++ (strOfNums t638)).toList then (some true) else (some (t637.toList == ([] : List UInt8)))) else (none)) else (some true)) else (some (t637.toList == ([] : List UInt8)))) = some r := by rw [if_neg (show ¬ (false = true) by decide)] at H; exact H
                    clear H
                    have H := H1
                    clear H1
                    by_cases c52 : (t639 == t643) = true
                    · rw [if_pos c52] at H
                      have c52b0 : (t639 == t643) = true := c52
                      (try (have c52b1 : decide (t639 = t643) = true := by simpa using c52))
                      (try (have c52b2 : (t639 == t643) = true := by simpa using c52))
                      clear c52
                      by_cases c53 : t639 = true
                      · subst c53
                        have H1 : (if (strOfNums t638).size + (strOfNums t638).size ≤ 9223372036854775807 then (if (strOfNums t642).toList = ((strOfNums t638) ++ (strOfNums t638)).toList then (some true) else (some (t637.toList == ([] : List UInt8)))) else (none)) = some r := by rw [if_pos rfl] at H; exact H
                        clear H
                        have H := H1
                        clear H1
                        by_cases c54 : (strOfNums t638).size + (strOfNums t638).size ≤ 9223372036854775807
                        · rw [if_pos c54] at H
                          have c54b0 := eq_true c54
                          have c54b1 : decide ((strOfNums t638).size + (strOfNums t638).size ≤ 9223372036854775807) = true := decide_eq_true c54
                          try have c54b2 : (9223372036854775807 < (strOfNums t638).size + (strOfNums t638).size) = False := eq_false (Nat.not_lt.2 c54)
                          by_cases c55 : (strOfNums t642).toList = ((strOfNums t638) ++ (strOfNums t638)).toList
                          · rw [if_pos c55] at H
                            have c55b0 : ((strOfNums t642).toList == ((strOfNums t638) ++ (strOfNums t638)).toList) = true := beq_iff_eq.mpr c55
                            have c55b1 : ((strOfNums t642).toList != ((strOfNums t638) ++ (strOfNums t638)).toList) = false := bne_eq_false_iff_eq.mpr c55
                            clear c55
                            obtain rfl := Option.some.inj H
                            clear hr_
                            have hcv56 := own_string (P := Tryd.prog) Tryd.underlying23 Tryd.underlying5 Tryd.underlying9 (Kd.own_of_R HO_17.out)
                            try have hcn56 := fun n_ : Nat => own_string (P := Tryd.prog) Tryd.underlying23 Tryd.underlying5 Tryd.underlying9 (Kd.own_of_R (Kd.R_drewN HO_17.out n_))
                            have hcv57 := own_string (P := Tryd.prog) Tryd.underlying23 Tryd.underlying5 Tryd.underlying9 (Kd.own_of_R HO_15.out)
                            try have hcn57 := fun n_ : Nat => own_string (P := Tryd.prog) Tryd.underlying23 Tryd.underlying5 Tryd.underlying9 (Kd.own_of_R (Kd.R_drewN HO_15.out n_))
                            have hcv58 := own_string (P := Tryd.prog) Tryd.underlying23 Tryd.underlying5 Tryd.underlying9 (Kd.own_of_R HO_15.out)
                            try have hcn58 := fun n_ : Nat => own_string (P := Tryd.prog) Tryd.underlying23 Tryd.underlying5 Tryd.underlying9 (Kd.own_of_R (Kd.R_drewN HO_15.out n_))
                            go_wp2
                            go_ret
                            exact ⟨rf_, hb_⟩
                          · rw [if_neg c55] at H
                            have c55b0 : ((strOfNums t642).toList == ((strOfNums t638) ++ (strOfNums t638)).toList) = false := beq_eq_false_iff_ne.mpr c55
                            have c55b1 : ((strOfNums t642).toList != ((strOfNums t638) ++ (strOfNums t638)).toList) = true := bne_iff_ne.mpr c55
                            obtain rfl := Option.some.inj H
                            clear hr_
                            have hcv59 := own_string (P := Tryd.prog) Tryd.underlying23 Tryd.underlying5 Tryd.underlying9 (Kd.own_of_R HO_17.out)
                            try have hcn59 := fun n_ : Nat => own_string (P := Tryd.prog) Tryd.underlying23 Tryd.underlying5 Tryd.underlying9 (Kd.own_of_R (Kd.R_drewN HO_17.out n_))
                            have hcv60 := own_string (P := Tryd.prog) Tryd.underlying23 Tryd.underlying5 Tryd.underlying9 (Kd.own_of_R HO_15.out)
                            try have hcn60 := fun n_ : Nat => own_string (P := Tryd.prog) Tryd.underlying23 Tryd.underlying5 Tryd.underlying9 (Kd.own_of_R (Kd.R_drewN HO_15.out n_))
                            have hcv61 := own_string (P := Tryd.prog) Tryd.underlying23 Tryd.underlying5 Tryd.underlying9 (Kd.own_of_R HO_15.out)
                            try have hcn61 := fun n_ : Nat => own_string (P := Tryd.prog) Tryd.underlying23 Tryd.underlying5 Tryd.underlying9 (Kd.own_of_R (Kd.R_drewN HO_15.out n_))
                            go_wp2
                            go_ret
                            exact ⟨rf_, hb_⟩
                        · rw [if_neg c54] at H
                          exact absurd H (by simp)
                      · replace c53 := Bool.eq_false_iff.mpr c53
                        subst c53
                        have H1 : (some true) = some r := by rw [if_neg (show ¬ (false = true) by decide)] at H; exact H
                        clear H
                        have H := H1
                        clear H1
                        obtain rfl := Option.some.inj H
                        clear hr_
                        go_wp2
                        go_ret
                        exact ⟨rf_, hb_⟩
                    · rw [if_neg c52] at H
                      have c52b0 : (t639 == t643) = false := by simpa using c52
                      (try (have c52b1 : decide (t639 = t643) = false := by simpa using c52))
                      (try (have c52b2 : (t639 == t643) = false := by simpa using c52))
                      (try (have c52b3 : ¬ (t639 = t643) := by simpa using c52))
                      clear c52
                      obtain rfl := Option.some.inj H
                      clear hr_
                      go_wp2
                      go_ret
                      exact ⟨rf_, hb_⟩
                · replace c37 := Bool.eq_false_iff.mpr c37
                  subst c37
                  have H1 : (if (t639 == t643) = true then (if t639 = true then (if (strOfNums t638).size + (strOfNums t638).size ≤ 9223372036854775807 then (if (strOfNums t642).toList = ((strOfNums t638) ++ (strOfNums t638)).toList then (some true) else (some (t637.toList == ([] : List UInt8)))) else (none)) else (some true)) else (some (t637.toList == ([] : List UInt8)))) = some r := by rw [if_neg (show ¬ (false = true) by decide)] at H; exact H
                  clear H
                  have H := H1
                  clear H1
                  by_cases c62 : (t639 == t643) = true
                  · rw [if_pos c62] at H
                    have c62b0 : (t639 == t643) = true := c62
                    (try (have c62b1 : decide (t639 = t643) = true := by simpa using c62))
                    (try (have c62b2 : (t639 == t643) = true := by simpa using c62))
                    clear c62
                    by_cases c63 : t639 = true
                    · subst c63
                      have H1 : (if (strOfNums t638).size + (strOfNums t638).size ≤ 9223372036854775807 then (if (strOfNums t642).toList = ((strOfNums t638) ++ (strOfNums t638)).toList then (some true) else (some (t637.toList == ([] : List UInt8)))) else (none)) = some r := by rw [if_pos rfl] at H; exact H
                      clear H
                      have H := H1
                      clear H1
                      by_cases c64 : (strOfNums t638).size + (strOfNums t638).size ≤ 9223372036854775807
                      · rw [if_pos c64] at H
                        have c64b0 := eq_true c64
                        have c64b1 : decide ((strOfNums t638).size + (strOfNums t638).size ≤ 9223372036854775807) = true := decide_eq_true c64
                        try have c64b2 : (9223372036854775807 < (strOfNums t638).size + (strOfNums t638).size) = False := eq_false (Nat.not_lt.2 c64)
                        by_cases c65 : (strOfNums t642).toList = ((strOfNums t638) ++ (strOfNums t638)).toList
                        · rw [if_pos c65] at H
                          have c65b0 : ((strOfNums t642).toList == ((strOfNums t638) ++ (strOfNums t638)).toList) = true := beq_iff_eq.mpr c65
                          have c65b1 : ((strOfNums t642).toList != ((strOfNums t638) ++ (strOfNums t638)).toList) = false := bne_eq_false_iff_eq.mpr c65
                          clear c65
                          obtain rfl := Option.some.inj H
                          clear hr_
                          have hcv66 := own_string (P := Tryd.prog) Tryd.underlying23 Tryd.underlying5 Tryd.underlying9 (Kd.own_of_R HO_17.out)
                          try have hcn66 := fun n_ : Nat => own_string (P := Tryd.prog) Tryd.underlying23 Tryd.underlying5 Tryd.underlying9 (Kd.own_of_R (Kd.R_drewN HO_17.out n_))
                          have hcv67 := own_string (P := Tryd.prog) Tryd.underlying23 Tryd.underlying5 Tryd.underlying9 (Kd.own_of_R HO_15.out)
                          try have hcn67 := fun n_ : Nat => own_string (P := Tryd.prog) Tryd.underlying23 Tryd.underlying5 Tryd.underlying9 (Kd.own_of_R (Kd.R_drewN HO_15.out n_))
                          have hcv68 := own_string (P := Tryd.prog) Tryd.underlying23 Tryd.underlying5 Tryd.underlying9 (Kd.own_of_R HO_15.out)
                          try have hcn68 := fun n_ : Nat => own_string (P := Tryd.prog) Tryd.underlying23 Tryd.underlying5 Tryd.underlying9 (Kd.own_of_R (Kd.R_drewN HO_15.out n_))
                          go_wp2
                          go_ret
                          exact ⟨rf_, hb_⟩
                        · rw [if_neg c65] at H
                          have c65b0 : ((strOfNums t642).toList == ((strOfNums t638) ++ (strOfNums t638)).toList) = false := beq_eq_false_iff_ne.mpr c65
                          have c65b1 : ((strOfNums t642).toList != ((strOfNums t638) ++ (strOfNums t638)).toList) = true := bne_iff_ne.mpr c65
                          obtain rfl := Option.some.inj H
                          clear hr_
                          have hcv69 := own_string (P := Tryd.prog) Tryd.underlying23 Tryd.underlying5 Tryd.underlying9 (Kd.own_of_R HO_17.out)
                          try have hcn69 := fun n_ : Nat => own_string (P := Tryd.prog) Tryd.underlying23 Tryd.underlying5 Tryd.underlying9 (Kd.own_of_R (Kd.R_drewN HO_17.out n_))
                          have hcv70 := own_string (P := Tryd.prog) Tryd.underlying23 Tryd.underlying5 Tryd.underlying9 (Kd.own_of_R HO_15.out)
                          try have hcn70 := fun n_ : Nat => own_string (P := Tryd.prog) Tryd.underlying23 Tryd.underlying5 Tryd.underlying9 (Kd.own_of_R (Kd.R_drewN HO_15.out n_))
                          have hcv71 := own_string (P := Tryd.prog) Tryd.underlying23 Tryd.underlying5 Tryd.underlying9 (Kd.own_of_R HO_15.out)
                          try have hcn71 := fun n_ : Nat => own_string (P := Tryd.prog) Tryd.underlying23 Tryd.underlying5 Tryd.underlying9 (Kd.own_of_R (Kd.R_drewN HO_15.out n_))
                          go_wp2
                          go_ret
                          exact ⟨rf_, hb_⟩
                      · rw [if_neg c64] at H
                        exact absurd H (by simp)
                    · replace c63 := Bool.eq_false_iff.mpr c63
                      subst c63
                      have H1 : (some true) = some r := by rw [if_neg (show ¬ (false = true) by decide)] at H; exact H
                      clear H
                      have H := H1
                      clear H1
                      obtain rfl := Option.some.inj H
                      clear hr_
                      go_wp2
                      go_ret
                      exact ⟨rf_, hb_⟩
                  · rw [if_neg c62] at H
                    have c62b0 : (t639 == t643) = false := by simpa using c62
                    (try (have c62b1 : decide (t639 = t643) = false := by simpa using c62))
                    (try (have c62b2 : (t639 == t643) = false := by simpa using c62))
                    (try (have c62b3 : ¬ (t639 = t643) := by simpa using c62))
                    clear c62
                    obtain rfl := Option.some.inj H
                    clear hr_
                    go_wp2
                    go_ret
                    exact ⟨rf_, hb_⟩
        · rw [if_neg c13] at H
          exact absurd H (by simp)
      · rw [if_neg c9] at H
        exact absurd H (by simp)
    · rw [if_neg c8] at H
      exact absurd H (by simp)

/-- THE ONE PURE STATEMENT of laws_FnJoined: yours. -/
def laws_FnJoined.Pure : Prop := ∀ (l0 : List Int), l0.length ≤ maxLen → l0.length * 1 ≤ 140737488351232 → (∀ x ∈ l0, (Lit.int .u8 x).wf = true) → ∃ k, laws_FnJoined.f k l0 = some true
theorem laws_FnJoined.walk (P : laws_FnJoined.Pure) (a0 : Option Addr) (len0 cap0 : Nat) (z0 : List Int) (w : World) (hT : TabsOk w) (w0 : (a0 = none ∧ len0 = 0 ∧ cap0 = 0 ∧ z0 = []) ∨ ∃ x, a0 = some x ∧ len0 ≤ cap0 ∧ cap0 ≤ maxLen ∧ z0.length = cap0 ∧ (∀ i, i < z0.length → w.cell? (x.add i) = some (.int .u8 (z0.getD i 0))) ∧ ∀ n ∈ z0, (Lit.int .u8 n).wf = true) (y0 : len0 * 1 ≤ 140737488351232) :
    Calls Tryd.prog 12 #[.slice a0 len0 cap0] w fun e w' => e = .returned (.bool true) ∧ Below w.heap.size w w' := by
  obtain ⟨l0, rfl, hr0, hm0, hw0, hc0⟩ := ReadsInt.ofRowC w0
  obtain ⟨k, h⟩ := P l0 hm0 y0 hw0
  refine (laws_FnJoined.calls (hT := hT) k _ _ l0 true w (Kd.C_of_reads (d := (0 : Int)) (h1 := fun _ => rfl) hr0) hc0 h rfl).mono ?_
  rintro e w' ⟨rfl, hd⟩
  exact ⟨rfl, hd⟩

end Go.Proofs.YtpmimhbnmjffpaaDoor.QFnJoined
