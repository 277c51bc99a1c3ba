/- The functions that a law reaches, each as a plain function, and that Go comes to just its answer: written by the session's program pp.py (the kit's print, with a few rows turned). -/
import Derived.Test.YtpmimhbnmjffpaaDoorQFnCodesx0
import Derived.Test.YtpmimhbnmjffpaaDoorQFnCodesx4
import Derived.Test.YtpmimhbnmjffpaaDoorQFnCodesx6
import Derived.Test.YtpmimhbnmjffpaaDoorQFnCodesx7
import Derived.Test.YtpmimhbnmjffpaaDoorQFnCodesx8
import Derived.Test.YtpmimhbnmjffpaaDoorQFnCodesx9
namespace Go.Proofs.YtpmimhbnmjffpaaDoor.QFnCodes
open Go.RowKit Go.Proofs.YtpmimhbnmjffpaaDoorW.PrintWords Go.Proofs.YtpmimhbnmjffpaaDoorW.PrintLast Go.Proofs.YtpmimhbnmjffpaaDoorW.PrintMore Go.Proofs.YtpmimhbnmjffpaaDoor.Xw Go.Proofs.YtpmimhbnmjffpaaDoor.Xs Go.Proofs.YtpmimhbnmjffpaaDoor.Ext
attribute [local go_sem] max2_int min2_int max_two min_two max_three min_three max_four min_four   -- for this text's walks alone
set_option linter.unusedVariables false
set_option linter.unusedSimpArgs false

/-! ### impl_Utf8Ok: function 65 -/
def impl_Utf8Ok.f (a0 : ByteArray) : Option (Bool) := (utf8_ValidString.f a0).bind fun t621 => (some t621)
set_option maxHeartbeats 8000000 in
set_option maxRecDepth 100000 in
theorem impl_Utf8Ok.calls (a0 : ByteArray) (r : Bool) (w : World) (hT : TabsOk w) (h : impl_Utf8Ok.f a0 = some r) :
    Calls Tryd.prog 65 #[.string a0] w fun e w' => e = .returned (.bool r) ∧ Below w.heap.size w w' := by
  have HT := Aside0.mk hT
  clear hT
  have HB := Aside0.mk (Below.refl w.heap.size w)
  have H : ((utf8_ValidString.f a0).bind fun t621 => (some t621)) = some r := h
  clear h
  replace H := Option.bind_eq_some_iff.mp H
  obtain ⟨t621, A20, H⟩ := H
  replace H : (some t621) = some r := H
  have A2 := Aside0.mk A20
  clear A20
  obtain rfl := Option.some.inj H
  go_enter Tryd.func65, Tryd.ntmps65
  go_wp2_with (first | ((with_reducible refine gate_callee (f := 97) rfl ?_); refine goesL_ (some 4) rfl rfl Tryd.func97 (by kernel_rfl) rfl #[.string a0] rfl ka_ ?_; (with_reducible refine (utf8_ValidString.calls (hT := ?sideT) a0 t621 _ A2.out).mono ?_); (case sideT => first | exact HT.out | exact HT.out.below hb_ | exact HT.out.drawn (by repeat (first | exact Drawn0.refl _ | apply Drawn0.step | assumption))); rintro e w3 ⟨rfl, hb⟩; refine ⟨_, rfl, ?_⟩; have n0_ := Aside0.mk (below_step hb_ hb); clear HB; have HB := n0_; clear n0_; (try clear hb); (try clear hb2); (try clear hk); (try clear hi)))
  go_ret
  exact ⟨rf_, hb_⟩

/-! ### laws_FnCodes: function 14 -/
mutual
def laws_FnCodes.j0 : Nat → Int → List Int → ByteArray → Bool → Int → ByteArray → List Int → Bool → Bool → Option (Bool)
  | 0, _, _, _, _, _, _, _, _, _ => none
  | k + 1, x3, x4, x5, x6, x9, x10, x11, x12, x97 => if x97 = true then (some false) else (if x6 = true then ((impl_Encode.f k x3 x5).bind fun bt646 => (if bt646.2 = true then (if (strOfNums bt646.1).toList = (strOfNums x4).toList then ((impl_Utf8Ok.f x5).bind fun t650 => (laws_FnCodes.j1 k x9 x10 x11 x12 (!t650))) else (laws_FnCodes.j1 k x9 x10 x11 x12 true)) else (laws_FnCodes.j1 k x9 x10 x11 x12 true))) else (if x12 = true then ((impl_Decode.f k x9 x11).bind fun bt653 => (if bt653.2 = true then (some (bt653.1.toList == x10.toList)) else (some false))) else (some true)))
def laws_FnCodes.j1 : Nat → Int → ByteArray → List Int → Bool → Bool → Option (Bool)
  | 0, _, _, _, _, _ => none
  | k + 1, x9, x10, x11, x12, x118 => if x118 = true then (some false) else (if x12 = true then ((impl_Decode.f k x9 x11).bind fun bt651 => (if bt651.2 = true then (some (bt651.1.toList == x10.toList)) else (some false))) else (some true))
end
def laws_FnCodes.f (k : Nat) (l0 : List Int) : Option (Bool) := (laws_big.f l0).bind fun t622 => (if t622 = true then (some true) else ((spec_DrawDecode.f k l0).bind fun bt623 => ((impl_Decode.f k bt623.1 bt623.2).bind fun bt627 => ((spec_Decode.f k bt623.1 bt623.2).bind fun bt629 => ((spec_DrawEncode.f k l0).bind fun bt631 => ((impl_Encode.f k bt631.1 bt631.2).bind fun bt633 => ((spec_Encode.f k bt631.1 bt631.2).bind fun bt637 => ((spec_DrawFits.f k l0).bind fun bt641 => (if (bt627.2 != bt629.2) = true then (laws_FnCodes.j0 k bt623.1 bt623.2 bt627.1 bt627.2 bt631.1 bt631.2 bt633.1 bt633.2 true) else (if bt627.1.toList = bt629.1.toList then (if (bt633.2 != bt637.2) = true then (laws_FnCodes.j0 k bt623.1 bt623.2 bt627.1 bt627.2 bt631.1 bt631.2 bt633.1 bt633.2 true) else (if (strOfNums bt633.1).toList = (strOfNums bt637.1).toList then ((impl_Fits.f k bt641.1 bt641.2).bind fun t643 => ((spec_Fits.f k bt641.1 bt641.2).bind fun t644 => (if (t643 != t644) = true then (laws_FnCodes.j0 k bt623.1 bt623.2 bt627.1 bt627.2 bt631.1 bt631.2 bt633.1 bt633.2 true) else ((impl_Fits.f k bt631.1 bt631.2).bind fun t645 => (laws_FnCodes.j0 k bt623.1 bt623.2 bt627.1 bt627.2 bt631.1 bt631.2 bt633.1 bt633.2 (t645 != bt633.2)))))) else (laws_FnCodes.j0 k bt623.1 bt623.2 bt627.1 bt627.2 bt631.1 bt631.2 bt633.1 bt633.2 true))) else (laws_FnCodes.j0 k bt623.1 bt623.2 bt627.1 bt627.2 bt631.1 bt631.2 bt633.1 bt633.2 true)))))))))))
theorem laws_FnCodes.mono_l : ∀ k, (∀ y0 y1 y2 y3 y4 y5 y6 y7 y8, LeO (laws_FnCodes.j0 k y0 y1 y2 y3 y4 y5 y6 y7 y8) (laws_FnCodes.j0 (k + 1) y0 y1 y2 y3 y4 y5 y6 y7 y8)) ∧ (∀ y0 y1 y2 y3 y4, LeO (laws_FnCodes.j1 k y0 y1 y2 y3 y4) (laws_FnCodes.j1 (k + 1) y0 y1 y2 y3 y4))
  | 0 => ⟨fun _ _ _ _ _ _ _ _ _ r h => by simp [laws_FnCodes.j0] at h, fun _ _ _ _ _ r h => by simp [laws_FnCodes.j1] at h⟩
  | k + 1 => by
    obtain ⟨ih0, ih1⟩ := laws_FnCodes.mono_l k
    refine ⟨?_, ?_⟩
    · intro y0 y1 y2 y3 y4 y5 y6 y7 y8
      unfold laws_FnCodes.j0
      repeat' first
      | (with_reducible exact ih0 _ _ _ _ _ _ _ _ _)
      | (with_reducible exact ih1 _ _ _ _ _)
      | (with_reducible exact impl_Decode.mono _ _ _)
      | (with_reducible exact impl_Encode.mono _ _ _)
      | (with_reducible exact impl_Fits.mono _ _ _)
      | (with_reducible exact spec_Decode.mono _ _ _)
      | (with_reducible exact spec_DrawDecode.mono _ _)
      | (with_reducible exact spec_DrawEncode.mono _ _)
      | (with_reducible exact spec_DrawFits.mono _ _)
      | (with_reducible exact spec_Encode.mono _ _ _)
      | (with_reducible exact spec_Fits.mono _ _ _)
      | (with_reducible exact LeO.refl _)
      | (with_reducible exact LeO.none _)
      | (with_reducible refine LeO.ite ?_ ?_)
      | (with_reducible refine LeO.bind ?_ (fun _ => ?_))
      | exact ih0 _ _ _ _ _ _ _ _ _
      | exact ih1 _ _ _ _ _
      | exact impl_Decode.mono _ _ _
      | exact impl_Encode.mono _ _ _
      | exact impl_Fits.mono _ _ _
      | exact spec_Decode.mono _ _ _
      | exact spec_DrawDecode.mono _ _
      | exact spec_DrawEncode.mono _ _
      | exact spec_DrawFits.mono _ _
      | exact spec_Encode.mono _ _ _
      | exact spec_Fits.mono _ _ _
      | exact LeO.none _
      | refine LeO.ite ?_ ?_
      | refine LeO.bind ?_ (fun _ => ?_)
    · intro y0 y1 y2 y3 y4
      unfold laws_FnCodes.j1
      repeat' first
      | (with_reducible exact ih0 _ _ _ _ _ _ _ _ _)
      | (with_reducible exact ih1 _ _ _ _ _)
      | (with_reducible exact impl_Decode.mono _ _ _)
      | (with_reducible exact impl_Encode.mono _ _ _)
      | (with_reducible exact impl_Fits.mono _ _ _)
      | (with_reducible exact spec_Decode.mono _ _ _)
      | (with_reducible exact spec_DrawDecode.mono _ _)
      | (with_reducible exact spec_DrawEncode.mono _ _)
      | (with_reducible exact spec_DrawFits.mono _ _)
      | (with_reducible exact spec_Encode.mono _ _ _)
      | (with_reducible exact spec_Fits.mono _ _ _)
      | (with_reducible exact LeO.refl _)
      | (with_reducible exact LeO.none _)
      | (with_reducible refine LeO.ite ?_ ?_)
      | (with_reducible refine LeO.bind ?_ (fun _ => ?_))
      | exact ih0 _ _ _ _ _ _ _ _ _
      | exact ih1 _ _ _ _ _
      | exact impl_Decode.mono _ _ _
      | exact impl_Encode.mono _ _ _
      | exact impl_Fits.mono _ _ _
      | exact spec_Decode.mono _ _ _
      | exact spec_DrawDecode.mono _ _
      | exact spec_DrawEncode.mono _ _
      | exact spec_DrawFits.mono _ _
      | exact spec_Encode.mono _ _ _
      | exact spec_Fits.mono _ _ _
      | exact LeO.none _
      | refine LeO.ite ?_ ?_
      | refine LeO.bind ?_ (fun _ => ?_)
theorem laws_FnCodes.mono : ∀ a0 k, LeO (laws_FnCodes.f k a0) (laws_FnCodes.f (k + 1) a0) := by
  intro a0 k
  obtain ⟨ih0, ih1⟩ := laws_FnCodes.mono_l k
  unfold laws_FnCodes.f
  repeat' first
      | (with_reducible exact ih0 _ _ _ _ _ _ _ _ _)
      | (with_reducible exact ih1 _ _ _ _ _)
      | (with_reducible exact impl_Decode.mono _ _ _)
      | (with_reducible exact impl_Encode.mono _ _ _)
      | (with_reducible exact impl_Fits.mono _ _ _)
      | (with_reducible exact spec_Decode.mono _ _ _)
      | (with_reducible exact spec_DrawDecode.mono _ _)
      | (with_reducible exact spec_DrawEncode.mono _ _)
      | (with_reducible exact spec_DrawFits.mono _ _)
      | (with_reducible exact spec_Encode.mono _ _ _)
      | (with_reducible exact spec_Fits.mono _ _ _)
      | (with_reducible exact LeO.refl _)
      | (with_reducible exact LeO.none _)
      | (with_reducible refine LeO.ite ?_ ?_)
      | (with_reducible refine LeO.bind ?_ (fun _ => ?_))
      | exact ih0 _ _ _ _ _ _ _ _ _
      | exact ih1 _ _ _ _ _
      | exact impl_Decode.mono _ _ _
      | exact impl_Encode.mono _ _ _
      | exact impl_Fits.mono _ _ _
      | exact spec_Decode.mono _ _ _
      | exact spec_DrawDecode.mono _ _
      | exact spec_DrawEncode.mono _ _
      | exact spec_DrawFits.mono _ _
      | exact spec_Encode.mono _ _ _
      | exact spec_Fits.mono _ _ _
      | exact LeO.none _
      | refine LeO.ite ?_ ?_
      | refine LeO.bind ?_ (fun _ => ?_)
set_option maxHeartbeats 8000000 in
set_option maxRecDepth 100000 in
theorem laws_FnCodes.calls (k : Nat) (A0 : Option Addr) (c0 : Nat) (l0 : List Int) (r : Bool) (w : World) (hT : TabsOk w) (hr0 : Kd.C (Kd.int .u8) w A0 l0.length l0) (hc0 : l0.length ≤ c0) (h : laws_FnCodes.f k l0 = some r) (hr_ : r = true) :
    Calls Tryd.prog 14 #[.slice A0 l0.length c0] w fun e w' => e = .returned (.bool r) ∧ Below w.heap.size w w' := by
  have HT := Aside0.mk hT
  clear hT
  have HR0 := Aside0.mk hr0
  have HC0 := Aside0.mk hc0
  clear hr0 hc0
  have HB := Aside0.mk (Below.refl w.heap.size w)
  have H : ((laws_big.f l0).bind fun t622 => (if t622 = true then (some true) else ((spec_DrawDecode.f k l0).bind fun bt623 => ((impl_Decode.f k bt623.1 bt623.2).bind fun bt627 => ((spec_Decode.f k bt623.1 bt623.2).bind fun bt629 => ((spec_DrawEncode.f k l0).bind fun bt631 => ((impl_Encode.f k bt631.1 bt631.2).bind fun bt633 => ((spec_Encode.f k bt631.1 bt631.2).bind fun bt637 => ((spec_DrawFits.f k l0).bind fun bt641 => (if (bt627.2 != bt629.2) = true then (laws_FnCodes.j0 k bt623.1 bt623.2 bt627.1 bt627.2 bt631.1 bt631.2 bt633.1 bt633.2 true) else (if bt627.1.toList = bt629.1.toList then (if (bt633.2 != bt637.2) = true then (laws_FnCodes.j0 k bt623.1 bt623.2 bt627.1 bt627.2 bt631.1 bt631.2 bt633.1 bt633.2 true) else (if (strOfNums bt633.1).toList = (strOfNums bt637.1).toList then ((impl_Fits.f k bt641.1 bt641.2).bind fun t643 => ((spec_Fits.f k bt641.1 bt641.2).bind fun t644 => (if (t643 != t644) = true then (laws_FnCodes.j0 k bt623.1 bt623.2 bt627.1 bt627.2 bt631.1 bt631.2 bt633.1 bt633.2 true) else ((impl_Fits.f k bt631.1 bt631.2).bind fun t645 => (laws_FnCodes.j0 k bt623.1 bt623.2 bt627.1 bt627.2 bt631.1 bt631.2 bt633.1 bt633.2 (t645 != bt633.2)))))) else (laws_FnCodes.j0 k bt623.1 bt623.2 bt627.1 bt627.2 bt631.1 bt631.2 bt633.1 bt633.2 true))) else (laws_FnCodes.j0 k bt623.1 bt623.2 bt627.1 bt627.2 bt631.1 bt631.2 bt633.1 bt633.2 true)))))))))))) = some r := h
  clear h
  replace H := Option.bind_eq_some_iff.mp H
  obtain ⟨t622, A20, H⟩ := H
  replace H : (if t622 = true then (some true) else ((spec_DrawDecode.f k l0).bind fun bt623 => ((impl_Decode.f k bt623.1 bt623.2).bind fun bt627 => ((spec_Decode.f k bt623.1 bt623.2).bind fun bt629 => ((spec_DrawEncode.f k l0).bind fun bt631 => ((impl_Encode.f k bt631.1 bt631.2).bind fun bt633 => ((spec_Encode.f k bt631.1 bt631.2).bind fun bt637 => ((spec_DrawFits.f k l0).bind fun bt641 => (if (bt627.2 != bt629.2) = true then (laws_FnCodes.j0 k bt623.1 bt623.2 bt627.1 bt627.2 bt631.1 bt631.2 bt633.1 bt633.2 true) else (if bt627.1.toList = bt629.1.toList then (if (bt633.2 != bt637.2) = true then (laws_FnCodes.j0 k bt623.1 bt623.2 bt627.1 bt627.2 bt631.1 bt631.2 bt633.1 bt633.2 true) else (if (strOfNums bt633.1).toList = (strOfNums bt637.1).toList then ((impl_Fits.f k bt641.1 bt641.2).bind fun t643 => ((spec_Fits.f k bt641.1 bt641.2).bind fun t644 => (if (t643 != t644) = true then (laws_FnCodes.j0 k bt623.1 bt623.2 bt627.1 bt627.2 bt631.1 bt631.2 bt633.1 bt633.2 true) else ((impl_Fits.f k bt631.1 bt631.2).bind fun t645 => (laws_FnCodes.j0 k bt623.1 bt623.2 bt627.1 bt627.2 bt631.1 bt631.2 bt633.1 bt633.2 (t645 != bt633.2)))))) else (laws_FnCodes.j0 k bt623.1 bt623.2 bt627.1 bt627.2 bt631.1 bt631.2 bt633.1 bt633.2 true))) else (laws_FnCodes.j0 k bt623.1 bt623.2 bt627.1 bt627.2 bt631.1 bt631.2 bt633.1 bt633.2 true))))))))))) = some r := H
  have A2 := Aside0.mk A20
  clear A20
  by_cases c3 : t622 = true
  · subst c3
    have H1 : (some true) = some r := by rw [if_pos rfl] at H; exact H
    clear H
    have H := H1
    clear H1
    obtain rfl := Option.some.inj H
    clear hr_
    go_enter Tryd.func14, Tryd.ntmps14
    go_wp2_with (first | ((with_reducible refine gate_callee (f := 42) rfl ?_); refine goesL_ (some 22) rfl rfl Tryd.func42 (by kernel_rfl) rfl #[.slice A0 l0.length c0] rfl ka_ ?_; (with_reducible refine (laws_big.calls _ _ l0 true _ ?side1 ?side2 A2.out).mono ?_); (case side1 => repeat (first | exact HR0.out | (with_reducible refine Kd.C_alloc ?_ _) | (with_reducible refine Kd.C_drewN ?_ _) | (with_reducible refine Kd.C_drew ?_))); (case side2 => exact HC0.out); rintro e w' ⟨rfl, ⟨nd, rfl⟩⟩; refine ⟨_, rfl, ?_⟩))
    go_ret
    exact ⟨rf_, hb_⟩
  · replace c3 := Bool.eq_false_iff.mpr c3
    subst c3
    have H1 : ((spec_DrawDecode.f k l0).bind fun bt623 => ((impl_Decode.f k bt623.1 bt623.2).bind fun bt627 => ((spec_Decode.f k bt623.1 bt623.2).bind fun bt629 => ((spec_DrawEncode.f k l0).bind fun bt631 => ((impl_Encode.f k bt631.1 bt631.2).bind fun bt633 => ((spec_Encode.f k bt631.1 bt631.2).bind fun bt637 => ((spec_DrawFits.f k l0).bind fun bt641 => (if (bt627.2 != bt629.2) = true then (laws_FnCodes.j0 k bt623.1 bt623.2 bt627.1 bt627.2 bt631.1 bt631.2 bt633.1 bt633.2 true) else (if bt627.1.toList = bt629.1.toList then (if (bt633.2 != bt637.2) = true then (laws_FnCodes.j0 k bt623.1 bt623.2 bt627.1 bt627.2 bt631.1 bt631.2 bt633.1 bt633.2 true) else (if (strOfNums bt633.1).toList = (strOfNums bt637.1).toList then ((impl_Fits.f k bt641.1 bt641.2).bind fun t643 => ((spec_Fits.f k bt641.1 bt641.2).bind fun t644 => (if (t643 != t644) = true then (laws_FnCodes.j0 k bt623.1 bt623.2 bt627.1 bt627.2 bt631.1 bt631.2 bt633.1 bt633.2 true) else ((impl_Fits.f k bt631.1 bt631.2).bind fun t645 => (laws_FnCodes.j0 k bt623.1 bt623.2 bt627.1 bt627.2 bt631.1 bt631.2 bt633.1 bt633.2 (t645 != bt633.2)))))) else (laws_FnCodes.j0 k bt623.1 bt623.2 bt627.1 bt627.2 bt631.1 bt631.2 bt633.1 bt633.2 true))) else (laws_FnCodes.j0 k bt623.1 bt623.2 bt627.1 bt627.2 bt631.1 bt631.2 bt633.1 bt633.2 true)))))))))) = some r := by rw [if_neg (show ¬ (false = true) by decide)] at H; exact H
    clear H
    have H := H1
    clear H1
    replace H := Option.bind_eq_some_iff.mp H
    obtain ⟨⟨t623, t624⟩, A40, H⟩ := H
    replace H : ((impl_Decode.f k t623 t624).bind fun bt627 => ((spec_Decode.f k t623 t624).bind fun bt629 => ((spec_DrawEncode.f k l0).bind fun bt631 => ((impl_Encode.f k bt631.1 bt631.2).bind fun bt633 => ((spec_Encode.f k bt631.1 bt631.2).bind fun bt637 => ((spec_DrawFits.f k l0).bind fun bt641 => (if (bt627.2 != bt629.2) = true then (laws_FnCodes.j0 k t623 t624 bt627.1 bt627.2 bt631.1 bt631.2 bt633.1 bt633.2 true) else (if bt627.1.toList = bt629.1.toList then (if (bt633.2 != bt637.2) = true then (laws_FnCodes.j0 k t623 t624 bt627.1 bt627.2 bt631.1 bt631.2 bt633.1 bt633.2 true) else (if (strOfNums bt633.1).toList = (strOfNums bt637.1).toList then ((impl_Fits.f k bt641.1 bt641.2).bind fun t643 => ((spec_Fits.f k bt641.1 bt641.2).bind fun t644 => (if (t643 != t644) = true then (laws_FnCodes.j0 k t623 t624 bt627.1 bt627.2 bt631.1 bt631.2 bt633.1 bt633.2 true) else ((impl_Fits.f k bt631.1 bt631.2).bind fun t645 => (laws_FnCodes.j0 k t623 t624 bt627.1 bt627.2 bt631.1 bt631.2 bt633.1 bt633.2 (t645 != bt633.2)))))) else (laws_FnCodes.j0 k t623 t624 bt627.1 bt627.2 bt631.1 bt631.2 bt633.1 bt633.2 true))) else (laws_FnCodes.j0 k t623 t624 bt627.1 bt627.2 bt631.1 bt631.2 bt633.1 bt633.2 true))))))))) = some r := H
    have A4 := Aside0.mk A40
    clear A40
    replace H := Option.bind_eq_some_iff.mp H
    obtain ⟨⟨t627, t628⟩, A50, H⟩ := H
    replace H : ((spec_Decode.f k t623 t624).bind fun bt629 => ((spec_DrawEncode.f k l0).bind fun bt631 => ((impl_Encode.f k bt631.1 bt631.2).bind fun bt633 => ((spec_Encode.f k bt631.1 bt631.2).bind fun bt637 => ((spec_DrawFits.f k l0).bind fun bt641 => (if (t628 != bt629.2) = true then (laws_FnCodes.j0 k t623 t624 t627 t628 bt631.1 bt631.2 bt633.1 bt633.2 true) else (if t627.toList = bt629.1.toList then (if (bt633.2 != bt637.2) = true then (laws_FnCodes.j0 k t623 t624 t627 t628 bt631.1 bt631.2 bt633.1 bt633.2 true) else (if (strOfNums bt633.1).toList = (strOfNums bt637.1).toList then ((impl_Fits.f k bt641.1 bt641.2).bind fun t643 => ((spec_Fits.f k bt641.1 bt641.2).bind fun t644 => (if (t643 != t644) = true then (laws_FnCodes.j0 k t623 t624 t627 t628 bt631.1 bt631.2 bt633.1 bt633.2 true) else ((impl_Fits.f k bt631.1 bt631.2).bind fun t645 => (laws_FnCodes.j0 k t623 t624 t627 t628 bt631.1 bt631.2 bt633.1 bt633.2 (t645 != bt633.2)))))) else (laws_FnCodes.j0 k t623 t624 t627 t628 bt631.1 bt631.2 bt633.1 bt633.2 true))) else (laws_FnCodes.j0 k t623 t624 t627 t628 bt631.1 bt631.2 bt633.1 bt633.2 true)))))))) = some r := H
    have A5 := Aside0.mk A50
    clear A50
    replace H := Option.bind_eq_some_iff.mp H
    obtain ⟨⟨t629, t630⟩, A60, H⟩ := H
    replace H : ((spec_DrawEncode.f k l0).bind fun bt631 => ((impl_Encode.f k bt631.1 bt631.2).bind fun bt633 => ((spec_Encode.f k bt631.1 bt631.2).bind fun bt637 => ((spec_DrawFits.f k l0).bind fun bt641 => (if (t628 != t630) = true then (laws_FnCodes.j0 k t623 t624 t627 t628 bt631.1 bt631.2 bt633.1 bt633.2 true) else (if t627.toList = t629.toList then (if (bt633.2 != bt637.2) = true then (laws_FnCodes.j0 k t623 t624 t627 t628 bt631.1 bt631.2 bt633.1 bt633.2 true) else (if (strOfNums bt633.1).toList = (strOfNums bt637.1).toList then ((impl_Fits.f k bt641.1 bt641.2).bind fun t643 => ((spec_Fits.f k bt641.1 bt641.2).bind fun t644 => (if (t643 != t644) = true then (laws_FnCodes.j0 k t623 t624 t627 t628 bt631.1 bt631.2 bt633.1 bt633.2 true) else ((impl_Fits.f k bt631.1 bt631.2).bind fun t645 => (laws_FnCodes.j0 k t623 t624 t627 t628 bt631.1 bt631.2 bt633.1 bt633.2 (t645 != bt633.2)))))) else (laws_FnCodes.j0 k t623 t624 t627 t628 bt631.1 bt631.2 bt633.1 bt633.2 true))) else (laws_FnCodes.j0 k t623 t624 t627 t628 bt631.1 bt631.2 bt633.1 bt633.2 true))))))) = some r := H
    have A6 := Aside0.mk A60
    clear A60
    replace H := Option.bind_eq_some_iff.mp H
    obtain ⟨⟨t631, t632⟩, A70, H⟩ := H
    replace H : ((impl_Encode.f k t631 t632).bind fun bt633 => ((spec_Encode.f k t631 t632).bind fun bt637 => ((spec_DrawFits.f k l0).bind fun bt641 => (if (t628 != t630) = true then (laws_FnCodes.j0 k t623 t624 t627 t628 t631 t632 bt633.1 bt633.2 true) else (if t627.toList = t629.toList then (if (bt633.2 != bt637.2) = true then (laws_FnCodes.j0 k t623 t624 t627 t628 t631 t632 bt633.1 bt633.2 true) else (if (strOfNums bt633.1).toList = (strOfNums bt637.1).toList then ((impl_Fits.f k bt641.1 bt641.2).bind fun t643 => ((spec_Fits.f k bt641.1 bt641.2).bind fun t644 => (if (t643 != t644) = true then (laws_FnCodes.j0 k t623 t624 t627 t628 t631 t632 bt633.1 bt633.2 true) else ((impl_Fits.f k t631 t632).bind fun t645 => (laws_FnCodes.j0 k t623 t624 t627 t628 t631 t632 bt633.1 bt633.2 (t645 != bt633.2)))))) else (laws_FnCodes.j0 k t623 t624 t627 t628 t631 t632 bt633.1 bt633.2 true))) else (laws_FnCodes.j0 k t623 t624 t627 t628 t631 t632 bt633.1 bt633.2 true)))))) = some r := H
    have A7 := Aside0.mk A70
    clear A70
    replace H := Option.bind_eq_some_iff.mp H
    obtain ⟨⟨t633, t634⟩, A80, H⟩ := H
    replace H : ((spec_Encode.f k t631 t632).bind fun bt637 => ((spec_DrawFits.f k l0).bind fun bt641 => (if (t628 != t630) = true then (laws_FnCodes.j0 k t623 t624 t627 t628 t631 t632 t633 t634 true) else (if t627.toList = t629.toList then (if (t634 != bt637.2) = true then (laws_FnCodes.j0 k t623 t624 t627 t628 t631 t632 t633 t634 true) else (if (strOfNums t633).toList = (strOfNums bt637.1).toList then ((impl_Fits.f k bt641.1 bt641.2).bind fun t643 => ((spec_Fits.f k bt641.1 bt641.2).bind fun t644 => (if (t643 != t644) = true then (laws_FnCodes.j0 k t623 t624 t627 t628 t631 t632 t633 t634 true) else ((impl_Fits.f k t631 t632).bind fun t645 => (laws_FnCodes.j0 k t623 t624 t627 t628 t631 t632 t633 t634 (t645 != t634)))))) else (laws_FnCodes.j0 k t623 t624 t627 t628 t631 t632 t633 t634 true))) else (laws_FnCodes.j0 k t623 t624 t627 t628 t631 t632 t633 t634 true))))) = some r := H
    have A8 := Aside0.mk A80
    clear A80
    replace H := Option.bind_eq_some_iff.mp H
    obtain ⟨⟨t637, t638⟩, A90, H⟩ := H
    replace H : ((spec_DrawFits.f k l0).bind fun bt641 => (if (t628 != t630) = true then (laws_FnCodes.j0 k t623 t624 t627 t628 t631 t632 t633 t634 true) else (if t627.toList = t629.toList then (if (t634 != t638) = true then (laws_FnCodes.j0 k t623 t624 t627 t628 t631 t632 t633 t634 true) else (if (strOfNums t633).toList = (strOfNums t637).toList then ((impl_Fits.f k bt641.1 bt641.2).bind fun t643 => ((spec_Fits.f k bt641.1 bt641.2).bind fun t644 => (if (t643 != t644) = true then (laws_FnCodes.j0 k t623 t624 t627 t628 t631 t632 t633 t634 true) else ((impl_Fits.f k t631 t632).bind fun t645 => (laws_FnCodes.j0 k t623 t624 t627 t628 t631 t632 t633 t634 (t645 != t634)))))) else (laws_FnCodes.j0 k t623 t624 t627 t628 t631 t632 t633 t634 true))) else (laws_FnCodes.j0 k t623 t624 t627 t628 t631 t632 t633 t634 true)))) = some r := H
    have A9 := Aside0.mk A90
    clear A90
    replace H := Option.bind_eq_some_iff.mp H
    obtain ⟨⟨t641, t642⟩, A100, H⟩ := H
    replace H : (if (t628 != t630) = true then (laws_FnCodes.j0 k t623 t624 t627 t628 t631 t632 t633 t634 true) else (if t627.toList = t629.toList then (if (t634 != t638) = true then (laws_FnCodes.j0 k t623 t624 t627 t628 t631 t632 t633 t634 true) else (if (strOfNums t633).toList = (strOfNums t637).toList then ((impl_Fits.f k t641 t642).bind fun t643 => ((spec_Fits.f k t641 t642).bind fun t644 => (if (t643 != t644) = true then (laws_FnCodes.j0 k t623 t624 t627 t628 t631 t632 t633 t634 true) else ((impl_Fits.f k t631 t632).bind fun t645 => (laws_FnCodes.j0 k t623 t624 t627 t628 t631 t632 t633 t634 (t645 != t634)))))) else (laws_FnCodes.j0 k t623 t624 t627 t628 t631 t632 t633 t634 true))) else (laws_FnCodes.j0 k t623 t624 t627 t628 t631 t632 t633 t634 true))) = some r := H
    have A10 := Aside0.mk A100
    clear A100
    have HC11 := Aside0.mk H
    clear H
    go_enter Tryd.func14, Tryd.ntmps14
    go_upto_region 10 with (first | ((with_reducible refine gate_callee (f := 42) rfl ?_); refine goesL_ (some 22) rfl rfl Tryd.func42 (by kernel_rfl) rfl #[.slice A0 l0.length c0] rfl ka_ ?_; (with_reducible refine (laws_big.calls _ _ l0 false _ ?side1 ?side2 A2.out).mono ?_); (case side1 => repeat (first | exact HR0.out | (with_reducible refine Kd.C_alloc ?_ _) | (with_reducible refine Kd.C_drewN ?_ _) | (with_reducible refine Kd.C_drew ?_))); (case side2 => exact HC0.out); rintro e w' ⟨rfl, ⟨nd, rfl⟩⟩; refine ⟨_, rfl, ?_⟩) | ((with_reducible refine gate_callee (f := 43) rfl ?_); refine goesL_ (some 25) rfl rfl Tryd.func43 (by kernel_rfl) rfl #[.slice A0 l0.length c0] rfl ka_ ?_; (with_reducible refine (spec_DrawDecode.calls k _ _ l0 t623 t624 _ ?side1 ?side2 A4.out).mono ?_); (case side1 => repeat (first | exact HR0.out | (with_reducible refine Kd.C_alloc ?_ _) | (with_reducible refine Kd.C_drewN ?_ _) | (with_reducible refine Kd.C_drew ?_))); (case side2 => exact HC0.out); rintro e w12 ⟨v625, rfl, ho0, hb⟩; refine ⟨_, rfl, ?_⟩; have n0_ := Aside0.mk (Kd.R_lower ho0 (below_size hb_)); have n1_ := Aside0.mk (below_step hb_ hb); clear HB; have HO626 := n0_; have HB := n1_; clear n0_ n1_; (try clear hb); (try clear hb2); (try clear hk); (try clear hi); (try clear ho0); obtain ⟨Ao13, co13, eo13⟩ := Kd.R_slice HO626.out; subst eo13) | ((with_reducible refine gate_callee (f := 44) rfl ?_); refine goesL_ (some 31) rfl rfl Tryd.func44 (by kernel_rfl) rfl #[.int .i64 t623, .slice Ao13 t624.length co13] rfl ka_ ?_; (with_reducible refine (impl_Decode.calls (hT := ?sideT) k t623 _ _ t624 t627 t628 _ ?side1 ?side2 A5.out).mono ?_); (case sideT => first | exact HT.out | exact HT.out.below hb_ | exact HT.out.drawn (by repeat (first | exact Drawn0.refl _ | apply Drawn0.step | assumption))); (case side1 => repeat (first | exact (Kd.R_reads' HO626.out).2.2 | (with_reducible refine Kd.C_alloc ?_ _) | (with_reducible refine Kd.C_drewN ?_ _) | (with_reducible refine Kd.C_drew ?_))); (case side2 => exact (Kd.R_reads' HO626.out).2.1); rintro e w14 ⟨rfl, hb⟩; refine ⟨_, rfl, ?_⟩; have n0_ := Aside0.mk (Kd.R_below (kr_ HO626) hb); have n1_ := Aside0.mk (below_step hb_ hb); clear HO626; clear HB; have HO626 := n0_; have HB := n1_; clear n0_ n1_; (try clear hb); (try clear hb2); (try clear hk); (try clear hi)) | ((with_reducible refine gate_callee (f := 58) rfl ?_); refine goesL_ (some 37) rfl rfl Tryd.func58 (by kernel_rfl) rfl #[.int .i64 t623, .slice Ao13 t624.length co13] rfl ka_ ?_; (with_reducible refine (spec_Decode.calls k t623 _ _ t624 t629 t630 _ ?side1 ?side2 A6.out).mono ?_); (case side1 => repeat (first | exact (Kd.R_reads' HO626.out).2.2 | (with_reducible refine Kd.C_alloc ?_ _) | (with_reducible refine Kd.C_drewN ?_ _) | (with_reducible refine Kd.C_drew ?_))); (case side2 => exact (Kd.R_reads' HO626.out).2.1); rintro e w15 ⟨rfl, hb⟩; refine ⟨_, rfl, ?_⟩; have n0_ := Aside0.mk (Kd.R_below (kr_ HO626) hb); have n1_ := Aside0.mk (below_step hb_ hb); clear HO626; clear HB; have HO626 := n0_; have HB := n1_; clear n0_ n1_; (try clear hb); (try clear hb2); (try clear hk); (try clear hi)) | ((with_reducible refine gate_callee (f := 57) rfl ?_); refine goesL_ (some 42) rfl rfl Tryd.func57 (by kernel_rfl) rfl #[.slice A0 l0.length c0] rfl ka_ ?_; (with_reducible refine (spec_DrawEncode.calls k _ _ l0 t631 t632 _ ?side1 ?side2 A7.out).mono ?_); (case side1 => repeat (first | exact (Kd.C_below HR0.out HB.out) | (with_reducible refine Kd.C_alloc ?_ _) | (with_reducible refine Kd.C_drewN ?_ _) | (with_reducible refine Kd.C_drew ?_))); (case side2 => exact HC0.out); rintro e w16 ⟨rfl, hb⟩; refine ⟨_, rfl, ?_⟩; have n0_ := Aside0.mk (Kd.R_below (kr_ HO626) hb); have n1_ := Aside0.mk (below_step hb_ hb); clear HO626; clear HB; have HO626 := n0_; have HB := n1_; clear n0_ n1_; (try clear hb); (try clear hb2); (try clear hk); (try clear hi)) | ((with_reducible refine gate_callee (f := 19) rfl ?_); refine goesL_ (some 48) rfl rfl Tryd.func19 (by kernel_rfl) rfl #[.int .i64 t631, .string t632] rfl ka_ ?_; (with_reducible refine (impl_Encode.calls (hT := ?sideT) k t631 t632 t633 t634 _ A8.out).mono ?_); (case sideT => first | exact HT.out | exact HT.out.below hb_ | exact HT.out.drawn (by repeat (first | exact Drawn0.refl _ | apply Drawn0.step | assumption))); rintro e w17 ⟨v635, rfl, ho0, hb⟩; refine ⟨_, rfl, ?_⟩; have n0_ := Aside0.mk (Kd.R_elder' (kr_ HO626) (Kd.R_base ho0) hb); have n1_ := Aside0.mk (Kd.R_lower (Kd.R_new' ho0 (Kd.R_lt (kr_ HO626))) (below_size hb_)); have n2_ := Aside0.mk (below_step hb_ hb); clear HO626; clear HB; have HO626 := n0_; have HO636 := n1_; have HB := n2_; clear n0_ n1_ n2_; (try clear hb); (try clear hb2); (try clear hk); (try clear hi); (try clear ho0)) | ((with_reducible refine gate_callee (f := 18) rfl ?_); refine goesL_ (some 54) rfl rfl Tryd.func18 (by kernel_rfl) rfl #[.int .i64 t631, .string t632] rfl ka_ ?_; (with_reducible refine (spec_Encode.calls k t631 t632 t637 t638 _ A9.out).mono ?_); rintro e w18 ⟨v639, rfl, ho0, hb⟩; refine ⟨_, rfl, ?_⟩; have n0_ := Aside0.mk (Kd.R_elder' (kr_ HO626) (Kd.R_base ho0) hb); have n1_ := Aside0.mk (Kd.R_elder' (kr_ HO636) (Kd.R_base ho0) hb); have n2_ := Aside0.mk (Kd.R_lower (Kd.R_new' (Kd.R_new' ho0 (Kd.R_lt (kr_ HO626))) (Kd.R_lt (kr_ HO636))) (below_size hb_)); have n3_ := Aside0.mk (below_step hb_ hb); clear HO626; clear HO636; clear HB; have HO626 := n0_; have HO636 := n1_; have HO640 := n2_; have HB := n3_; clear n0_ n1_ n2_ n3_; (try clear hb); (try clear hb2); (try clear hk); (try clear hi); (try clear ho0)) | ((with_reducible refine gate_callee (f := 64) rfl ?_); refine goesL_ (some 59) rfl rfl Tryd.func64 (by kernel_rfl) rfl #[.slice A0 l0.length c0] rfl ka_ ?_; (with_reducible refine (spec_DrawFits.calls k _ _ l0 t641 t642 _ ?side1 ?side2 A10.out).mono ?_); (case side1 => repeat (first | exact (Kd.C_below HR0.out HB.out) | (with_reducible refine Kd.C_alloc ?_ _) | (with_reducible refine Kd.C_drewN ?_ _) | (with_reducible refine Kd.C_drew ?_))); (case side2 => exact HC0.out); rintro e w19 ⟨rfl, hb⟩; refine ⟨_, rfl, ?_⟩; have n0_ := Aside0.mk (Kd.R_below (kr_ HO626) hb); have n1_ := Aside0.mk (Kd.R_below (kr_ HO636) hb); have n2_ := Aside0.mk (Kd.R_below (kr_ HO640) hb); have n3_ := Aside0.mk (below_step hb_ hb); clear HO626; clear HO636; clear HO640; clear HB; have HO626 := n0_; have HO636 := n1_; have HO640 := n2_; have HB := n3_; clear n0_ n1_ n2_ n3_; (try clear hb); (try clear hb2); (try clear hk); (try clear hi)))
    (try simp only [Act.put, List.setIfInBounds_toArray, List.set_cons_zero, List.set_cons_succ])
    go_cut [97] (fun v97 wc => ∃ (kq : Nat) (x97_10 : Bool), v97 = .bool x97_10 ∧ Aside0 (laws_FnCodes.j0 kq t623 t624 t627 t628 t631 t632 t633 t634 x97_10 = some r) ∧ Aside0 (kq ≤ k) ∧ Aside0 (Kd.R (Kd.int .u8) 5 wc w.heap.size (fun k_ => some k_ ≠ (v635 : Value).ownBlock) (.slice Ao13 t624.length co13) t624) ∧ Aside0 (Kd.R (Kd.int .u8) 5 wc w.heap.size (fun k_ => some k_ ≠ ((.slice Ao13 t624.length co13) : Value).ownBlock) v635 t633) ∧ Aside0 (Below w.heap.size w wc))
    case first =>
      have H := HC11.out
      clear HC11
      by_cases c20 : (t628 != t630) = true
      · rw [if_pos c20] at H
        have c20b0 : (t628 != t630) = true := c20
        (try (have c20b1 : decide (t628 = t630) = false := by simpa using c20))
        (try (have c20b2 : (t628 == t630) = false := by simpa using c20))
        (try (have c20b3 : ¬ (t628 = t630) := by simpa using c20))
        clear c20
        (first | rw [c20b0] | (simp only [i64_w, i32_w]; rw [c20b0]) | skip)
        have H' := Aside0.mk H
        clear H
        go_wp2
        go_meet
        case rel => exact ⟨_, (true), (by first | rfl | (simp; done) | (simp [*]; done)), H', ⟨by first | omega | exact Nat.le_refl _⟩, ⟨by (with_reducible repeat (first | apply Kd.R_alloc | apply Kd.R_drewN | apply Kd.R_drew)); exact Kd.R_mono HO626.out (fun _ hk => hk.1.2)⟩, ⟨by (with_reducible repeat (first | apply Kd.R_alloc | apply Kd.R_drewN | apply Kd.R_drew)); exact Kd.R_mono HO636.out (fun _ hk => hk.1.2)⟩, ⟨by repeat (first | (with_reducible first | exact HB.out | apply below_alloc | apply pw_below_drewN | apply below_drew1) | exact HB.out)⟩⟩
      · rw [if_neg c20] at H
        have c20b0 : (t628 != t630) = false := by simpa using c20
        (try (have c20b1 : decide (t628 = t630) = true := by simpa using c20))
        (try (have c20b2 : (t628 == t630) = true := by simpa using c20))
        clear c20
        (first | rw [c20b0] | (simp only [i64_w, i32_w]; rw [c20b0]) | skip)
        by_cases c21 : t627.toList = t629.toList
        · rw [if_pos c21] at H
          have c21b0 : (t627.toList == t629.toList) = true := beq_iff_eq.mpr c21
          have c21b1 : (t627.toList != t629.toList) = false := bne_eq_false_iff_eq.mpr c21
          clear c21
          by_cases c22 : (t634 != t638) = true
          · rw [if_pos c22] at H
            have c22b0 : (t634 != t638) = true := c22
            (try (have c22b1 : decide (t634 = t638) = false := by simpa using c22))
            (try (have c22b2 : (t634 == t638) = false := by simpa using c22))
            (try (have c22b3 : ¬ (t634 = t638) := by simpa using c22))
            clear c22
            have H' := Aside0.mk H
            clear H
            go_wp2
            go_meet
            case rel => exact ⟨_, (true), (by first | rfl | (simp; done) | (simp [*]; done)), H', ⟨by first | omega | exact Nat.le_refl _⟩, ⟨by (with_reducible repeat (first | apply Kd.R_alloc | apply Kd.R_drewN | apply Kd.R_drew)); exact Kd.R_mono HO626.out (fun _ hk => hk.1.2)⟩, ⟨by (with_reducible repeat (first | apply Kd.R_alloc | apply Kd.R_drewN | apply Kd.R_drew)); exact Kd.R_mono HO636.out (fun _ hk => hk.1.2)⟩, ⟨by repeat (first | (with_reducible first | exact HB.out | apply below_alloc | apply pw_below_drewN | apply below_drew1) | exact HB.out)⟩⟩
          · rw [if_neg c22] at H
            have c22b0 : (t634 != t638) = false := by simpa using c22
            (try (have c22b1 : decide (t634 = t638) = true := by simpa using c22))
            (try (have c22b2 : (t634 == t638) = true := by simpa using c22))
            clear c22
            by_cases c23 : (strOfNums t633).toList = (strOfNums t637).toList
            · rw [if_pos c23] at H
              have c23b0 : ((strOfNums t633).toList == (strOfNums t637).toList) = true := beq_iff_eq.mpr c23
              have c23b1 : ((strOfNums t633).toList != (strOfNums t637).toList) = false := bne_eq_false_iff_eq.mpr c23
              clear c23
              replace H := Option.bind_eq_some_iff.mp H
              obtain ⟨t643, A240, H⟩ := H
              replace H : ((spec_Fits.f k t641 t642).bind fun t644 => (if (t643 != t644) = true then (laws_FnCodes.j0 k t623 t624 t627 t628 t631 t632 t633 t634 true) else ((impl_Fits.f k t631 t632).bind fun t645 => (laws_FnCodes.j0 k t623 t624 t627 t628 t631 t632 t633 t634 (t645 != t634))))) = some r := H
              have A24 := Aside0.mk A240
              clear A240
              replace H := Option.bind_eq_some_iff.mp H
              obtain ⟨t644, A250, H⟩ := H
              replace H : (if (t643 != t644) = true then (laws_FnCodes.j0 k t623 t624 t627 t628 t631 t632 t633 t634 true) else ((impl_Fits.f k t631 t632).bind fun t645 => (laws_FnCodes.j0 k t623 t624 t627 t628 t631 t632 t633 t634 (t645 != t634)))) = some r := H
              have A25 := Aside0.mk A250
              clear A250
              by_cases c26 : (t643 != t644) = true
              · rw [if_pos c26] at H
                have c26b0 : (t643 != t644) = true := c26
                (try (have c26b1 : decide (t643 = t644) = false := by simpa using c26))
                (try (have c26b2 : (t643 == t644) = false := by simpa using c26))
                (try (have c26b3 : ¬ (t643 = t644) := by simpa using c26))
                clear c26
                have H' := Aside0.mk H
                clear H
                have hcv27 := own_string (P := Tryd.prog) Tryd.underlying23 Tryd.underlying5 Tryd.underlying9 (Kd.own_of_R HO636.out)
                try have hcn27 := fun n_ : Nat => own_string (P := Tryd.prog) Tryd.underlying23 Tryd.underlying5 Tryd.underlying9 (Kd.own_of_R (Kd.R_drewN HO636.out n_))
                have hcv28 := own_string (P := Tryd.prog) Tryd.underlying23 Tryd.underlying5 Tryd.underlying9 (Kd.own_of_R HO640.out)
                try have hcn28 := fun n_ : Nat => own_string (P := Tryd.prog) Tryd.underlying23 Tryd.underlying5 Tryd.underlying9 (Kd.own_of_R (Kd.R_drewN HO640.out n_))
                go_wp2_with (first | (go_at_call 17; (with_reducible refine (impl_Fits.calls (hT := ?sideT) k t641 t642 t643 _ A24.out).mono ?_); (case sideT => first | exact HT.out | exact HT.out.below hb_ | exact HT.out.drawn (by repeat (first | exact Drawn0.refl _ | apply Drawn0.step | assumption))); rintro e w29 ⟨rfl, hb⟩; have n0_ := Aside0.mk (Kd.R_below (kr_ HO626) hb); have n1_ := Aside0.mk (Kd.R_below (kr_ HO636) hb); have n2_ := Aside0.mk (Kd.R_below (kr_ HO640) hb); have n3_ := Aside0.mk (below_step hb_ hb); clear HO626; clear HO636; clear HO640; clear HB; have HO626 := n0_; have HO636 := n1_; have HO640 := n2_; have HB := n3_; clear n0_ n1_ n2_ n3_; (try clear hb); (try clear hb2); (try clear hk); (try clear hi)) | (go_at_call 16; (with_reducible refine (spec_Fits.calls k t641 t642 t644 _ A25.out).mono ?_); rintro e w30 ⟨rfl, hb⟩; have n0_ := Aside0.mk (Kd.R_below (kr_ HO626) hb); have n1_ := Aside0.mk (Kd.R_below (kr_ HO636) hb); have n2_ := Aside0.mk (Kd.R_below (kr_ HO640) hb); have n3_ := Aside0.mk (below_step hb_ hb); clear HO626; clear HO636; clear HO640; clear HB; have HO626 := n0_; have HO636 := n1_; have HO640 := n2_; have HB := n3_; clear n0_ n1_ n2_ n3_; (try clear hb); (try clear hb2); (try clear hk); (try clear hi)))
                go_meet
                case rel => exact ⟨_, (true), (by first | rfl | (simp; done) | (simp [*]; done)), H', ⟨by first | omega | exact Nat.le_refl _⟩, ⟨by (with_reducible repeat (first | apply Kd.R_alloc | apply Kd.R_drewN | apply Kd.R_drew)); exact Kd.R_mono HO626.out (fun _ hk => hk.1.2)⟩, ⟨by (with_reducible repeat (first | apply Kd.R_alloc | apply Kd.R_drewN | apply Kd.R_drew)); exact Kd.R_mono HO636.out (fun _ hk => hk.1.2)⟩, ⟨by repeat (first | (with_reducible first | exact HB.out | apply below_alloc | apply pw_below_drewN | apply below_drew1) | exact HB.out)⟩⟩
              · rw [if_neg c26] at H
                have c26b0 : (t643 != t644) = false := by simpa using c26
                (try (have c26b1 : decide (t643 = t644) = true := by simpa using c26))
                (try (have c26b2 : (t643 == t644) = true := by simpa using c26))
                clear c26
                replace H := Option.bind_eq_some_iff.mp H
                obtain ⟨t645, A310, H⟩ := H
                replace H : (laws_FnCodes.j0 k t623 t624 t627 t628 t631 t632 t633 t634 (t645 != t634)) = some r := H
                have A31 := Aside0.mk A310
                clear A310
                have H' := Aside0.mk H
                clear H
                have hcv32 := own_string (P := Tryd.prog) Tryd.underlying23 Tryd.underlying5 Tryd.underlying9 (Kd.own_of_R HO636.out)
                try have hcn32 := fun n_ : Nat => own_string (P := Tryd.prog) Tryd.underlying23 Tryd.underlying5 Tryd.underlying9 (Kd.own_of_R (Kd.R_drewN HO636.out n_))
                have hcv33 := own_string (P := Tryd.prog) Tryd.underlying23 Tryd.underlying5 Tryd.underlying9 (Kd.own_of_R HO640.out)
                try have hcn33 := fun n_ : Nat => own_string (P := Tryd.prog) Tryd.underlying23 Tryd.underlying5 Tryd.underlying9 (Kd.own_of_R (Kd.R_drewN HO640.out n_))
                go_wp2_with (first | (go_at_call 17; (with_reducible refine (impl_Fits.calls (hT := ?sideT) k t641 t642 t643 _ A24.out).mono ?_); (case sideT => first | exact HT.out | exact HT.out.below hb_ | exact HT.out.drawn (by repeat (first | exact Drawn0.refl _ | apply Drawn0.step | assumption))); rintro e w34 ⟨rfl, hb⟩; have n0_ := Aside0.mk (Kd.R_below (kr_ HO626) hb); have n1_ := Aside0.mk (Kd.R_below (kr_ HO636) hb); have n2_ := Aside0.mk (Kd.R_below (kr_ HO640) hb); have n3_ := Aside0.mk (below_step hb_ hb); clear HO626; clear HO636; clear HO640; clear HB; have HO626 := n0_; have HO636 := n1_; have HO640 := n2_; have HB := n3_; clear n0_ n1_ n2_ n3_; (try clear hb); (try clear hb2); (try clear hk); (try clear hi)) | (go_at_call 16; (with_reducible refine (spec_Fits.calls k t641 t642 t644 _ A25.out).mono ?_); rintro e w35 ⟨rfl, hb⟩; have n0_ := Aside0.mk (Kd.R_below (kr_ HO626) hb); have n1_ := Aside0.mk (Kd.R_below (kr_ HO636) hb); have n2_ := Aside0.mk (Kd.R_below (kr_ HO640) hb); have n3_ := Aside0.mk (below_step hb_ hb); clear HO626; clear HO636; clear HO640; clear HB; have HO626 := n0_; have HO636 := n1_; have HO640 := n2_; have HB := n3_; clear n0_ n1_ n2_ n3_; (try clear hb); (try clear hb2); (try clear hk); (try clear hi)) | (go_at_call 17; (with_reducible refine (impl_Fits.calls (hT := ?sideT) k t631 t632 t645 _ A31.out).mono ?_); (case sideT => first | exact HT.out | exact HT.out.below hb_ | exact HT.out.drawn (by repeat (first | exact Drawn0.refl _ | apply Drawn0.step | assumption))); rintro e w36 ⟨rfl, hb⟩; have n0_ := Aside0.mk (Kd.R_below (kr_ HO626) hb); have n1_ := Aside0.mk (Kd.R_below (kr_ HO636) hb); have n2_ := Aside0.mk (Kd.R_below (kr_ HO640) hb); have n3_ := Aside0.mk (below_step hb_ hb); clear HO626; clear HO636; clear HO640; clear HB; have HO626 := n0_; have HO636 := n1_; have HO640 := n2_; have HB := n3_; clear n0_ n1_ n2_ n3_; (try clear hb); (try clear hb2); (try clear hk); (try clear hi)))
                go_meet
                case rel => exact ⟨_, ((t645 != t634)), (by first | rfl | (simp; done) | (simp [*]; done)), H', ⟨by first | omega | exact Nat.le_refl _⟩, ⟨by (with_reducible repeat (first | apply Kd.R_alloc | apply Kd.R_drewN | apply Kd.R_drew)); exact Kd.R_mono HO626.out (fun _ hk => hk.1.2)⟩, ⟨by (with_reducible repeat (first | apply Kd.R_alloc | apply Kd.R_drewN | apply Kd.R_drew)); exact Kd.R_mono HO636.out (fun _ hk => hk.1.2)⟩, ⟨by repeat (first | (with_reducible first | exact HB.out | apply below_alloc | apply pw_below_drewN | apply below_drew1) | exact HB.out)⟩⟩
            · rw [if_neg c23] at H
              have c23b0 : ((strOfNums t633).toList == (strOfNums t637).toList) = false := beq_eq_false_iff_ne.mpr c23
              have c23b1 : ((strOfNums t633).toList != (strOfNums t637).toList) = true := bne_iff_ne.mpr c23
              have H' := Aside0.mk H
              clear H
              have hcv37 := own_string (P := Tryd.prog) Tryd.underlying23 Tryd.underlying5 Tryd.underlying9 (Kd.own_of_R HO636.out)
              try have hcn37 := fun n_ : Nat => own_string (P := Tryd.prog) Tryd.underlying23 Tryd.underlying5 Tryd.underlying9 (Kd.own_of_R (Kd.R_drewN HO636.out n_))
              have hcv38 := own_string (P := Tryd.prog) Tryd.underlying23 Tryd.underlying5 Tryd.underlying9 (Kd.own_of_R HO640.out)
              try have hcn38 := fun n_ : Nat => own_string (P := Tryd.prog) Tryd.underlying23 Tryd.underlying5 Tryd.underlying9 (Kd.own_of_R (Kd.R_drewN HO640.out n_))
              go_wp2
              go_meet
              case rel => exact ⟨_, (true), (by first | rfl | (simp; done) | (simp [*]; done)), H', ⟨by first | omega | exact Nat.le_refl _⟩, ⟨by (with_reducible repeat (first | apply Kd.R_alloc | apply Kd.R_drewN | apply Kd.R_drew)); exact Kd.R_mono HO626.out (fun _ hk => hk.1.2)⟩, ⟨by (with_reducible repeat (first | apply Kd.R_alloc | apply Kd.R_drewN | apply Kd.R_drew)); exact Kd.R_mono HO636.out (fun _ hk => hk.1.2)⟩, ⟨by repeat (first | (with_reducible first | exact HB.out | apply below_alloc | apply pw_below_drewN | apply below_drew1) | exact HB.out)⟩⟩
        · rw [if_neg c21] at H
          have c21b0 : (t627.toList == t629.toList) = false := beq_eq_false_iff_ne.mpr c21
          have c21b1 : (t627.toList != t629.toList) = true := bne_iff_ne.mpr c21
          have H' := Aside0.mk H
          clear H
          go_wp2
          go_meet
          case rel => exact ⟨_, (true), (by first | rfl | (simp; done) | (simp [*]; done)), H', ⟨by first | omega | exact Nat.le_refl _⟩, ⟨by (with_reducible repeat (first | apply Kd.R_alloc | apply Kd.R_drewN | apply Kd.R_drew)); exact Kd.R_mono HO626.out (fun _ hk => hk.1.2)⟩, ⟨by (with_reducible repeat (first | apply Kd.R_alloc | apply Kd.R_drewN | apply Kd.R_drew)); exact Kd.R_mono HO636.out (fun _ hk => hk.1.2)⟩, ⟨by repeat (first | (with_reducible first | exact HB.out | apply below_alloc | apply pw_below_drewN | apply below_drew1) | exact HB.out)⟩⟩
    case rest =>
      clear HC11
      try clear c1
      try clear c2
      try clear p2
      try clear hcv2
      try clear c3
      try clear hcv3
      try clear c4
      try clear c5
      try clear c6
      try clear c14
      try clear c18
      try clear c19
      try clear c20
      try clear c20b0
      try clear c20b1
      try clear c20b2
      try clear c21
      try clear c21b0
      try clear c21b1
      try clear c22
      try clear c22b0
      try clear c22b1
      try clear c22b2
      try clear c23
      try clear c23b0
      try clear c23b1
      try clear c26
      try clear c26b0
      try clear c26b1
      try clear c26b2
      try clear hcv27
      try clear hcv28
      try clear hcv32
      try clear hcv33
      try clear hcv37
      try clear hcv38
      obtain ⟨kq, x97_10, rfl, HA, HJ10, HO_4, HO_11, HB⟩ := hcut
      cases kq with
      | zero => exact absurd HA.out (by simp [laws_FnCodes.j0])
      | succ kj10 =>
        have H := HA.out
        clear HA
        simp only [laws_FnCodes.j0] at H
        by_cases c39 : x97_10 = true
        · subst c39
          have H1 : (some false) = some r := by rw [if_pos rfl] at H; exact H
          clear H
          have H := H1
          clear H1
          obtain rfl := Option.some.inj H
          cases hr_
        · replace c39 := Bool.eq_false_iff.mpr c39
          subst c39
          have H1 : (if t628 = true then ((impl_Encode.f kj10 t623 t627).bind fun bt646 => (if bt646.2 = true then (if (strOfNums bt646.1).toList = (strOfNums t624).toList then ((impl_Utf8Ok.f t627).bind fun t650 => (laws_FnCodes.j1 kj10 t631 t632 t633 t634 (!t650))) else (laws_FnCodes.j1 kj10 t631 t632 t633 t634 true)) else (laws_FnCodes.j1 kj10 t631 t632 t633 t634 true))) else (if t634 = true then ((impl_Decode.f kj10 t631 t633).bind fun bt653 => (if bt653.2 = true then (some (bt653.1.toList == t632.toList)) else (some false))) else (some true))) = some r := by rw [if_neg (show ¬ (false = true) by decide)] at H; exact H
          clear H
          have H := H1
          clear H1
          by_cases c40 : t628 = true
          · subst c40
            have H1 : ((impl_Encode.f kj10 t623 t627).bind fun bt646 => (if bt646.2 = true then (if (strOfNums bt646.1).toList = (strOfNums t624).toList then ((impl_Utf8Ok.f t627).bind fun t650 => (laws_FnCodes.j1 kj10 t631 t632 t633 t634 (!t650))) else (laws_FnCodes.j1 kj10 t631 t632 t633 t634 true)) else (laws_FnCodes.j1 kj10 t631 t632 t633 t634 true))) = some r := by rw [if_pos rfl] at H; exact H
            clear H
            have H := H1
            clear H1
            replace H := Option.bind_eq_some_iff.mp H
            obtain ⟨⟨t646, t647⟩, A410, H⟩ := H
            replace H : (if t647 = true then (if (strOfNums t646).toList = (strOfNums t624).toList then ((impl_Utf8Ok.f t627).bind fun t650 => (laws_FnCodes.j1 kj10 t631 t632 t633 t634 (!t650))) else (laws_FnCodes.j1 kj10 t631 t632 t633 t634 true)) else (laws_FnCodes.j1 kj10 t631 t632 t633 t634 true)) = some r := H
            have A41 := Aside0.mk A410
            clear A410
            have HC42 := Aside0.mk H
            clear H
            go_upto_region 14 with (first | ((with_reducible refine gate_callee (f := 19) rfl ?_); refine goesL_ (some 102) rfl rfl Tryd.func19 (by kernel_rfl) rfl #[.int .i64 t623, .string t627] rfl ka_ ?_; (with_reducible refine (impl_Encode.calls (hT := ?sideT) kj10 t623 t627 t646 t647 _ A41.out).mono ?_); (case sideT => first | exact HT.out | exact HT.out.below hb_ | exact HT.out.drawn (by repeat (first | exact Drawn0.refl _ | apply Drawn0.step | assumption))); rintro e w43 ⟨v648, rfl, ho0, hb⟩; refine ⟨_, rfl, ?_⟩; have n0_ := Aside0.mk (Kd.R_elder' (kr_ HO_4) (Kd.R_base ho0) hb); have n1_ := Aside0.mk (Kd.R_elder' (kr_ HO_11) (Kd.R_base ho0) hb); have n2_ := Aside0.mk (Kd.R_lower (Kd.R_new' (Kd.R_new' ho0 (Kd.R_lt (kr_ HO_4))) (Kd.R_lt (kr_ HO_11))) (below_size hb_)); have n3_ := Aside0.mk (below_step hb_ hb); clear HO_4; clear HO_11; clear HB; have HO_4 := n0_; have HO_11 := n1_; have HO649 := n2_; have HB := n3_; clear n0_ n1_ n2_ n3_; (try clear hb); (try clear hb2); (try clear hk); (try clear hi); (try clear ho0)))
            (try simp only [Act.put, List.setIfInBounds_toArray, List.set_cons_zero, List.set_cons_succ])
            go_cut [118] (fun v118 wc => ∃ (kq : Nat) (x118_41 : Bool), v118 = .bool x118_41 ∧ Aside0 (laws_FnCodes.j1 kq t631 t632 t633 t634 x118_41 = some r) ∧ Aside0 (kq ≤ kj10) ∧ Aside0 (Kd.R (Kd.int .u8) 5 wc w.heap.size (fun _ => True) v635 t633) ∧ Aside0 (Below w.heap.size w wc))
            case first =>
              have H := HC42.out
              clear HC42
              by_cases c44 : t647 = true
              · subst c44
                have H1 : (if (strOfNums t646).toList = (strOfNums t624).toList then ((impl_Utf8Ok.f t627).bind fun t650 => (laws_FnCodes.j1 kj10 t631 t632 t633 t634 (!t650))) else (laws_FnCodes.j1 kj10 t631 t632 t633 t634 true)) = some r := by rw [if_pos rfl] at H; exact H
                clear H
                have H := H1
                clear H1
                by_cases c45 : (strOfNums t646).toList = (strOfNums t624).toList
                · rw [if_pos c45] at H
                  have c45b0 : ((strOfNums t646).toList == (strOfNums t624).toList) = true := beq_iff_eq.mpr c45
                  have c45b1 : ((strOfNums t646).toList != (strOfNums t624).toList) = false := bne_eq_false_iff_eq.mpr c45
                  clear c45
                  (first | rw [c45b0] | (simp only [i64_w, i32_w]; rw [c45b0]) | skip)
                  replace H := Option.bind_eq_some_iff.mp H
                  obtain ⟨t650, A460, H⟩ := H
                  replace H : (laws_FnCodes.j1 kj10 t631 t632 t633 t634 (!t650)) = some r := H
                  have A46 := Aside0.mk A460
                  clear A460
                  have H' := Aside0.mk H
                  clear H
                  have hcv47 := own_string (P := Tryd.prog) Tryd.underlying23 Tryd.underlying5 Tryd.underlying9 (Kd.own_of_R HO649.out)
                  try have hcn47 := fun n_ : Nat => own_string (P := Tryd.prog) Tryd.underlying23 Tryd.underlying5 Tryd.underlying9 (Kd.own_of_R (Kd.R_drewN HO649.out n_))
                  have hcv48 := own_string (P := Tryd.prog) Tryd.underlying23 Tryd.underlying5 Tryd.underlying9 (Kd.own_of_R HO_4.out)
                  try have hcn48 := fun n_ : Nat => own_string (P := Tryd.prog) Tryd.underlying23 Tryd.underlying5 Tryd.underlying9 (Kd.own_of_R (Kd.R_drewN HO_4.out n_))
                  go_wp2_with (first | (go_at_call 65; (with_reducible refine (impl_Utf8Ok.calls (hT := ?sideT) t627 t650 _ A46.out).mono ?_); (case sideT => first | exact HT.out | exact HT.out.below hb_ | exact HT.out.drawn (by repeat (first | exact Drawn0.refl _ | apply Drawn0.step | assumption))); rintro e w49 ⟨rfl, hb⟩; have n0_ := Aside0.mk (Kd.R_below (kr_ HO_4) hb); have n1_ := Aside0.mk (Kd.R_below (kr_ HO_11) hb); have n2_ := Aside0.mk (Kd.R_below (kr_ HO649) hb); have n3_ := Aside0.mk (below_step hb_ hb); clear HO_4; clear HO_11; clear HO649; clear HB; have HO_4 := n0_; have HO_11 := n1_; have HO649 := n2_; have HB := n3_; clear n0_ n1_ n2_ n3_; (try clear hb); (try clear hb2); (try clear hk); (try clear hi)))
                  go_meet
                  case rel => exact ⟨_, (!t650), (by first | rfl | (simp; done) | (simp [*]; done)), H', ⟨by have := HJ10.out; first | omega | exact Nat.le_refl _⟩, ⟨by (with_reducible repeat (first | apply Kd.R_alloc | apply Kd.R_drewN | apply Kd.R_drew)); exact Kd.R_mono HO_11.out (fun _ hk => trivial)⟩, ⟨by repeat (first | (with_reducible first | exact HB.out | apply below_alloc | apply pw_below_drewN | apply below_drew1) | exact HB.out)⟩⟩
                · rw [if_neg c45] at H
                  have c45b0 : ((strOfNums t646).toList == (strOfNums t624).toList) = false := beq_eq_false_iff_ne.mpr c45
                  have c45b1 : ((strOfNums t646).toList != (strOfNums t624).toList) = true := bne_iff_ne.mpr c45
                  (first | rw [c45b0] | (simp only [i64_w, i32_w]; rw [c45b0]) | skip)
                  have H' := Aside0.mk H
                  clear H
                  have hcv50 := own_string (P := Tryd.prog) Tryd.underlying23 Tryd.underlying5 Tryd.underlying9 (Kd.own_of_R HO649.out)
                  try have hcn50 := fun n_ : Nat => own_string (P := Tryd.prog) Tryd.underlying23 Tryd.underlying5 Tryd.underlying9 (Kd.own_of_R (Kd.R_drewN HO649.out n_))
                  have hcv51 := own_string (P := Tryd.prog) Tryd.underlying23 Tryd.underlying5 Tryd.underlying9 (Kd.own_of_R HO_4.out)
                  try have hcn51 := fun n_ : Nat => own_string (P := Tryd.prog) Tryd.underlying23 Tryd.underlying5 Tryd.underlying9 (Kd.own_of_R (Kd.R_drewN HO_4.out n_))
                  go_wp2
                  go_meet
                  case rel => exact ⟨_, (true), (by first | rfl | (simp; done) | (simp [*]; done)), H', ⟨by have := HJ10.out; first | omega | exact Nat.le_refl _⟩, ⟨by (with_reducible repeat (first | apply Kd.R_alloc | apply Kd.R_drewN | apply Kd.R_drew)); exact Kd.R_mono HO_11.out (fun _ hk => trivial)⟩, ⟨by repeat (first | (with_reducible first | exact HB.out | apply below_alloc | apply pw_below_drewN | apply below_drew1) | exact HB.out)⟩⟩
              · replace c44 := Bool.eq_false_iff.mpr c44
                subst c44
                have H1 : (laws_FnCodes.j1 kj10 t631 t632 t633 t634 true) = some r := by rw [if_neg (show ¬ (false = true) by decide)] at H; exact H
                clear H
                have H := H1
                clear H1
                have H' := Aside0.mk H
                clear H
                go_wp2
                go_meet
                case rel => exact ⟨_, (true), (by first | rfl | (simp; done) | (simp [*]; done)), H', ⟨by have := HJ10.out; first | omega | exact Nat.le_refl _⟩, ⟨by (with_reducible repeat (first | apply Kd.R_alloc | apply Kd.R_drewN | apply Kd.R_drew)); exact Kd.R_mono HO_11.out (fun _ hk => trivial)⟩, ⟨by repeat (first | (with_reducible first | exact HB.out | apply below_alloc | apply pw_below_drewN | apply below_drew1) | exact HB.out)⟩⟩
            case rest =>
              clear HC42
              try clear c1
              try clear c2
              try clear p2
              try clear hcv2
              try clear c3
              try clear hcv3
              try clear c4
              try clear hcv4
              try clear c5
              try clear hcv5
              try clear c6
              try clear c14
              try clear c18
              try clear c19
              try clear c20
              try clear c20b0
              try clear c20b1
              try clear c20b2
              try clear c21
              try clear c21b0
              try clear c21b1
              try clear c22
              try clear c22b0
              try clear c22b1
              try clear c22b2
              try clear c23
              try clear c23b0
              try clear c23b1
              try clear c26
              try clear c26b0
              try clear c26b1
              try clear c26b2
              try clear hcv27
              try clear hcv28
              try clear hcv32
              try clear hcv33
              try clear hcv37
              try clear hcv38
              try clear c39
              try clear c40
              try clear c42
              try clear c43
              try clear c44
              try clear c45
              try clear c45b0
              try clear c45b1
              try clear hcv47
              try clear hcv48
              try clear hcv50
              try clear hcv51
              try clear p2
              obtain ⟨kq, x118_41, rfl, HA, HJ41, HO_11, HB⟩ := hcut
              cases kq with
              | zero => exact absurd HA.out (by simp [laws_FnCodes.j1])
              | succ kj41 =>
                have H := HA.out
                clear HA
                simp only [laws_FnCodes.j1] at H
                by_cases c52 : x118_41 = true
                · subst c52
                  have H1 : (some false) = some r := by rw [if_pos rfl] at H; exact H
                  clear H
                  have H := H1
                  clear H1
                  obtain rfl := Option.some.inj H
                  cases hr_
                · replace c52 := Bool.eq_false_iff.mpr c52
                  subst c52
                  have H1 : (if t634 = true then ((impl_Decode.f kj41 t631 t633).bind fun bt651 => (if bt651.2 = true then (some (bt651.1.toList == t632.toList)) else (some false))) else (some true)) = some r := by rw [if_neg (show ¬ (false = true) by decide)] at H; exact H
                  clear H
                  have H := H1
                  clear H1
                  by_cases c53 : t634 = true
                  · subst c53
                    have H1 : ((impl_Decode.f kj41 t631 t633).bind fun bt651 => (if bt651.2 = true then (some (bt651.1.toList == t632.toList)) else (some false))) = some r := by rw [if_pos rfl] at H; exact H
                    clear H
                    have H := H1
                    clear H1
                    replace H := Option.bind_eq_some_iff.mp H
                    obtain ⟨⟨t651, t652⟩, A540, H⟩ := H
                    replace H : (if t652 = true then (some (t651.toList == t632.toList)) else (some false)) = some r := H
                    have A54 := Aside0.mk A540
                    clear A540
                    by_cases c55 : t652 = true
                    · subst c55
                      have H1 : (some (t651.toList == t632.toList)) = some r := by rw [if_pos rfl] at H; exact H
                      clear H
                      have H := H1
                      clear H1
                      obtain rfl := Option.some.inj H
                      clear hr_
                      obtain ⟨Ao56, co56, eo56⟩ := Kd.R_slice HO_11.out
                      subst eo56
                      go_wp2_with (first | ((with_reducible refine gate_callee (f := 44) rfl ?_); refine goesL_ (some 123) rfl rfl Tryd.func44 (by kernel_rfl) rfl #[.int .i64 t631, .slice Ao56 t633.length co56] rfl ka_ ?_; (with_reducible refine (impl_Decode.calls (hT := ?sideT) kj41 t631 _ _ t633 t651 true _ ?side1 ?side2 A54.out).mono ?_); (case sideT => first | exact HT.out | exact HT.out.below hb_ | exact HT.out.drawn (by repeat (first | exact Drawn0.refl _ | apply Drawn0.step | assumption))); (case side1 => repeat (first | exact (Kd.R_reads' HO_11.out).2.2 | (with_reducible refine Kd.C_alloc ?_ _) | (with_reducible refine Kd.C_drewN ?_ _) | (with_reducible refine Kd.C_drew ?_))); (case side2 => exact (Kd.R_reads' HO_11.out).2.1); rintro e w57 ⟨rfl, hb⟩; refine ⟨_, rfl, ?_⟩; have n0_ := Aside0.mk (Kd.R_below (kr_ HO_11) hb); have n1_ := Aside0.mk (below_step hb_ hb); clear HO_11; clear HB; have HO_11 := n0_; have HB := n1_; clear n0_ n1_; (try clear hb); (try clear hb2); (try clear hk); (try clear hi)))
                      go_ret
                      exact ⟨rf_, hb_⟩
                    · replace c55 := Bool.eq_false_iff.mpr c55
                      subst c55
                      have H1 : (some false) = some r := by rw [if_neg (show ¬ (false = true) by decide)] at H; exact H
                      clear H
                      have H := H1
                      clear H1
                      obtain rfl := Option.some.inj H
                      cases hr_
                  · replace c53 := Bool.eq_false_iff.mpr c53
                    subst c53
                    have H1 : (some true) = some r := by rw [if_neg (show ¬ (false = true) by decide)] at H; exact H
                    clear H
                    have H := H1
                    clear H1
                    obtain rfl := Option.some.inj H
                    clear hr_
                    go_wp2
                    go_ret
                    exact ⟨rf_, hb_⟩
          · replace c40 := Bool.eq_false_iff.mpr c40
            subst c40
            have H1 : (if t634 = true then ((impl_Decode.f kj10 t631 t633).bind fun bt653 => (if bt653.2 = true then (some (bt653.1.toList == t632.toList)) else (some false))) else (some true)) = some r := by rw [if_neg (show ¬ (false = true) by decide)] at H; exact H
            clear H
            have H := H1
            clear H1
            by_cases c60 : t634 = true
            · subst c60
              have H1 : ((impl_Decode.f kj10 t631 t633).bind fun bt653 => (if bt653.2 = true then (some (bt653.1.toList == t632.toList)) else (some false))) = some r := by rw [if_pos rfl] at H; exact H
              clear H
              have H := H1
              clear H1
              replace H := Option.bind_eq_some_iff.mp H
              obtain ⟨⟨t653, t654⟩, A610, H⟩ := H
              replace H : (if t654 = true then (some (t653.toList == t632.toList)) else (some false)) = some r := H
              have A61 := Aside0.mk A610
              clear A610
              by_cases c62 : t654 = true
              · subst c62
                have H1 : (some (t653.toList == t632.toList)) = some r := by rw [if_pos rfl] at H; exact H
                clear H
                have H := H1
                clear H1
                obtain rfl := Option.some.inj H
                clear hr_
                obtain ⟨Ao63, co63, eo63⟩ := Kd.R_slice HO_11.out
                subst eo63
                go_wp2_with (first | ((with_reducible refine gate_callee (f := 44) rfl ?_); refine goesL_ (some 123) rfl rfl Tryd.func44 (by kernel_rfl) rfl #[.int .i64 t631, .slice Ao63 t633.length co63] rfl ka_ ?_; (with_reducible refine (impl_Decode.calls (hT := ?sideT) kj10 t631 _ _ t633 t653 true _ ?side1 ?side2 A61.out).mono ?_); (case sideT => first | exact HT.out | exact HT.out.below hb_ | exact HT.out.drawn (by repeat (first | exact Drawn0.refl _ | apply Drawn0.step | assumption))); (case side1 => repeat (first | exact (Kd.R_reads' HO_11.out).2.2 | (with_reducible refine Kd.C_alloc ?_ _) | (with_reducible refine Kd.C_drewN ?_ _) | (with_reducible refine Kd.C_drew ?_))); (case side2 => exact (Kd.R_reads' HO_11.out).2.1); rintro e w64 ⟨rfl, hb⟩; refine ⟨_, rfl, ?_⟩; have n0_ := Aside0.mk (Kd.R_below (kr_ HO_4) hb); have n1_ := Aside0.mk (Kd.R_below (kr_ HO_11) hb); have n2_ := Aside0.mk (below_step hb_ hb); clear HO_4; clear HO_11; clear HB; have HO_4 := n0_; have HO_11 := n1_; have HB := n2_; clear n0_ n1_ n2_; (try clear hb); (try clear hb2); (try clear hk); (try clear hi)))
                go_ret
                exact ⟨rf_, hb_⟩
              · replace c62 := Bool.eq_false_iff.mpr c62
                subst c62
                have H1 : (some false) = some r := by rw [if_neg (show ¬ (false = true) by decide)] at H; exact H
                clear H
                have H := H1
                clear H1
                obtain rfl := Option.some.inj H
                cases hr_
            · replace c60 := Bool.eq_false_iff.mpr c60
              subst c60
              have H1 : (some true) = some r := by rw [if_neg (show ¬ (false = true) by decide)] at H; exact H
              clear H
              have H := H1
              clear H1
              obtain rfl := Option.some.inj H
              clear hr_
              go_wp2
              go_ret
              exact ⟨rf_, hb_⟩

/-- THE ONE PURE STATEMENT of laws_FnCodes: yours. -/
def laws_FnCodes.Pure : Prop := ∀ (l0 : List Int), l0.length ≤ maxLen → l0.length * 1 ≤ 140737488351232 → (∀ x ∈ l0, (Lit.int .u8 x).wf = true) → ∃ k, laws_FnCodes.f k l0 = some true
theorem laws_FnCodes.walk (P : laws_FnCodes.Pure) (a0 : Option Addr) (len0 cap0 : Nat) (z0 : List Int) (w : World) (hT : TabsOk w) (w0 : (a0 = none ∧ len0 = 0 ∧ cap0 = 0 ∧ z0 = []) ∨ ∃ x, a0 = some x ∧ len0 ≤ cap0 ∧ cap0 ≤ maxLen ∧ z0.length = cap0 ∧ (∀ i, i < z0.length → w.cell? (x.add i) = some (.int .u8 (z0.getD i 0))) ∧ ∀ n ∈ z0, (Lit.int .u8 n).wf = true) (y0 : len0 * 1 ≤ 140737488351232) :
    Calls Tryd.prog 14 #[.slice a0 len0 cap0] w fun e w' => e = .returned (.bool true) ∧ Below w.heap.size w w' := by
  obtain ⟨l0, rfl, hr0, hm0, hw0, hc0⟩ := ReadsInt.ofRowC w0
  obtain ⟨k, h⟩ := P l0 hm0 y0 hw0
  refine (laws_FnCodes.calls (hT := hT) k _ _ l0 true w (Kd.C_of_reads (d := (0 : Int)) (h1 := fun _ => rfl) hr0) hc0 h rfl).mono ?_
  rintro e w' ⟨rfl, hd⟩
  exact ⟨rfl, hd⟩

end Go.Proofs.YtpmimhbnmjffpaaDoor.QFnCodes
