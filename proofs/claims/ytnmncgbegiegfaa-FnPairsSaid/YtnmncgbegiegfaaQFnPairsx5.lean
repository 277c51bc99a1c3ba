/- The functions that a law reaches, each as a plain function, and that Go comes to just its answer: written by the session's program pp.py (the kit's print, with a few rows turned). -/
import Derived.Test.YtnmncgbegiegfaaQFnPairsx0
import Derived.Test.YtnmncgbegiegfaaQFnPairsx1
import Derived.Test.YtnmncgbegiegfaaQFnPairsx2
import Derived.Test.YtnmncgbegiegfaaQFnPairsx3
import Derived.Test.YtnmncgbegiegfaaQFnPairsx4
namespace Go.Proofs.Ytnmncgbegiegfaa.QFnPairs
open Go.RowKit Go.Proofs.YtnmncgbegiegfaaW.PrintWords Go.Proofs.YtnmncgbegiegfaaW.PrintLast Go.Proofs.YtnmncgbegiegfaaW.PrintMore Go.Proofs.Ytnmncgbegiegfaa.Xw
attribute [local go_sem] max2_int min2_int max_two min_two max_three min_three max_four min_four   -- for this text's walks alone
set_option linter.unusedVariables false
set_option linter.unusedSimpArgs false

/-! ### laws_FnPairs: function 6 -/
mutual
def laws_FnPairs.j0 : Nat → Int → Int → Int → Bool → List Int → Int → Int → Int → Bool → Bool → Option (Bool)
  | 0, _, _, _, _, _, _, _, _, _, _ => none
  | k + 1, x3, x4, x5, x6, x16, x17, x18, x19, x20, x143 => if x143 = true then (some false) else (if x6 = true then ((impl_SignPair.f x5).bind fun bt369 => (if bt369.2.2 = true then (if bt369.1 = x3 then (laws_FnPairs.j1 k x16 x17 x18 x19 x20 (bt369.2.1 != x4)) else (laws_FnPairs.j1 k x16 x17 x18 x19 x20 true)) else (laws_FnPairs.j1 k x16 x17 x18 x19 x20 true))) else (if x20 = true then ((impl_PutEuc.f k (([] : List Int)) x18).bind fun bt386 => (if bt386.2 = true then (if 0 ≤ x17 then (if x17 ≤ x19 then (if x19 ≤ (x16.length : Int) then (some ((strOfNums bt386.1).toList == (strOfNums ((x16.take (x19 : Int).toNat).drop (x17 : Int).toNat)).toList)) else (none)) else (none)) else (none)) else (some false))) else (some true)))
def laws_FnPairs.j1 : Nat → List Int → Int → Int → Int → Bool → Bool → Option (Bool)
  | 0, _, _, _, _, _, _ => none
  | k + 1, x16, x17, x18, x19, x20, x162 => if x162 = true then (some false) else (if x20 = true then ((impl_PutEuc.f k (([] : List Int)) x18).bind fun bt375 => (if bt375.2 = true then (if 0 ≤ x17 then (if x17 ≤ x19 then (if x19 ≤ (x16.length : Int) then (some ((strOfNums bt375.1).toList == (strOfNums ((x16.take (x19 : Int).toNat).drop (x17 : Int).toNat)).toList)) else (none)) else (none)) else (none)) else (some false))) else (some true))
end
def laws_FnPairs.f (k : Nat) (l0 : List Int) : Option (Bool) := (laws_big.f l0).bind fun t333 => (if t333 = true then (some true) else ((spec_DrawPairSign.f k l0).bind fun bt334 => ((impl_PairSign.f k bt334.1 bt334.2).bind fun bt336 => ((spec_PairSign.f k bt334.1 bt334.2).bind fun bt338 => ((spec_DrawSignPair.f k l0).bind fun t340 => ((impl_SignPair.f t340).bind fun bt341 => ((spec_SignPair.f t340).bind fun bt344 => ((spec_DrawEucSign.f k l0).bind fun bt347 => ((impl_EucSign.f k bt347.1 bt347.2).bind fun bt351 => ((spec_EucSign.f k bt347.1 bt347.2).bind fun bt354 => ((spec_DrawPutEuc.f k l0).bind fun bt357 => ((impl_PutEuc.f k bt357.1 bt357.2).bind fun bt361 => ((spec_PutEuc.f bt357.1 bt357.2).bind fun bt365 => (if (bt336.2 != bt338.2) = true then (laws_FnPairs.j0 k bt334.1 bt334.2 bt336.1 bt336.2 bt347.1 bt347.2 bt351.1 bt351.2.1 bt351.2.2 true) else (if bt336.1 = bt338.1 then (if (bt341.2.2 != bt344.2.2) = true then (laws_FnPairs.j0 k bt334.1 bt334.2 bt336.1 bt336.2 bt347.1 bt347.2 bt351.1 bt351.2.1 bt351.2.2 true) else (if bt341.1 = bt344.1 then (if bt341.2.1 = bt344.2.1 then (if (bt351.2.2 != bt354.2.2) = true then (laws_FnPairs.j0 k bt334.1 bt334.2 bt336.1 bt336.2 bt347.1 bt347.2 bt351.1 bt351.2.1 bt351.2.2 true) else (if (bt361.2 != bt365.2) = true then (laws_FnPairs.j0 k bt334.1 bt334.2 bt336.1 bt336.2 bt347.1 bt347.2 bt351.1 bt351.2.1 bt351.2.2 true) else (laws_FnPairs.j0 k bt334.1 bt334.2 bt336.1 bt336.2 bt347.1 bt347.2 bt351.1 bt351.2.1 bt351.2.2 ((strOfNums bt361.1).toList != (strOfNums bt365.1).toList)))) else (laws_FnPairs.j0 k bt334.1 bt334.2 bt336.1 bt336.2 bt347.1 bt347.2 bt351.1 bt351.2.1 bt351.2.2 true)) else (laws_FnPairs.j0 k bt334.1 bt334.2 bt336.1 bt336.2 bt347.1 bt347.2 bt351.1 bt351.2.1 bt351.2.2 true))) else (laws_FnPairs.j0 k bt334.1 bt334.2 bt336.1 bt336.2 bt347.1 bt347.2 bt351.1 bt351.2.1 bt351.2.2 true))))))))))))))))
theorem laws_FnPairs.mono_l : ∀ k, (∀ y0 y1 y2 y3 y4 y5 y6 y7 y8 y9, LeO (laws_FnPairs.j0 k y0 y1 y2 y3 y4 y5 y6 y7 y8 y9) (laws_FnPairs.j0 (k + 1) y0 y1 y2 y3 y4 y5 y6 y7 y8 y9)) ∧ (∀ y0 y1 y2 y3 y4 y5, LeO (laws_FnPairs.j1 k y0 y1 y2 y3 y4 y5) (laws_FnPairs.j1 (k + 1) y0 y1 y2 y3 y4 y5))
  | 0 => ⟨fun _ _ _ _ _ _ _ _ _ _ r h => by simp [laws_FnPairs.j0] at h, fun _ _ _ _ _ _ r h => by simp [laws_FnPairs.j1] at h⟩
  | k + 1 => by
    obtain ⟨ih0, ih1⟩ := laws_FnPairs.mono_l k
    refine ⟨?_, ?_⟩
    · intro y0 y1 y2 y3 y4 y5 y6 y7 y8 y9
      unfold laws_FnPairs.j0
      repeat' first
      | (with_reducible exact ih0 _ _ _ _ _ _ _ _ _ _)
      | (with_reducible exact ih1 _ _ _ _ _ _)
      | (with_reducible exact impl_EucSign.mono _ _ _)
      | (with_reducible exact impl_PairSign.mono _ _ _)
      | (with_reducible exact impl_PutEuc.mono _ _ _)
      | (with_reducible exact spec_DrawEucSign.mono _ _)
      | (with_reducible exact spec_DrawPairSign.mono _ _)
      | (with_reducible exact spec_DrawPutEuc.mono _ _)
      | (with_reducible exact spec_DrawSignPair.mono _ _)
      | (with_reducible exact spec_EucSign.mono _ _ _)
      | (with_reducible exact spec_PairSign.mono _ _ _)
      | (with_reducible exact LeO.refl _)
      | (with_reducible exact LeO.none _)
      | (with_reducible refine LeO.ite ?_ ?_)
      | (with_reducible refine LeO.bind ?_ (fun _ => ?_))
      | exact ih0 _ _ _ _ _ _ _ _ _ _
      | exact ih1 _ _ _ _ _ _
      | exact impl_EucSign.mono _ _ _
      | exact impl_PairSign.mono _ _ _
      | exact impl_PutEuc.mono _ _ _
      | exact spec_DrawEucSign.mono _ _
      | exact spec_DrawPairSign.mono _ _
      | exact spec_DrawPutEuc.mono _ _
      | exact spec_DrawSignPair.mono _ _
      | exact spec_EucSign.mono _ _ _
      | exact spec_PairSign.mono _ _ _
      | exact LeO.none _
      | refine LeO.ite ?_ ?_
      | refine LeO.bind ?_ (fun _ => ?_)
    · intro y0 y1 y2 y3 y4 y5
      unfold laws_FnPairs.j1
      repeat' first
      | (with_reducible exact ih0 _ _ _ _ _ _ _ _ _ _)
      | (with_reducible exact ih1 _ _ _ _ _ _)
      | (with_reducible exact impl_EucSign.mono _ _ _)
      | (with_reducible exact impl_PairSign.mono _ _ _)
      | (with_reducible exact impl_PutEuc.mono _ _ _)
      | (with_reducible exact spec_DrawEucSign.mono _ _)
      | (with_reducible exact spec_DrawPairSign.mono _ _)
      | (with_reducible exact spec_DrawPutEuc.mono _ _)
      | (with_reducible exact spec_DrawSignPair.mono _ _)
      | (with_reducible exact spec_EucSign.mono _ _ _)
      | (with_reducible exact spec_PairSign.mono _ _ _)
      | (with_reducible exact LeO.refl _)
      | (with_reducible exact LeO.none _)
      | (with_reducible refine LeO.ite ?_ ?_)
      | (with_reducible refine LeO.bind ?_ (fun _ => ?_))
      | exact ih0 _ _ _ _ _ _ _ _ _ _
      | exact ih1 _ _ _ _ _ _
      | exact impl_EucSign.mono _ _ _
      | exact impl_PairSign.mono _ _ _
      | exact impl_PutEuc.mono _ _ _
      | exact spec_DrawEucSign.mono _ _
      | exact spec_DrawPairSign.mono _ _
      | exact spec_DrawPutEuc.mono _ _
      | exact spec_DrawSignPair.mono _ _
      | exact spec_EucSign.mono _ _ _
      | exact spec_PairSign.mono _ _ _
      | exact LeO.none _
      | refine LeO.ite ?_ ?_
      | refine LeO.bind ?_ (fun _ => ?_)
theorem laws_FnPairs.mono : ∀ a0 k, LeO (laws_FnPairs.f k a0) (laws_FnPairs.f (k + 1) a0) := by
  intro a0 k
  obtain ⟨ih0, ih1⟩ := laws_FnPairs.mono_l k
  unfold laws_FnPairs.f
  repeat' first
      | (with_reducible exact ih0 _ _ _ _ _ _ _ _ _ _)
      | (with_reducible exact ih1 _ _ _ _ _ _)
      | (with_reducible exact impl_EucSign.mono _ _ _)
      | (with_reducible exact impl_PairSign.mono _ _ _)
      | (with_reducible exact impl_PutEuc.mono _ _ _)
      | (with_reducible exact spec_DrawEucSign.mono _ _)
      | (with_reducible exact spec_DrawPairSign.mono _ _)
      | (with_reducible exact spec_DrawPutEuc.mono _ _)
      | (with_reducible exact spec_DrawSignPair.mono _ _)
      | (with_reducible exact spec_EucSign.mono _ _ _)
      | (with_reducible exact spec_PairSign.mono _ _ _)
      | (with_reducible exact LeO.refl _)
      | (with_reducible exact LeO.none _)
      | (with_reducible refine LeO.ite ?_ ?_)
      | (with_reducible refine LeO.bind ?_ (fun _ => ?_))
      | exact ih0 _ _ _ _ _ _ _ _ _ _
      | exact ih1 _ _ _ _ _ _
      | exact impl_EucSign.mono _ _ _
      | exact impl_PairSign.mono _ _ _
      | exact impl_PutEuc.mono _ _ _
      | exact spec_DrawEucSign.mono _ _
      | exact spec_DrawPairSign.mono _ _
      | exact spec_DrawPutEuc.mono _ _
      | exact spec_DrawSignPair.mono _ _
      | exact spec_EucSign.mono _ _ _
      | exact spec_PairSign.mono _ _ _
      | exact LeO.none _
      | refine LeO.ite ?_ ?_
      | refine LeO.bind ?_ (fun _ => ?_)
def laws_FnPairs.T23 : Bool × List (List Nat × List Nat) := (true, [([], []), ([0], [0]), ([1], [1]), ([2, 1], [1, 2]), ([1], [1]), ([1], [1]), ([1], [1]), ([4, 5, 6, 1], [1, 4, 5, 6]), ([7, 1], [1, 7]), ([3, 8, 1], [1, 3, 8]), ([1, 9], [1, 9]), ([10, 1, 0, 1, 2, 3, 4, 5, 6, 7, 8, 9, 10], [10])])
def laws_FnPairs.B23 : List Nat := [0, 1, 3, 7, 3, 3, 3, 115, 243, 511, 1023, 2047]
theorem laws_FnPairs.tab23 : rtab .any (opsOf Try.f6 23) = laws_FnPairs.T23 := by kernel_rfl
theorem laws_FnPairs.bits23 : waitsOk laws_FnPairs.T23.2 laws_FnPairs.B23 = true := by kernel_rfl
set_option maxHeartbeats 8000000 in
set_option maxRecDepth 100000 in
theorem laws_FnPairs.calls (k : Nat) (A0 : Option Addr) (c0 : Nat) (l0 : List Int) (r : Bool) (w : World) (hr0 : Kd.C (Kd.int .u8) w A0 l0.length l0) (hc0 : l0.length ≤ c0) (h : laws_FnPairs.f k l0 = some r) :
    Calls Try.prog 6 #[.slice A0 l0.length c0] w fun e w' => e = .returned (.bool r) ∧ Below w.heap.size w w' := by
  have HR0 := Aside0.mk hr0
  have HC0 := Aside0.mk hc0
  clear hr0 hc0
  have HB := Aside0.mk (Below.refl w.heap.size w)
  have H : ((laws_big.f l0).bind fun t333 => (if t333 = true then (some true) else ((spec_DrawPairSign.f k l0).bind fun bt334 => ((impl_PairSign.f k bt334.1 bt334.2).bind fun bt336 => ((spec_PairSign.f k bt334.1 bt334.2).bind fun bt338 => ((spec_DrawSignPair.f k l0).bind fun t340 => ((impl_SignPair.f t340).bind fun bt341 => ((spec_SignPair.f t340).bind fun bt344 => ((spec_DrawEucSign.f k l0).bind fun bt347 => ((impl_EucSign.f k bt347.1 bt347.2).bind fun bt351 => ((spec_EucSign.f k bt347.1 bt347.2).bind fun bt354 => ((spec_DrawPutEuc.f k l0).bind fun bt357 => ((impl_PutEuc.f k bt357.1 bt357.2).bind fun bt361 => ((spec_PutEuc.f bt357.1 bt357.2).bind fun bt365 => (if (bt336.2 != bt338.2) = true then (laws_FnPairs.j0 k bt334.1 bt334.2 bt336.1 bt336.2 bt347.1 bt347.2 bt351.1 bt351.2.1 bt351.2.2 true) else (if bt336.1 = bt338.1 then (if (bt341.2.2 != bt344.2.2) = true then (laws_FnPairs.j0 k bt334.1 bt334.2 bt336.1 bt336.2 bt347.1 bt347.2 bt351.1 bt351.2.1 bt351.2.2 true) else (if bt341.1 = bt344.1 then (if bt341.2.1 = bt344.2.1 then (if (bt351.2.2 != bt354.2.2) = true then (laws_FnPairs.j0 k bt334.1 bt334.2 bt336.1 bt336.2 bt347.1 bt347.2 bt351.1 bt351.2.1 bt351.2.2 true) else (if (bt361.2 != bt365.2) = true then (laws_FnPairs.j0 k bt334.1 bt334.2 bt336.1 bt336.2 bt347.1 bt347.2 bt351.1 bt351.2.1 bt351.2.2 true) else (laws_FnPairs.j0 k bt334.1 bt334.2 bt336.1 bt336.2 bt347.1 bt347.2 bt351.1 bt351.2.1 bt351.2.2 ((strOfNums bt361.1).toList != (strOfNums bt365.1).toList)))) else (laws_FnPairs.j0 k bt334.1 bt334.2 bt336.1 bt336.2 bt347.1 bt347.2 bt351.1 bt351.2.1 bt351.2.2 true)) else (laws_FnPairs.j0 k bt334.1 bt334.2 bt336.1 bt336.2 bt347.1 bt347.2 bt351.1 bt351.2.1 bt351.2.2 true))) else (laws_FnPairs.j0 k bt334.1 bt334.2 bt336.1 bt336.2 bt347.1 bt347.2 bt351.1 bt351.2.1 bt351.2.2 true))))))))))))))))) = some r := h
  clear h
  replace H := Option.bind_eq_some_iff.mp H
  obtain ⟨t333, A20, H⟩ := H
  replace H : (if t333 = true then (some true) else ((spec_DrawPairSign.f k l0).bind fun bt334 => ((impl_PairSign.f k bt334.1 bt334.2).bind fun bt336 => ((spec_PairSign.f k bt334.1 bt334.2).bind fun bt338 => ((spec_DrawSignPair.f k l0).bind fun t340 => ((impl_SignPair.f t340).bind fun bt341 => ((spec_SignPair.f t340).bind fun bt344 => ((spec_DrawEucSign.f k l0).bind fun bt347 => ((impl_EucSign.f k bt347.1 bt347.2).bind fun bt351 => ((spec_EucSign.f k bt347.1 bt347.2).bind fun bt354 => ((spec_DrawPutEuc.f k l0).bind fun bt357 => ((impl_PutEuc.f k bt357.1 bt357.2).bind fun bt361 => ((spec_PutEuc.f bt357.1 bt357.2).bind fun bt365 => (if (bt336.2 != bt338.2) = true then (laws_FnPairs.j0 k bt334.1 bt334.2 bt336.1 bt336.2 bt347.1 bt347.2 bt351.1 bt351.2.1 bt351.2.2 true) else (if bt336.1 = bt338.1 then (if (bt341.2.2 != bt344.2.2) = true then (laws_FnPairs.j0 k bt334.1 bt334.2 bt336.1 bt336.2 bt347.1 bt347.2 bt351.1 bt351.2.1 bt351.2.2 true) else (if bt341.1 = bt344.1 then (if bt341.2.1 = bt344.2.1 then (if (bt351.2.2 != bt354.2.2) = true then (laws_FnPairs.j0 k bt334.1 bt334.2 bt336.1 bt336.2 bt347.1 bt347.2 bt351.1 bt351.2.1 bt351.2.2 true) else (if (bt361.2 != bt365.2) = true then (laws_FnPairs.j0 k bt334.1 bt334.2 bt336.1 bt336.2 bt347.1 bt347.2 bt351.1 bt351.2.1 bt351.2.2 true) else (laws_FnPairs.j0 k bt334.1 bt334.2 bt336.1 bt336.2 bt347.1 bt347.2 bt351.1 bt351.2.1 bt351.2.2 ((strOfNums bt361.1).toList != (strOfNums bt365.1).toList)))) else (laws_FnPairs.j0 k bt334.1 bt334.2 bt336.1 bt336.2 bt347.1 bt347.2 bt351.1 bt351.2.1 bt351.2.2 true)) else (laws_FnPairs.j0 k bt334.1 bt334.2 bt336.1 bt336.2 bt347.1 bt347.2 bt351.1 bt351.2.1 bt351.2.2 true))) else (laws_FnPairs.j0 k bt334.1 bt334.2 bt336.1 bt336.2 bt347.1 bt347.2 bt351.1 bt351.2.1 bt351.2.2 true)))))))))))))))) = some r := H
  have A2 := Aside0.mk A20
  clear A20
  by_cases c3 : t333 = true
  · subst c3
    have H1 : (some true) = some r := by rw [if_pos rfl] at H; exact H
    clear H
    have H := H1
    clear H1
    obtain rfl := Option.some.inj H
    go_enter Try.func6, Try.ntmps6
    go_wp2_with (first | ((with_reducible refine gate_callee (f := 8) rfl ?_); refine goesL_ (some 36) rfl rfl Try.func8 (by kernel_rfl) rfl #[.slice A0 l0.length c0] rfl (by (try simp only [List.map_toArray, List.map_cons, List.map_nil]); first | done | rfl | (simp only [List.length_drop, List.length_take]; rfl)) ?_; (with_reducible refine (laws_big.calls _ _ l0 true _ ?side1 ?side2 A2.out).mono ?_); (case side1 => repeat (first | exact HR0.out | (with_reducible refine Kd.C_alloc ?_ _) | (with_reducible refine Kd.C_drewN ?_ _) | (with_reducible refine Kd.C_drew ?_))); (case side2 => exact HC0.out); rintro e w' ⟨rfl, ⟨nd, rfl⟩⟩; refine ⟨_, rfl, ?_⟩))
    go_ret
    exact ⟨by first | rfl | (simp [errW_none, errW_some] <;> rfl) | (simp [*, errW_none, errW_some] <;> rfl), by repeat (first | (with_reducible first | exact HB.out | apply below_alloc | apply pw_below_drewN | apply below_drew1) | exact HB.out)⟩
  · replace c3 := Bool.eq_false_iff.mpr c3
    subst c3
    have H1 : ((spec_DrawPairSign.f k l0).bind fun bt334 => ((impl_PairSign.f k bt334.1 bt334.2).bind fun bt336 => ((spec_PairSign.f k bt334.1 bt334.2).bind fun bt338 => ((spec_DrawSignPair.f k l0).bind fun t340 => ((impl_SignPair.f t340).bind fun bt341 => ((spec_SignPair.f t340).bind fun bt344 => ((spec_DrawEucSign.f k l0).bind fun bt347 => ((impl_EucSign.f k bt347.1 bt347.2).bind fun bt351 => ((spec_EucSign.f k bt347.1 bt347.2).bind fun bt354 => ((spec_DrawPutEuc.f k l0).bind fun bt357 => ((impl_PutEuc.f k bt357.1 bt357.2).bind fun bt361 => ((spec_PutEuc.f bt357.1 bt357.2).bind fun bt365 => (if (bt336.2 != bt338.2) = true then (laws_FnPairs.j0 k bt334.1 bt334.2 bt336.1 bt336.2 bt347.1 bt347.2 bt351.1 bt351.2.1 bt351.2.2 true) else (if bt336.1 = bt338.1 then (if (bt341.2.2 != bt344.2.2) = true then (laws_FnPairs.j0 k bt334.1 bt334.2 bt336.1 bt336.2 bt347.1 bt347.2 bt351.1 bt351.2.1 bt351.2.2 true) else (if bt341.1 = bt344.1 then (if bt341.2.1 = bt344.2.1 then (if (bt351.2.2 != bt354.2.2) = true then (laws_FnPairs.j0 k bt334.1 bt334.2 bt336.1 bt336.2 bt347.1 bt347.2 bt351.1 bt351.2.1 bt351.2.2 true) else (if (bt361.2 != bt365.2) = true then (laws_FnPairs.j0 k bt334.1 bt334.2 bt336.1 bt336.2 bt347.1 bt347.2 bt351.1 bt351.2.1 bt351.2.2 true) else (laws_FnPairs.j0 k bt334.1 bt334.2 bt336.1 bt336.2 bt347.1 bt347.2 bt351.1 bt351.2.1 bt351.2.2 ((strOfNums bt361.1).toList != (strOfNums bt365.1).toList)))) else (laws_FnPairs.j0 k bt334.1 bt334.2 bt336.1 bt336.2 bt347.1 bt347.2 bt351.1 bt351.2.1 bt351.2.2 true)) else (laws_FnPairs.j0 k bt334.1 bt334.2 bt336.1 bt336.2 bt347.1 bt347.2 bt351.1 bt351.2.1 bt351.2.2 true))) else (laws_FnPairs.j0 k bt334.1 bt334.2 bt336.1 bt336.2 bt347.1 bt347.2 bt351.1 bt351.2.1 bt351.2.2 true))))))))))))))) = some r := by rw [if_neg (show ¬ (false = true) by decide)] at H; exact H
    clear H
    have H := H1
    clear H1
    replace H := Option.bind_eq_some_iff.mp H
    obtain ⟨⟨t334, t335⟩, A40, H⟩ := H
    replace H : ((impl_PairSign.f k t334 t335).bind fun bt336 => ((spec_PairSign.f k t334 t335).bind fun bt338 => ((spec_DrawSignPair.f k l0).bind fun t340 => ((impl_SignPair.f t340).bind fun bt341 => ((spec_SignPair.f t340).bind fun bt344 => ((spec_DrawEucSign.f k l0).bind fun bt347 => ((impl_EucSign.f k bt347.1 bt347.2).bind fun bt351 => ((spec_EucSign.f k bt347.1 bt347.2).bind fun bt354 => ((spec_DrawPutEuc.f k l0).bind fun bt357 => ((impl_PutEuc.f k bt357.1 bt357.2).bind fun bt361 => ((spec_PutEuc.f bt357.1 bt357.2).bind fun bt365 => (if (bt336.2 != bt338.2) = true then (laws_FnPairs.j0 k t334 t335 bt336.1 bt336.2 bt347.1 bt347.2 bt351.1 bt351.2.1 bt351.2.2 true) else (if bt336.1 = bt338.1 then (if (bt341.2.2 != bt344.2.2) = true then (laws_FnPairs.j0 k t334 t335 bt336.1 bt336.2 bt347.1 bt347.2 bt351.1 bt351.2.1 bt351.2.2 true) else (if bt341.1 = bt344.1 then (if bt341.2.1 = bt344.2.1 then (if (bt351.2.2 != bt354.2.2) = true then (laws_FnPairs.j0 k t334 t335 bt336.1 bt336.2 bt347.1 bt347.2 bt351.1 bt351.2.1 bt351.2.2 true) else (if (bt361.2 != bt365.2) = true then (laws_FnPairs.j0 k t334 t335 bt336.1 bt336.2 bt347.1 bt347.2 bt351.1 bt351.2.1 bt351.2.2 true) else (laws_FnPairs.j0 k t334 t335 bt336.1 bt336.2 bt347.1 bt347.2 bt351.1 bt351.2.1 bt351.2.2 ((strOfNums bt361.1).toList != (strOfNums bt365.1).toList)))) else (laws_FnPairs.j0 k t334 t335 bt336.1 bt336.2 bt347.1 bt347.2 bt351.1 bt351.2.1 bt351.2.2 true)) else (laws_FnPairs.j0 k t334 t335 bt336.1 bt336.2 bt347.1 bt347.2 bt351.1 bt351.2.1 bt351.2.2 true))) else (laws_FnPairs.j0 k t334 t335 bt336.1 bt336.2 bt347.1 bt347.2 bt351.1 bt351.2.1 bt351.2.2 true)))))))))))))) = some r := H
    have A4 := Aside0.mk A40
    clear A40
    replace H := Option.bind_eq_some_iff.mp H
    obtain ⟨⟨t336, t337⟩, A50, H⟩ := H
    replace H : ((spec_PairSign.f k t334 t335).bind fun bt338 => ((spec_DrawSignPair.f k l0).bind fun t340 => ((impl_SignPair.f t340).bind fun bt341 => ((spec_SignPair.f t340).bind fun bt344 => ((spec_DrawEucSign.f k l0).bind fun bt347 => ((impl_EucSign.f k bt347.1 bt347.2).bind fun bt351 => ((spec_EucSign.f k bt347.1 bt347.2).bind fun bt354 => ((spec_DrawPutEuc.f k l0).bind fun bt357 => ((impl_PutEuc.f k bt357.1 bt357.2).bind fun bt361 => ((spec_PutEuc.f bt357.1 bt357.2).bind fun bt365 => (if (t337 != bt338.2) = true then (laws_FnPairs.j0 k t334 t335 t336 t337 bt347.1 bt347.2 bt351.1 bt351.2.1 bt351.2.2 true) else (if t336 = bt338.1 then (if (bt341.2.2 != bt344.2.2) = true then (laws_FnPairs.j0 k t334 t335 t336 t337 bt347.1 bt347.2 bt351.1 bt351.2.1 bt351.2.2 true) else (if bt341.1 = bt344.1 then (if bt341.2.1 = bt344.2.1 then (if (bt351.2.2 != bt354.2.2) = true then (laws_FnPairs.j0 k t334 t335 t336 t337 bt347.1 bt347.2 bt351.1 bt351.2.1 bt351.2.2 true) else (if (bt361.2 != bt365.2) = true then (laws_FnPairs.j0 k t334 t335 t336 t337 bt347.1 bt347.2 bt351.1 bt351.2.1 bt351.2.2 true) else (laws_FnPairs.j0 k t334 t335 t336 t337 bt347.1 bt347.2 bt351.1 bt351.2.1 bt351.2.2 ((strOfNums bt361.1).toList != (strOfNums bt365.1).toList)))) else (laws_FnPairs.j0 k t334 t335 t336 t337 bt347.1 bt347.2 bt351.1 bt351.2.1 bt351.2.2 true)) else (laws_FnPairs.j0 k t334 t335 t336 t337 bt347.1 bt347.2 bt351.1 bt351.2.1 bt351.2.2 true))) else (laws_FnPairs.j0 k t334 t335 t336 t337 bt347.1 bt347.2 bt351.1 bt351.2.1 bt351.2.2 true))))))))))))) = some r := H
    have A5 := Aside0.mk A50
    clear A50
    replace H := Option.bind_eq_some_iff.mp H
    obtain ⟨⟨t338, t339⟩, A60, H⟩ := H
    replace H : ((spec_DrawSignPair.f k l0).bind fun t340 => ((impl_SignPair.f t340).bind fun bt341 => ((spec_SignPair.f t340).bind fun bt344 => ((spec_DrawEucSign.f k l0).bind fun bt347 => ((impl_EucSign.f k bt347.1 bt347.2).bind fun bt351 => ((spec_EucSign.f k bt347.1 bt347.2).bind fun bt354 => ((spec_DrawPutEuc.f k l0).bind fun bt357 => ((impl_PutEuc.f k bt357.1 bt357.2).bind fun bt361 => ((spec_PutEuc.f bt357.1 bt357.2).bind fun bt365 => (if (t337 != t339) = true then (laws_FnPairs.j0 k t334 t335 t336 t337 bt347.1 bt347.2 bt351.1 bt351.2.1 bt351.2.2 true) else (if t336 = t338 then (if (bt341.2.2 != bt344.2.2) = true then (laws_FnPairs.j0 k t334 t335 t336 t337 bt347.1 bt347.2 bt351.1 bt351.2.1 bt351.2.2 true) else (if bt341.1 = bt344.1 then (if bt341.2.1 = bt344.2.1 then (if (bt351.2.2 != bt354.2.2) = true then (laws_FnPairs.j0 k t334 t335 t336 t337 bt347.1 bt347.2 bt351.1 bt351.2.1 bt351.2.2 true) else (if (bt361.2 != bt365.2) = true then (laws_FnPairs.j0 k t334 t335 t336 t337 bt347.1 bt347.2 bt351.1 bt351.2.1 bt351.2.2 true) else (laws_FnPairs.j0 k t334 t335 t336 t337 bt347.1 bt347.2 bt351.1 bt351.2.1 bt351.2.2 ((strOfNums bt361.1).toList != (strOfNums bt365.1).toList)))) else (laws_FnPairs.j0 k t334 t335 t336 t337 bt347.1 bt347.2 bt351.1 bt351.2.1 bt351.2.2 true)) else (laws_FnPairs.j0 k t334 t335 t336 t337 bt347.1 bt347.2 bt351.1 bt351.2.1 bt351.2.2 true))) else (laws_FnPairs.j0 k t334 t335 t336 t337 bt347.1 bt347.2 bt351.1 bt351.2.1 bt351.2.2 true)))))))))))) = some r := H
    have A6 := Aside0.mk A60
    clear A60
    replace H := Option.bind_eq_some_iff.mp H
    obtain ⟨t340, A70, H⟩ := H
    replace H : ((impl_SignPair.f t340).bind fun bt341 => ((spec_SignPair.f t340).bind fun bt344 => ((spec_DrawEucSign.f k l0).bind fun bt347 => ((impl_EucSign.f k bt347.1 bt347.2).bind fun bt351 => ((spec_EucSign.f k bt347.1 bt347.2).bind fun bt354 => ((spec_DrawPutEuc.f k l0).bind fun bt357 => ((impl_PutEuc.f k bt357.1 bt357.2).bind fun bt361 => ((spec_PutEuc.f bt357.1 bt357.2).bind fun bt365 => (if (t337 != t339) = true then (laws_FnPairs.j0 k t334 t335 t336 t337 bt347.1 bt347.2 bt351.1 bt351.2.1 bt351.2.2 true) else (if t336 = t338 then (if (bt341.2.2 != bt344.2.2) = true then (laws_FnPairs.j0 k t334 t335 t336 t337 bt347.1 bt347.2 bt351.1 bt351.2.1 bt351.2.2 true) else (if bt341.1 = bt344.1 then (if bt341.2.1 = bt344.2.1 then (if (bt351.2.2 != bt354.2.2) = true then (laws_FnPairs.j0 k t334 t335 t336 t337 bt347.1 bt347.2 bt351.1 bt351.2.1 bt351.2.2 true) else (if (bt361.2 != bt365.2) = true then (laws_FnPairs.j0 k t334 t335 t336 t337 bt347.1 bt347.2 bt351.1 bt351.2.1 bt351.2.2 true) else (laws_FnPairs.j0 k t334 t335 t336 t337 bt347.1 bt347.2 bt351.1 bt351.2.1 bt351.2.2 ((strOfNums bt361.1).toList != (strOfNums bt365.1).toList)))) else (laws_FnPairs.j0 k t334 t335 t336 t337 bt347.1 bt347.2 bt351.1 bt351.2.1 bt351.2.2 true)) else (laws_FnPairs.j0 k t334 t335 t336 t337 bt347.1 bt347.2 bt351.1 bt351.2.1 bt351.2.2 true))) else (laws_FnPairs.j0 k t334 t335 t336 t337 bt347.1 bt347.2 bt351.1 bt351.2.1 bt351.2.2 true))))))))))) = some r := H
    have A7 := Aside0.mk A70
    clear A70
    replace H := Option.bind_eq_some_iff.mp H
    obtain ⟨⟨t341, t342, t343⟩, A80, H⟩ := H
    replace H : ((spec_SignPair.f t340).bind fun bt344 => ((spec_DrawEucSign.f k l0).bind fun bt347 => ((impl_EucSign.f k bt347.1 bt347.2).bind fun bt351 => ((spec_EucSign.f k bt347.1 bt347.2).bind fun bt354 => ((spec_DrawPutEuc.f k l0).bind fun bt357 => ((impl_PutEuc.f k bt357.1 bt357.2).bind fun bt361 => ((spec_PutEuc.f bt357.1 bt357.2).bind fun bt365 => (if (t337 != t339) = true then (laws_FnPairs.j0 k t334 t335 t336 t337 bt347.1 bt347.2 bt351.1 bt351.2.1 bt351.2.2 true) else (if t336 = t338 then (if (t343 != bt344.2.2) = true then (laws_FnPairs.j0 k t334 t335 t336 t337 bt347.1 bt347.2 bt351.1 bt351.2.1 bt351.2.2 true) else (if t341 = bt344.1 then (if t342 = bt344.2.1 then (if (bt351.2.2 != bt354.2.2) = true then (laws_FnPairs.j0 k t334 t335 t336 t337 bt347.1 bt347.2 bt351.1 bt351.2.1 bt351.2.2 true) else (if (bt361.2 != bt365.2) = true then (laws_FnPairs.j0 k t334 t335 t336 t337 bt347.1 bt347.2 bt351.1 bt351.2.1 bt351.2.2 true) else (laws_FnPairs.j0 k t334 t335 t336 t337 bt347.1 bt347.2 bt351.1 bt351.2.1 bt351.2.2 ((strOfNums bt361.1).toList != (strOfNums bt365.1).toList)))) else (laws_FnPairs.j0 k t334 t335 t336 t337 bt347.1 bt347.2 bt351.1 bt351.2.1 bt351.2.2 true)) else (laws_FnPairs.j0 k t334 t335 t336 t337 bt347.1 bt347.2 bt351.1 bt351.2.1 bt351.2.2 true))) else (laws_FnPairs.j0 k t334 t335 t336 t337 bt347.1 bt347.2 bt351.1 bt351.2.1 bt351.2.2 true)))))))))) = some r := H
    have A8 := Aside0.mk A80
    clear A80
    replace H := Option.bind_eq_some_iff.mp H
    obtain ⟨⟨t344, t345, t346⟩, A90, H⟩ := H
    replace H : ((spec_DrawEucSign.f k l0).bind fun bt347 => ((impl_EucSign.f k bt347.1 bt347.2).bind fun bt351 => ((spec_EucSign.f k bt347.1 bt347.2).bind fun bt354 => ((spec_DrawPutEuc.f k l0).bind fun bt357 => ((impl_PutEuc.f k bt357.1 bt357.2).bind fun bt361 => ((spec_PutEuc.f bt357.1 bt357.2).bind fun bt365 => (if (t337 != t339) = true then (laws_FnPairs.j0 k t334 t335 t336 t337 bt347.1 bt347.2 bt351.1 bt351.2.1 bt351.2.2 true) else (if t336 = t338 then (if (t343 != t346) = true then (laws_FnPairs.j0 k t334 t335 t336 t337 bt347.1 bt347.2 bt351.1 bt351.2.1 bt351.2.2 true) else (if t341 = t344 then (if t342 = t345 then (if (bt351.2.2 != bt354.2.2) = true then (laws_FnPairs.j0 k t334 t335 t336 t337 bt347.1 bt347.2 bt351.1 bt351.2.1 bt351.2.2 true) else (if (bt361.2 != bt365.2) = true then (laws_FnPairs.j0 k t334 t335 t336 t337 bt347.1 bt347.2 bt351.1 bt351.2.1 bt351.2.2 true) else (laws_FnPairs.j0 k t334 t335 t336 t337 bt347.1 bt347.2 bt351.1 bt351.2.1 bt351.2.2 ((strOfNums bt361.1).toList != (strOfNums bt365.1).toList)))) else (laws_FnPairs.j0 k t334 t335 t336 t337 bt347.1 bt347.2 bt351.1 bt351.2.1 bt351.2.2 true)) else (laws_FnPairs.j0 k t334 t335 t336 t337 bt347.1 bt347.2 bt351.1 bt351.2.1 bt351.2.2 true))) else (laws_FnPairs.j0 k t334 t335 t336 t337 bt347.1 bt347.2 bt351.1 bt351.2.1 bt351.2.2 true))))))))) = some r := H
    have A9 := Aside0.mk A90
    clear A90
    replace H := Option.bind_eq_some_iff.mp H
    obtain ⟨⟨t347, t348⟩, A100, H⟩ := H
    replace H : ((impl_EucSign.f k t347 t348).bind fun bt351 => ((spec_EucSign.f k t347 t348).bind fun bt354 => ((spec_DrawPutEuc.f k l0).bind fun bt357 => ((impl_PutEuc.f k bt357.1 bt357.2).bind fun bt361 => ((spec_PutEuc.f bt357.1 bt357.2).bind fun bt365 => (if (t337 != t339) = true then (laws_FnPairs.j0 k t334 t335 t336 t337 t347 t348 bt351.1 bt351.2.1 bt351.2.2 true) else (if t336 = t338 then (if (t343 != t346) = true then (laws_FnPairs.j0 k t334 t335 t336 t337 t347 t348 bt351.1 bt351.2.1 bt351.2.2 true) else (if t341 = t344 then (if t342 = t345 then (if (bt351.2.2 != bt354.2.2) = true then (laws_FnPairs.j0 k t334 t335 t336 t337 t347 t348 bt351.1 bt351.2.1 bt351.2.2 true) else (if (bt361.2 != bt365.2) = true then (laws_FnPairs.j0 k t334 t335 t336 t337 t347 t348 bt351.1 bt351.2.1 bt351.2.2 true) else (laws_FnPairs.j0 k t334 t335 t336 t337 t347 t348 bt351.1 bt351.2.1 bt351.2.2 ((strOfNums bt361.1).toList != (strOfNums bt365.1).toList)))) else (laws_FnPairs.j0 k t334 t335 t336 t337 t347 t348 bt351.1 bt351.2.1 bt351.2.2 true)) else (laws_FnPairs.j0 k t334 t335 t336 t337 t347 t348 bt351.1 bt351.2.1 bt351.2.2 true))) else (laws_FnPairs.j0 k t334 t335 t336 t337 t347 t348 bt351.1 bt351.2.1 bt351.2.2 true)))))))) = some r := H
    have A10 := Aside0.mk A100
    clear A100
    replace H := Option.bind_eq_some_iff.mp H
    obtain ⟨⟨t351, t352, t353⟩, A110, H⟩ := H
    replace H : ((spec_EucSign.f k t347 t348).bind fun bt354 => ((spec_DrawPutEuc.f k l0).bind fun bt357 => ((impl_PutEuc.f k bt357.1 bt357.2).bind fun bt361 => ((spec_PutEuc.f bt357.1 bt357.2).bind fun bt365 => (if (t337 != t339) = true then (laws_FnPairs.j0 k t334 t335 t336 t337 t347 t348 t351 t352 t353 true) else (if t336 = t338 then (if (t343 != t346) = true then (laws_FnPairs.j0 k t334 t335 t336 t337 t347 t348 t351 t352 t353 true) else (if t341 = t344 then (if t342 = t345 then (if (t353 != bt354.2.2) = true then (laws_FnPairs.j0 k t334 t335 t336 t337 t347 t348 t351 t352 t353 true) else (if (bt361.2 != bt365.2) = true then (laws_FnPairs.j0 k t334 t335 t336 t337 t347 t348 t351 t352 t353 true) else (laws_FnPairs.j0 k t334 t335 t336 t337 t347 t348 t351 t352 t353 ((strOfNums bt361.1).toList != (strOfNums bt365.1).toList)))) else (laws_FnPairs.j0 k t334 t335 t336 t337 t347 t348 t351 t352 t353 true)) else (laws_FnPairs.j0 k t334 t335 t336 t337 t347 t348 t351 t352 t353 true))) else (laws_FnPairs.j0 k t334 t335 t336 t337 t347 t348 t351 t352 t353 true))))))) = some r := H
    have A11 := Aside0.mk A110
    clear A110
    replace H := Option.bind_eq_some_iff.mp H
    obtain ⟨⟨t354, t355, t356⟩, A120, H⟩ := H
    replace H : ((spec_DrawPutEuc.f k l0).bind fun bt357 => ((impl_PutEuc.f k bt357.1 bt357.2).bind fun bt361 => ((spec_PutEuc.f bt357.1 bt357.2).bind fun bt365 => (if (t337 != t339) = true then (laws_FnPairs.j0 k t334 t335 t336 t337 t347 t348 t351 t352 t353 true) else (if t336 = t338 then (if (t343 != t346) = true then (laws_FnPairs.j0 k t334 t335 t336 t337 t347 t348 t351 t352 t353 true) else (if t341 = t344 then (if t342 = t345 then (if (t353 != t356) = true then (laws_FnPairs.j0 k t334 t335 t336 t337 t347 t348 t351 t352 t353 true) else (if (bt361.2 != bt365.2) = true then (laws_FnPairs.j0 k t334 t335 t336 t337 t347 t348 t351 t352 t353 true) else (laws_FnPairs.j0 k t334 t335 t336 t337 t347 t348 t351 t352 t353 ((strOfNums bt361.1).toList != (strOfNums bt365.1).toList)))) else (laws_FnPairs.j0 k t334 t335 t336 t337 t347 t348 t351 t352 t353 true)) else (laws_FnPairs.j0 k t334 t335 t336 t337 t347 t348 t351 t352 t353 true))) else (laws_FnPairs.j0 k t334 t335 t336 t337 t347 t348 t351 t352 t353 true)))))) = some r := H
    have A12 := Aside0.mk A120
    clear A120
    replace H := Option.bind_eq_some_iff.mp H
    obtain ⟨⟨t357, t358⟩, A130, H⟩ := H
    replace H : ((impl_PutEuc.f k t357 t358).bind fun bt361 => ((spec_PutEuc.f t357 t358).bind fun bt365 => (if (t337 != t339) = true then (laws_FnPairs.j0 k t334 t335 t336 t337 t347 t348 t351 t352 t353 true) else (if t336 = t338 then (if (t343 != t346) = true then (laws_FnPairs.j0 k t334 t335 t336 t337 t347 t348 t351 t352 t353 true) else (if t341 = t344 then (if t342 = t345 then (if (t353 != t356) = true then (laws_FnPairs.j0 k t334 t335 t336 t337 t347 t348 t351 t352 t353 true) else (if (bt361.2 != bt365.2) = true then (laws_FnPairs.j0 k t334 t335 t336 t337 t347 t348 t351 t352 t353 true) else (laws_FnPairs.j0 k t334 t335 t336 t337 t347 t348 t351 t352 t353 ((strOfNums bt361.1).toList != (strOfNums bt365.1).toList)))) else (laws_FnPairs.j0 k t334 t335 t336 t337 t347 t348 t351 t352 t353 true)) else (laws_FnPairs.j0 k t334 t335 t336 t337 t347 t348 t351 t352 t353 true))) else (laws_FnPairs.j0 k t334 t335 t336 t337 t347 t348 t351 t352 t353 true))))) = some r := H
    have A13 := Aside0.mk A130
    clear A130
    replace H := Option.bind_eq_some_iff.mp H
    obtain ⟨⟨t361, t364⟩, A140, H⟩ := H
    replace H : ((spec_PutEuc.f t357 t358).bind fun bt365 => (if (t337 != t339) = true then (laws_FnPairs.j0 k t334 t335 t336 t337 t347 t348 t351 t352 t353 true) else (if t336 = t338 then (if (t343 != t346) = true then (laws_FnPairs.j0 k t334 t335 t336 t337 t347 t348 t351 t352 t353 true) else (if t341 = t344 then (if t342 = t345 then (if (t353 != t356) = true then (laws_FnPairs.j0 k t334 t335 t336 t337 t347 t348 t351 t352 t353 true) else (if (t364 != bt365.2) = true then (laws_FnPairs.j0 k t334 t335 t336 t337 t347 t348 t351 t352 t353 true) else (laws_FnPairs.j0 k t334 t335 t336 t337 t347 t348 t351 t352 t353 ((strOfNums t361).toList != (strOfNums bt365.1).toList)))) else (laws_FnPairs.j0 k t334 t335 t336 t337 t347 t348 t351 t352 t353 true)) else (laws_FnPairs.j0 k t334 t335 t336 t337 t347 t348 t351 t352 t353 true))) else (laws_FnPairs.j0 k t334 t335 t336 t337 t347 t348 t351 t352 t353 true)))) = some r := H
    have A14 := Aside0.mk A140
    clear A140
    replace H := Option.bind_eq_some_iff.mp H
    obtain ⟨⟨t365, t366⟩, A150, H⟩ := H
    replace H : (if (t337 != t339) = true then (laws_FnPairs.j0 k t334 t335 t336 t337 t347 t348 t351 t352 t353 true) else (if t336 = t338 then (if (t343 != t346) = true then (laws_FnPairs.j0 k t334 t335 t336 t337 t347 t348 t351 t352 t353 true) else (if t341 = t344 then (if t342 = t345 then (if (t353 != t356) = true then (laws_FnPairs.j0 k t334 t335 t336 t337 t347 t348 t351 t352 t353 true) else (if (t364 != t366) = true then (laws_FnPairs.j0 k t334 t335 t336 t337 t347 t348 t351 t352 t353 true) else (laws_FnPairs.j0 k t334 t335 t336 t337 t347 t348 t351 t352 t353 ((strOfNums t361).toList != (strOfNums t365).toList)))) else (laws_FnPairs.j0 k t334 t335 t336 t337 t347 t348 t351 t352 t353 true)) else (laws_FnPairs.j0 k t334 t335 t336 t337 t347 t348 t351 t352 t353 true))) else (laws_FnPairs.j0 k t334 t335 t336 t337 t347 t348 t351 t352 t353 true))) = some r := H
    have A15 := Aside0.mk A150
    clear A150
    have HC16 := Aside0.mk H
    clear H
    go_enter Try.func6, Try.ntmps6
    go_upto_region 15 with (first | ((with_reducible refine gate_callee (f := 8) rfl ?_); refine goesL_ (some 36) rfl rfl Try.func8 (by kernel_rfl) rfl #[.slice A0 l0.length c0] rfl (by (try simp only [List.map_toArray, List.map_cons, List.map_nil]); first | done | rfl | (simp only [List.length_drop, List.length_take]; rfl)) ?_; (with_reducible refine (laws_big.calls _ _ l0 false _ ?side1 ?side2 A2.out).mono ?_); (case side1 => repeat (first | exact HR0.out | (with_reducible refine Kd.C_alloc ?_ _) | (with_reducible refine Kd.C_drewN ?_ _) | (with_reducible refine Kd.C_drew ?_))); (case side2 => exact HC0.out); rintro e w' ⟨rfl, ⟨nd, rfl⟩⟩; refine ⟨_, rfl, ?_⟩) | ((with_reducible refine gate_callee (f := 19) rfl ?_); refine goesL_ (some 39) rfl rfl Try.func19 (by kernel_rfl) rfl #[.slice A0 l0.length c0] rfl (by (try simp only [List.map_toArray, List.map_cons, List.map_nil]); first | done | rfl | (simp only [List.length_drop, List.length_take]; rfl)) ?_; (with_reducible refine (spec_DrawPairSign.calls k _ _ l0 t334 t335 _ ?side1 ?side2 A4.out).mono ?_); (case side1 => repeat (first | exact HR0.out | (with_reducible refine Kd.C_alloc ?_ _) | (with_reducible refine Kd.C_drewN ?_ _) | (with_reducible refine Kd.C_drew ?_))); (case side2 => exact HC0.out); rintro e w17 ⟨rfl, hb⟩; refine ⟨_, rfl, ?_⟩; have n0_ := Aside0.mk (below_step (by repeat (first | (with_reducible first | exact HB.out | apply below_alloc | apply pw_below_drewN | apply below_drew1) | exact HB.out)) hb); clear HB; have HB := n0_; clear n0_; (try clear hb); (try clear hb2); (try clear hk); (try clear hi)) | ((with_reducible refine gate_callee (f := 20) rfl ?_); refine goesL_ (some 45) rfl rfl Try.func20 (by kernel_rfl) rfl #[.int .i64 t334, .int .i64 t335] rfl (by (try simp only [List.map_toArray, List.map_cons, List.map_nil]); first | done | rfl | (simp only [List.length_drop, List.length_take]; rfl)) ?_; (with_reducible refine (impl_PairSign.calls k t334 t335 t336 t337 _ A5.out).mono ?_); rintro e w' ⟨rfl, ⟨nd, rfl⟩⟩; refine ⟨_, rfl, ?_⟩) | ((with_reducible refine gate_callee (f := 21) rfl ?_); refine goesL_ (some 51) rfl rfl Try.func21 (by kernel_rfl) rfl #[.int .i64 t334, .int .i64 t335] rfl (by (try simp only [List.map_toArray, List.map_cons, List.map_nil]); first | done | rfl | (simp only [List.length_drop, List.length_take]; rfl)) ?_; (with_reducible refine (spec_PairSign.calls k t334 t335 t338 t339 _ A6.out).mono ?_); rintro e w' ⟨rfl, ⟨nd, rfl⟩⟩; refine ⟨_, rfl, ?_⟩) | ((with_reducible refine gate_callee (f := 22) rfl ?_); refine goesL_ (some 55) rfl rfl Try.func22 (by kernel_rfl) rfl #[.slice A0 l0.length c0] rfl (by (try simp only [List.map_toArray, List.map_cons, List.map_nil]); first | done | rfl | (simp only [List.length_drop, List.length_take]; rfl)) ?_; (with_reducible refine (spec_DrawSignPair.calls k _ _ l0 t340 _ ?side1 ?side2 A7.out).mono ?_); (case side1 => repeat (first | exact (Kd.C_below HR0.out (by repeat (first | (with_reducible first | exact HB.out | apply below_alloc | apply pw_below_drewN | apply below_drew1) | exact HB.out))) | (with_reducible refine Kd.C_alloc ?_ _) | (with_reducible refine Kd.C_drewN ?_ _) | (with_reducible refine Kd.C_drew ?_))); (case side2 => exact HC0.out); rintro e w18 ⟨rfl, hb⟩; refine ⟨_, rfl, ?_⟩; have n0_ := Aside0.mk (below_step (by repeat (first | (with_reducible first | exact HB.out | apply below_alloc | apply pw_below_drewN | apply below_drew1) | exact HB.out)) hb); clear HB; have HB := n0_; clear n0_; (try clear hb); (try clear hb2); (try clear hk); (try clear hi)) | ((with_reducible refine gate_callee (f := 23) rfl ?_); refine goesL_ (some 58) rfl rfl Try.func23 (by kernel_rfl) rfl #[.int .i64 t340] rfl (by (try simp only [List.map_toArray, List.map_cons, List.map_nil]); first | done | rfl | (simp only [List.length_drop, List.length_take]; rfl)) ?_; (with_reducible refine (impl_SignPair.calls t340 t341 t342 t343 _ A8.out).mono ?_); rintro e w' ⟨rfl, ⟨nd, rfl⟩⟩; refine ⟨_, rfl, ?_⟩) | ((with_reducible refine gate_callee (f := 24) rfl ?_); refine goesL_ (some 64) rfl rfl Try.func24 (by kernel_rfl) rfl #[.int .i64 t340] rfl (by (try simp only [List.map_toArray, List.map_cons, List.map_nil]); first | done | rfl | (simp only [List.length_drop, List.length_take]; rfl)) ?_; (with_reducible refine (spec_SignPair.calls t340 t344 t345 t346 _ A9.out).mono ?_); rintro e w' ⟨rfl, ⟨nd, rfl⟩⟩; refine ⟨_, rfl, ?_⟩) | ((with_reducible refine gate_callee (f := 25) rfl ?_); refine goesL_ (some 70) rfl rfl Try.func25 (by kernel_rfl) rfl #[.slice A0 l0.length c0] rfl (by (try simp only [List.map_toArray, List.map_cons, List.map_nil]); first | done | rfl | (simp only [List.length_drop, List.length_take]; rfl)) ?_; (with_reducible refine (spec_DrawEucSign.calls k _ _ l0 t347 t348 _ ?side1 ?side2 A10.out).mono ?_); (case side1 => repeat (first | exact (Kd.C_below HR0.out (by repeat (first | (with_reducible first | exact HB.out | apply below_alloc | apply pw_below_drewN | apply below_drew1) | exact HB.out))) | (with_reducible refine Kd.C_alloc ?_ _) | (with_reducible refine Kd.C_drewN ?_ _) | (with_reducible refine Kd.C_drew ?_))); (case side2 => exact HC0.out); rintro e w19 ⟨v349, rfl, ho0, hb⟩; refine ⟨_, rfl, ?_⟩; have n0_ := Aside0.mk (Kd.R_lower ho0 (below_size (by repeat (first | (with_reducible first | exact HB.out | apply below_alloc | apply pw_below_drewN | apply below_drew1) | exact HB.out)))); have n1_ := Aside0.mk (below_step (by repeat (first | (with_reducible first | exact HB.out | apply below_alloc | apply pw_below_drewN | apply below_drew1) | exact HB.out)) hb); clear HB; have HO350 := n0_; have HB := n1_; clear n0_ n1_; (try clear hb); (try clear hb2); (try clear hk); (try clear hi); (try clear ho0); obtain ⟨Ao20, co20, eo20⟩ := Kd.R_slice HO350.out; subst eo20) | ((with_reducible refine gate_callee (f := 26) rfl ?_); refine goesL_ (some 76) rfl rfl Try.func26 (by kernel_rfl) rfl #[.slice Ao20 t347.length co20, .int .i64 t348] rfl (by (try simp only [List.map_toArray, List.map_cons, List.map_nil]); first | done | rfl | (simp only [List.length_drop, List.length_take]; rfl)) ?_; (with_reducible refine (impl_EucSign.calls k _ _ t347 t348 t351 t352 t353 _ ?side1 ?side2 A11.out).mono ?_); (case side1 => repeat (first | exact (Kd.R_reads' HO350.out).2.2 | (with_reducible refine Kd.C_alloc ?_ _) | (with_reducible refine Kd.C_drewN ?_ _) | (with_reducible refine Kd.C_drew ?_))); (case side2 => exact (Kd.R_reads' HO350.out).2.1); rintro e w' ⟨rfl, ⟨nd, rfl⟩⟩; refine ⟨_, rfl, ?_⟩) | ((with_reducible refine gate_callee (f := 27) rfl ?_); refine goesL_ (some 83) rfl rfl Try.func27 (by kernel_rfl) rfl #[.slice Ao20 t347.length co20, .int .i64 t348] rfl (by (try simp only [List.map_toArray, List.map_cons, List.map_nil]); first | done | rfl | (simp only [List.length_drop, List.length_take]; rfl)) ?_; (with_reducible refine (spec_EucSign.calls k _ _ t347 t348 t354 t355 t356 _ ?side1 ?side2 A12.out).mono ?_); (case side1 => repeat (first | exact (Kd.R_reads' HO350.out).2.2 | (with_reducible refine Kd.C_alloc ?_ _) | (with_reducible refine Kd.C_drewN ?_ _) | (with_reducible refine Kd.C_drew ?_))); (case side2 => exact (Kd.R_reads' HO350.out).2.1); rintro e w' ⟨rfl, ⟨nd, rfl⟩⟩; refine ⟨_, rfl, ?_⟩) | ((with_reducible refine gate_callee (f := 28) rfl ?_); refine goesL_ (some 89) rfl rfl Try.func28 (by kernel_rfl) rfl #[.slice A0 l0.length c0] rfl (by (try simp only [List.map_toArray, List.map_cons, List.map_nil]); first | done | rfl | (simp only [List.length_drop, List.length_take]; rfl)) ?_; (with_reducible refine (spec_DrawPutEuc.calls k _ _ l0 t357 t358 _ ?side1 ?side2 A13.out).mono ?_); (case side1 => repeat (first | exact (Kd.C_below HR0.out (by repeat (first | (with_reducible first | exact HB.out | apply below_alloc | apply pw_below_drewN | apply below_drew1) | exact HB.out))) | (with_reducible refine Kd.C_alloc ?_ _) | (with_reducible refine Kd.C_drewN ?_ _) | (with_reducible refine Kd.C_drew ?_))); (case side2 => exact HC0.out); rintro e w21 ⟨v359, rfl, ho0, hb⟩; refine ⟨_, rfl, ?_⟩; have n0_ := Aside0.mk (Kd.R_elder' (by (with_reducible repeat (first | apply Kd.R_alloc | apply Kd.R_drewN | apply Kd.R_drew)); exact HO350.out) (Kd.R_base ho0) hb); have n1_ := Aside0.mk (Kd.R_lower (Kd.R_new' ho0 (Kd.R_lt (by (with_reducible repeat (first | apply Kd.R_alloc | apply Kd.R_drewN | apply Kd.R_drew)); exact HO350.out))) (below_size (by repeat (first | (with_reducible first | exact HB.out | apply below_alloc | apply pw_below_drewN | apply below_drew1) | exact HB.out)))); have n2_ := Aside0.mk (below_step (by repeat (first | (with_reducible first | exact HB.out | apply below_alloc | apply pw_below_drewN | apply below_drew1) | exact HB.out)) hb); clear HO350; clear HB; have HO350 := n0_; have HO360 := n1_; have HB := n2_; clear n0_ n1_ n2_; (try clear hb); (try clear hb2); (try clear hk); (try clear hi); (try clear ho0); obtain ⟨Ao22, co22, eo22⟩ := Kd.R_slice HO360.out; subst eo22) | ((with_reducible refine gate_callee (f := 29) rfl ?_); refine goesL_ (some 95) rfl rfl Try.func29 (by kernel_rfl) rfl #[.slice Ao22 t357.length co22, .int .i64 t358] rfl (by (try simp only [List.map_toArray, List.map_cons, List.map_nil]); first | done | rfl | (simp only [List.length_drop, List.length_take]; rfl)) ?_; (with_reducible refine (impl_PutEuc.calls k (fun k_ => some k_ = (.slice Ao22 t357.length co22 : Value).ownBlock) _ _ t357 t358 t361 t364 _ ?side1 A14.out).mono ?_); (case side1 => exact Kd.R_V (Kd.R_tight rfl (HO360.out))); rintro e w23 ⟨v362, rfl, ho0, hb⟩; refine ⟨_, rfl, ?_⟩; have n0_ := Aside0.mk (Kd.R_elder' (by (with_reducible repeat (first | apply Kd.R_alloc | apply Kd.R_drewN | apply Kd.R_drew)); exact HO350.out) (Kd.R_base ho0) hb); have n1_ := Aside0.mk (Kd.R_elder' (by (with_reducible repeat (first | apply Kd.R_alloc | apply Kd.R_drewN | apply Kd.R_drew)); exact HO360.out) (Kd.R_base ho0) hb); have n2_ := Aside0.mk (Kd.R_lower (Kd.R_new' (Kd.R_new' (Kd.R_mono (ok' := fun k_ => True) ho0 (fun _ hk_ => trivial)) (Kd.R_lt (by (with_reducible repeat (first | apply Kd.R_alloc | apply Kd.R_drewN | apply Kd.R_drew)); exact HO350.out))) (Kd.R_lt (by (with_reducible repeat (first | apply Kd.R_alloc | apply Kd.R_drewN | apply Kd.R_drew)); exact HO360.out))) (below_size (by repeat (first | (with_reducible first | exact HB.out | apply below_alloc | apply pw_below_drewN | apply below_drew1) | exact HB.out)))); have n3_ := Aside0.mk (below_step (by repeat (first | (with_reducible first | exact HB.out | apply below_alloc | apply pw_below_drewN | apply below_drew1) | exact HB.out)) hb); clear HO350; clear HO360; clear HB; have HO350 := n0_; have HO360 := n1_; have HO363 := n2_; have HB := n3_; clear n0_ n1_ n2_ n3_; (try clear hb); (try clear hb2); (try clear hk); (try clear hi); (try clear ho0)) | ((with_reducible refine gate_callee (f := 30) rfl ?_); refine goesL_ (some 101) rfl rfl Try.func30 (by kernel_rfl) rfl #[.slice Ao22 t357.length co22, .int .i64 t358] rfl (by (try simp only [List.map_toArray, List.map_cons, List.map_nil]); first | done | rfl | (simp only [List.length_drop, List.length_take]; rfl)) ?_; (with_reducible refine (spec_PutEuc.calls _ _ t357 t358 t365 t366 _ ?side1 ?side2 A15.out).mono ?_); (case side1 => repeat (first | exact (Kd.R_reads' HO360.out).2.2 | (with_reducible refine Kd.C_alloc ?_ _) | (with_reducible refine Kd.C_drewN ?_ _) | (with_reducible refine Kd.C_drew ?_))); (case side2 => exact (Kd.R_reads' HO360.out).2.1); rintro e w24 ⟨v367, rfl, ho0, hb⟩; refine ⟨_, rfl, ?_⟩; have n0_ := Aside0.mk (Kd.R_elder' (by (with_reducible repeat (first | apply Kd.R_alloc | apply Kd.R_drewN | apply Kd.R_drew)); exact HO350.out) (Kd.R_base ho0) hb); have n1_ := Aside0.mk (Kd.R_elder' (by (with_reducible repeat (first | apply Kd.R_alloc | apply Kd.R_drewN | apply Kd.R_drew)); exact HO360.out) (Kd.R_base ho0) hb); have n2_ := Aside0.mk (Kd.R_elder' (by (with_reducible repeat (first | apply Kd.R_alloc | apply Kd.R_drewN | apply Kd.R_drew)); exact HO363.out) (Kd.R_base ho0) hb); have n3_ := Aside0.mk (Kd.R_lower (Kd.R_new' (Kd.R_new' (Kd.R_new' ho0 (Kd.R_lt (by (with_reducible repeat (first | apply Kd.R_alloc | apply Kd.R_drewN | apply Kd.R_drew)); exact HO350.out))) (Kd.R_lt (by (with_reducible repeat (first | apply Kd.R_alloc | apply Kd.R_drewN | apply Kd.R_drew)); exact HO360.out))) (Kd.R_lt (by (with_reducible repeat (first | apply Kd.R_alloc | apply Kd.R_drewN | apply Kd.R_drew)); exact HO363.out))) (below_size (by repeat (first | (with_reducible first | exact HB.out | apply below_alloc | apply pw_below_drewN | apply below_drew1) | exact HB.out)))); have n4_ := Aside0.mk (below_step (by repeat (first | (with_reducible first | exact HB.out | apply below_alloc | apply pw_below_drewN | apply below_drew1) | exact HB.out)) hb); clear HO350; clear HO360; clear HO363; clear HB; have HO350 := n0_; have HO360 := n1_; have HO363 := n2_; have HO368 := n3_; have HB := n4_; clear n0_ n1_ n2_ n3_ n4_; (try clear hb); (try clear hb2); (try clear hk); (try clear hi); (try clear ho0)))
    (try simp only [Act.put, List.setIfInBounds_toArray, List.set_cons_zero, List.set_cons_succ])
    go_cut [143] (fun v143 wc => ∃ (kq : Nat) (x143_15 : Bool), v143 = .bool x143_15 ∧ Aside0 (laws_FnPairs.j0 kq t334 t335 t336 t337 t347 t348 t351 t352 t353 x143_15 = some r) ∧ Aside0 (kq ≤ k) ∧ Aside0 (Kd.R (Kd.int .u8) 5 wc w.heap.size (fun _ => True) (.slice Ao20 t347.length co20) t347) ∧ Aside0 (Below w.heap.size w wc))
    case first =>
      have H := HC16.out
      clear HC16
      by_cases c25 : (t337 != t339) = true
      · rw [if_pos c25] at H
        have c25b0 : (t337 != t339) = true := c25
        (try (have c25b1 : decide (t337 = t339) = false := by simpa using c25))
        (try (have c25b2 : (t337 == t339) = false := by simpa using c25))
        (try (have c25b3 : ¬ (t337 = t339) := by simpa using c25))
        clear c25
        (first | rw [c25b0] | (simp only [i64_w, i32_w]; rw [c25b0]) | skip)
        have H' := Aside0.mk H
        clear H
        go_wp2
        go_meet
        case rel => exact ⟨_, (true), (by first | rfl | (simp; done) | (simp [*]; done)), H', ⟨by first | omega | exact Nat.le_refl _⟩, ⟨by (with_reducible repeat (first | apply Kd.R_alloc | apply Kd.R_drewN | apply Kd.R_drew)); exact Kd.R_mono HO350.out (fun _ hk => trivial)⟩, ⟨by repeat (first | (with_reducible first | exact HB.out | apply below_alloc | apply pw_below_drewN | apply below_drew1) | exact HB.out)⟩⟩
      · rw [if_neg c25] at H
        have c25b0 : (t337 != t339) = false := by simpa using c25
        (try (have c25b1 : decide (t337 = t339) = true := by simpa using c25))
        (try (have c25b2 : (t337 == t339) = true := by simpa using c25))
        clear c25
        (first | rw [c25b0] | (simp only [i64_w, i32_w]; rw [c25b0]) | skip)
        by_cases c26 : t336 = t338
        · rw [if_pos c26] at H
          have c26b0 : (t336 == t338) = true := beq_iff_eq.mpr c26
          have c26b1 : (t336 != t338) = false := bne_eq_false_iff_eq.mpr c26
          clear c26
          by_cases c27 : (t343 != t346) = true
          · rw [if_pos c27] at H
            have c27b0 : (t343 != t346) = true := c27
            (try (have c27b1 : decide (t343 = t346) = false := by simpa using c27))
            (try (have c27b2 : (t343 == t346) = false := by simpa using c27))
            (try (have c27b3 : ¬ (t343 = t346) := by simpa using c27))
            clear c27
            have H' := Aside0.mk H
            clear H
            go_wp2
            go_meet
            case rel => exact ⟨_, (true), (by first | rfl | (simp; done) | (simp [*]; done)), H', ⟨by first | omega | exact Nat.le_refl _⟩, ⟨by (with_reducible repeat (first | apply Kd.R_alloc | apply Kd.R_drewN | apply Kd.R_drew)); exact Kd.R_mono HO350.out (fun _ hk => trivial)⟩, ⟨by repeat (first | (with_reducible first | exact HB.out | apply below_alloc | apply pw_below_drewN | apply below_drew1) | exact HB.out)⟩⟩
          · rw [if_neg c27] at H
            have c27b0 : (t343 != t346) = false := by simpa using c27
            (try (have c27b1 : decide (t343 = t346) = true := by simpa using c27))
            (try (have c27b2 : (t343 == t346) = true := by simpa using c27))
            clear c27
            by_cases c28 : t341 = t344
            · rw [if_pos c28] at H
              have c28b0 : (t341 == t344) = true := beq_iff_eq.mpr c28
              have c28b1 : (t341 != t344) = false := bne_eq_false_iff_eq.mpr c28
              clear c28
              by_cases c29 : t342 = t345
              · rw [if_pos c29] at H
                have c29b0 : (t342 == t345) = true := beq_iff_eq.mpr c29
                have c29b1 : (t342 != t345) = false := bne_eq_false_iff_eq.mpr c29
                clear c29
                by_cases c30 : (t353 != t356) = true
                · rw [if_pos c30] at H
                  have c30b0 : (t353 != t356) = true := c30
                  (try (have c30b1 : decide (t353 = t356) = false := by simpa using c30))
                  (try (have c30b2 : (t353 == t356) = false := by simpa using c30))
                  (try (have c30b3 : ¬ (t353 = t356) := by simpa using c30))
                  clear c30
                  have H' := Aside0.mk H
                  clear H
                  go_wp2
                  go_meet
                  case rel => exact ⟨_, (true), (by first | rfl | (simp; done) | (simp [*]; done)), H', ⟨by first | omega | exact Nat.le_refl _⟩, ⟨by (with_reducible repeat (first | apply Kd.R_alloc | apply Kd.R_drewN | apply Kd.R_drew)); exact Kd.R_mono HO350.out (fun _ hk => trivial)⟩, ⟨by repeat (first | (with_reducible first | exact HB.out | apply below_alloc | apply pw_below_drewN | apply below_drew1) | exact HB.out)⟩⟩
                · rw [if_neg c30] at H
                  have c30b0 : (t353 != t356) = false := by simpa using c30
                  (try (have c30b1 : decide (t353 = t356) = true := by simpa using c30))
                  (try (have c30b2 : (t353 == t356) = true := by simpa using c30))
                  clear c30
                  by_cases c31 : (t364 != t366) = true
                  · rw [if_pos c31] at H
                    have c31b0 : (t364 != t366) = true := c31
                    (try (have c31b1 : decide (t364 = t366) = false := by simpa using c31))
                    (try (have c31b2 : (t364 == t366) = false := by simpa using c31))
                    (try (have c31b3 : ¬ (t364 = t366) := by simpa using c31))
                    clear c31
                    have H' := Aside0.mk H
                    clear H
                    go_wp2
                    go_meet
                    case rel => exact ⟨_, (true), (by first | rfl | (simp; done) | (simp [*]; done)), H', ⟨by first | omega | exact Nat.le_refl _⟩, ⟨by (with_reducible repeat (first | apply Kd.R_alloc | apply Kd.R_drewN | apply Kd.R_drew)); exact Kd.R_mono HO350.out (fun _ hk => trivial)⟩, ⟨by repeat (first | (with_reducible first | exact HB.out | apply below_alloc | apply pw_below_drewN | apply below_drew1) | exact HB.out)⟩⟩
                  · rw [if_neg c31] at H
                    have c31b0 : (t364 != t366) = false := by simpa using c31
                    (try (have c31b1 : decide (t364 = t366) = true := by simpa using c31))
                    (try (have c31b2 : (t364 == t366) = true := by simpa using c31))
                    clear c31
                    have H' := Aside0.mk H
                    clear H
                    have hcv32 := own_string (P := Try.prog) Try.underlying22 Try.underlying5 Try.underlying9 (Kd.own_of_R HO363.out)
                    try have hcn32 := fun n_ : Nat => own_string (P := Try.prog) Try.underlying22 Try.underlying5 Try.underlying9 (Kd.own_of_R (Kd.R_drewN HO363.out n_))
                    have hcv33 := own_string (P := Try.prog) Try.underlying22 Try.underlying5 Try.underlying9 (Kd.own_of_R HO368.out)
                    try have hcn33 := fun n_ : Nat => own_string (P := Try.prog) Try.underlying22 Try.underlying5 Try.underlying9 (Kd.own_of_R (Kd.R_drewN HO368.out n_))
                    go_wp2
                    go_meet
                    case rel => exact ⟨_, (((strOfNums t361).toList != (strOfNums t365).toList)), (by first | rfl | (simp; done) | (simp [*]; done)), H', ⟨by first | omega | exact Nat.le_refl _⟩, ⟨by (with_reducible repeat (first | apply Kd.R_alloc | apply Kd.R_drewN | apply Kd.R_drew)); exact Kd.R_mono HO350.out (fun _ hk => trivial)⟩, ⟨by repeat (first | (with_reducible first | exact HB.out | apply below_alloc | apply pw_below_drewN | apply below_drew1) | exact HB.out)⟩⟩
              · rw [if_neg c29] at H
                have c29b0 : (t342 == t345) = false := beq_eq_false_iff_ne.mpr c29
                have c29b1 : (t342 != t345) = true := bne_iff_ne.mpr c29
                have H' := Aside0.mk H
                clear H
                go_wp2
                go_meet
                case rel => exact ⟨_, (true), (by first | rfl | (simp; done) | (simp [*]; done)), H', ⟨by first | omega | exact Nat.le_refl _⟩, ⟨by (with_reducible repeat (first | apply Kd.R_alloc | apply Kd.R_drewN | apply Kd.R_drew)); exact Kd.R_mono HO350.out (fun _ hk => trivial)⟩, ⟨by repeat (first | (with_reducible first | exact HB.out | apply below_alloc | apply pw_below_drewN | apply below_drew1) | exact HB.out)⟩⟩
            · rw [if_neg c28] at H
              have c28b0 : (t341 == t344) = false := beq_eq_false_iff_ne.mpr c28
              have c28b1 : (t341 != t344) = true := bne_iff_ne.mpr c28
              have H' := Aside0.mk H
              clear H
              go_wp2
              go_meet
              case rel => exact ⟨_, (true), (by first | rfl | (simp; done) | (simp [*]; done)), H', ⟨by first | omega | exact Nat.le_refl _⟩, ⟨by (with_reducible repeat (first | apply Kd.R_alloc | apply Kd.R_drewN | apply Kd.R_drew)); exact Kd.R_mono HO350.out (fun _ hk => trivial)⟩, ⟨by repeat (first | (with_reducible first | exact HB.out | apply below_alloc | apply pw_below_drewN | apply below_drew1) | exact HB.out)⟩⟩
        · rw [if_neg c26] at H
          have c26b0 : (t336 == t338) = false := beq_eq_false_iff_ne.mpr c26
          have c26b1 : (t336 != t338) = true := bne_iff_ne.mpr c26
          have H' := Aside0.mk H
          clear H
          go_wp2
          go_meet
          case rel => exact ⟨_, (true), (by first | rfl | (simp; done) | (simp [*]; done)), H', ⟨by first | omega | exact Nat.le_refl _⟩, ⟨by (with_reducible repeat (first | apply Kd.R_alloc | apply Kd.R_drewN | apply Kd.R_drew)); exact Kd.R_mono HO350.out (fun _ hk => trivial)⟩, ⟨by repeat (first | (with_reducible first | exact HB.out | apply below_alloc | apply pw_below_drewN | apply below_drew1) | exact HB.out)⟩⟩
    case rest =>
      clear HC16
      try clear c1
      try clear c2
      try clear p2
      try clear c3
      try clear hcv3
      try clear c6
      try clear c8
      try clear c19
      try clear c20
      try clear c21
      try clear c22
      try clear c23
      try clear c24
      try clear c25
      try clear c25b0
      try clear c25b1
      try clear c25b2
      try clear c26
      try clear c26b0
      try clear c26b1
      try clear c27
      try clear c27b0
      try clear c27b1
      try clear c27b2
      try clear c28
      try clear c28b0
      try clear c28b1
      try clear c29
      try clear c29b0
      try clear c29b1
      try clear c30
      try clear c30b0
      try clear c30b1
      try clear c30b2
      try clear c31
      try clear c31b0
      try clear c31b1
      try clear c31b2
      try clear hcv32
      try clear hcv33
      obtain ⟨kq, x143_15, rfl, HA, HJ15, HO_16, HB⟩ := hcut
      cases kq with
      | zero => exact absurd HA.out (by simp [laws_FnPairs.j0])
      | succ kj15 =>
        have H := HA.out
        clear HA
        simp only [laws_FnPairs.j0] at H
        by_cases c34 : x143_15 = true
        · subst c34
          have H1 : (some false) = some r := by rw [if_pos rfl] at H; exact H
          clear H
          have H := H1
          clear H1
          obtain rfl := Option.some.inj H
          go_wp2
          go_ret
          exact ⟨by first | rfl | (simp [errW_none, errW_some] <;> rfl) | (simp [*, errW_none, errW_some] <;> rfl), by repeat (first | (with_reducible first | exact HB.out | apply below_alloc | apply pw_below_drewN | apply below_drew1) | exact HB.out)⟩
        · replace c34 := Bool.eq_false_iff.mpr c34
          subst c34
          have H1 : (if t337 = true then ((impl_SignPair.f t336).bind fun bt369 => (if bt369.2.2 = true then (if bt369.1 = t334 then (laws_FnPairs.j1 kj15 t347 t348 t351 t352 t353 (bt369.2.1 != t335)) else (laws_FnPairs.j1 kj15 t347 t348 t351 t352 t353 true)) else (laws_FnPairs.j1 kj15 t347 t348 t351 t352 t353 true))) else (if t353 = true then ((impl_PutEuc.f kj15 (([] : List Int)) t351).bind fun bt386 => (if bt386.2 = true then (if 0 ≤ t348 then (if t348 ≤ t352 then (if t352 ≤ (t347.length : Int) then (some ((strOfNums bt386.1).toList == (strOfNums ((t347.take (t352 : Int).toNat).drop (t348 : Int).toNat)).toList)) else (none)) else (none)) else (none)) else (some false))) else (some true))) = some r := by rw [if_neg (show ¬ (false = true) by decide)] at H; exact H
          clear H
          have H := H1
          clear H1
          by_cases c35 : t337 = true
          · subst c35
            have H1 : ((impl_SignPair.f t336).bind fun bt369 => (if bt369.2.2 = true then (if bt369.1 = t334 then (laws_FnPairs.j1 kj15 t347 t348 t351 t352 t353 (bt369.2.1 != t335)) else (laws_FnPairs.j1 kj15 t347 t348 t351 t352 t353 true)) else (laws_FnPairs.j1 kj15 t347 t348 t351 t352 t353 true))) = some r := by rw [if_pos rfl] at H; exact H
            clear H
            have H := H1
            clear H1
            replace H := Option.bind_eq_some_iff.mp H
            obtain ⟨⟨t369, t370, t371⟩, A360, H⟩ := H
            replace H : (if t371 = true then (if t369 = t334 then (laws_FnPairs.j1 kj15 t347 t348 t351 t352 t353 (t370 != t335)) else (laws_FnPairs.j1 kj15 t347 t348 t351 t352 t353 true)) else (laws_FnPairs.j1 kj15 t347 t348 t351 t352 t353 true)) = some r := H
            have A36 := Aside0.mk A360
            clear A360
            have HC37 := Aside0.mk H
            clear H
            go_upto_region 19 with (first | ((with_reducible refine gate_callee (f := 23) rfl ?_); refine goesL_ (some 147) rfl rfl Try.func23 (by kernel_rfl) rfl #[.int .i64 t336] rfl (by (try simp only [List.map_toArray, List.map_cons, List.map_nil]); first | done | rfl | (simp only [List.length_drop, List.length_take]; rfl)) ?_; (with_reducible refine (impl_SignPair.calls t336 t369 t370 t371 _ A36.out).mono ?_); rintro e w' ⟨rfl, ⟨nd, rfl⟩⟩; refine ⟨_, rfl, ?_⟩))
            (try simp only [Act.put, List.setIfInBounds_toArray, List.set_cons_zero, List.set_cons_succ])
            go_cut [162] (fun v162 wc => ∃ (kq : Nat) (x162_36 : Bool), v162 = .bool x162_36 ∧ Aside0 (laws_FnPairs.j1 kq t347 t348 t351 t352 t353 x162_36 = some r) ∧ Aside0 (kq ≤ kj15) ∧ Aside0 (Kd.R (Kd.int .u8) 5 wc w.heap.size (fun _ => True) (.slice Ao20 t347.length co20) t347) ∧ Aside0 (Below w.heap.size w wc))
            case first =>
              have H := HC37.out
              clear HC37
              by_cases c38 : t371 = true
              · subst c38
                have H1 : (if t369 = t334 then (laws_FnPairs.j1 kj15 t347 t348 t351 t352 t353 (t370 != t335)) else (laws_FnPairs.j1 kj15 t347 t348 t351 t352 t353 true)) = some r := by rw [if_pos rfl] at H; exact H
                clear H
                have H := H1
                clear H1
                by_cases c39 : t369 = t334
                · rw [if_pos c39] at H
                  have c39b0 : (t369 == t334) = true := beq_iff_eq.mpr c39
                  have c39b1 : (t369 != t334) = false := bne_eq_false_iff_eq.mpr c39
                  clear c39
                  (first | rw [c39b0] | (simp only [i64_w, i32_w]; rw [c39b0]) | skip)
                  have H' := Aside0.mk H
                  clear H
                  go_wp2
                  go_meet
                  case rel => exact ⟨_, ((t370 != t335)), (by first | rfl | (simp; done) | (simp [*]; done)), H', ⟨by have := HJ15.out; first | omega | exact Nat.le_refl _⟩, ⟨by (with_reducible repeat (first | apply Kd.R_alloc | apply Kd.R_drewN | apply Kd.R_drew)); exact HO_16.out⟩, ⟨by repeat (first | (with_reducible first | exact HB.out | apply below_alloc | apply pw_below_drewN | apply below_drew1) | exact HB.out)⟩⟩
                · rw [if_neg c39] at H
                  have c39b0 : (t369 == t334) = false := beq_eq_false_iff_ne.mpr c39
                  have c39b1 : (t369 != t334) = true := bne_iff_ne.mpr c39
                  (first | rw [c39b0] | (simp only [i64_w, i32_w]; rw [c39b0]) | skip)
                  have H' := Aside0.mk H
                  clear H
                  go_wp2
                  go_meet
                  case rel => exact ⟨_, (true), (by first | rfl | (simp; done) | (simp [*]; done)), H', ⟨by have := HJ15.out; first | omega | exact Nat.le_refl _⟩, ⟨by (with_reducible repeat (first | apply Kd.R_alloc | apply Kd.R_drewN | apply Kd.R_drew)); exact HO_16.out⟩, ⟨by repeat (first | (with_reducible first | exact HB.out | apply below_alloc | apply pw_below_drewN | apply below_drew1) | exact HB.out)⟩⟩
              · replace c38 := Bool.eq_false_iff.mpr c38
                subst c38
                have H1 : (laws_FnPairs.j1 kj15 t347 t348 t351 t352 t353 true) = some r := by rw [if_neg (show ¬ (false = true) by decide)] at H; exact H
                clear H
                have H := H1
                clear H1
                have H' := Aside0.mk H
                clear H
                go_wp2
                go_meet
                case rel => exact ⟨_, (true), (by first | rfl | (simp; done) | (simp [*]; done)), H', ⟨by have := HJ15.out; first | omega | exact Nat.le_refl _⟩, ⟨by (with_reducible repeat (first | apply Kd.R_alloc | apply Kd.R_drewN | apply Kd.R_drew)); exact HO_16.out⟩, ⟨by repeat (first | (with_reducible first | exact HB.out | apply below_alloc | apply pw_below_drewN | apply below_drew1) | exact HB.out)⟩⟩
            case rest =>
              clear HC37
              try clear c1
              try clear c2
              try clear p2
              try clear c3
              try clear hcv3
              try clear c6
              try clear c8
              try clear c19
              try clear c20
              try clear c21
              try clear c22
              try clear c23
              try clear c24
              try clear c25
              try clear c25b0
              try clear c25b1
              try clear c25b2
              try clear c26
              try clear c26b0
              try clear c26b1
              try clear c27
              try clear c27b0
              try clear c27b1
              try clear c27b2
              try clear c28
              try clear c28b0
              try clear c28b1
              try clear c29
              try clear c29b0
              try clear c29b1
              try clear c30
              try clear c30b0
              try clear c30b1
              try clear c30b2
              try clear c31
              try clear c31b0
              try clear c31b1
              try clear c31b2
              try clear hcv32
              try clear hcv33
              try clear c34
              try clear c35
              try clear c38
              try clear c39
              try clear c39b0
              try clear c39b1
              try clear p2
              obtain ⟨kq, x162_36, rfl, HA, HJ36, HO_16, HB⟩ := hcut
              cases kq with
              | zero => exact absurd HA.out (by simp [laws_FnPairs.j1])
              | succ kj36 =>
                have H := HA.out
                clear HA
                simp only [laws_FnPairs.j1] at H
                by_cases c40 : x162_36 = true
                · subst c40
                  have H1 : (some false) = some r := by rw [if_pos rfl] at H; exact H
                  clear H
                  have H := H1
                  clear H1
                  obtain rfl := Option.some.inj H
                  go_wp2
                  go_ret
                  exact ⟨by first | rfl | (simp [errW_none, errW_some] <;> rfl) | (simp [*, errW_none, errW_some] <;> rfl), by repeat (first | (with_reducible first | exact HB.out | apply below_alloc | apply pw_below_drewN | apply below_drew1) | exact HB.out)⟩
                · replace c40 := Bool.eq_false_iff.mpr c40
                  subst c40
                  have H1 : (if t353 = true then ((impl_PutEuc.f kj36 (([] : List Int)) t351).bind fun bt375 => (if bt375.2 = true then (if 0 ≤ t348 then (if t348 ≤ t352 then (if t352 ≤ (t347.length : Int) then (some ((strOfNums bt375.1).toList == (strOfNums ((t347.take (t352 : Int).toNat).drop (t348 : Int).toNat)).toList)) else (none)) else (none)) else (none)) else (some false))) else (some true)) = some r := by rw [if_neg (show ¬ (false = true) by decide)] at H; exact H
                  clear H
                  have H := H1
                  clear H1
                  by_cases c41 : t353 = true
                  · subst c41
                    have H1 : ((impl_PutEuc.f kj36 (([] : List Int)) t351).bind fun bt375 => (if bt375.2 = true then (if 0 ≤ t348 then (if t348 ≤ t352 then (if t352 ≤ (t347.length : Int) then (some ((strOfNums bt375.1).toList == (strOfNums ((t347.take (t352 : Int).toNat).drop (t348 : Int).toNat)).toList)) else (none)) else (none)) else (none)) else (some false))) = some r := by rw [if_pos rfl] at H; exact H
                    clear H
                    have H := H1
                    clear H1
                    obtain ⟨y372, hy372⟩ : ∃ y_ : List Int, y_ = (([] : List Int)) := ⟨_, rfl⟩
                    replace H : ((impl_PutEuc.f kj36 y372 t351).bind fun bt375 => (if bt375.2 = true then (if 0 ≤ t348 then (if t348 ≤ t352 then (if t352 ≤ (t347.length : Int) then (some ((strOfNums bt375.1).toList == (strOfNums ((t347.take (t352 : Int).toNat).drop (t348 : Int).toNat)).toList)) else (none)) else (none)) else (none)) else (some false))) = some r := by first | (rw [hy372]; with_reducible exact H) | (have H2_ := (Option.bind_some _ _).symm.trans H; rw [hy372]; with_reducible exact H2_) | (have H2_ := (Option.bind_some _ _).symm.trans H; with_reducible exact H2_) | with_reducible exact H | (rw [hy372]; exact H) | exact H
                    have Ny372 := Aside0.mk hy372
                    clear hy372
                    replace H := Option.bind_eq_some_iff.mp H
                    obtain ⟨⟨t375, t378⟩, A420, H⟩ := H
                    replace H : (if t378 = true then (if 0 ≤ t348 then (if t348 ≤ t352 then (if t352 ≤ (t347.length : Int) then (some ((strOfNums t375).toList == (strOfNums ((t347.take (t352 : Int).toNat).drop (t348 : Int).toNat)).toList)) else (none)) else (none)) else (none)) else (some false)) = some r := H
                    have A42 := Aside0.mk A420
                    clear A420
                    by_cases c43 : t378 = true
                    · subst c43
                      have H1 : (if 0 ≤ t348 then (if t348 ≤ t352 then (if t352 ≤ (t347.length : Int) then (some ((strOfNums t375).toList == (strOfNums ((t347.take (t352 : Int).toNat).drop (t348 : Int).toNat)).toList)) else (none)) else (none)) else (none)) = some r := by rw [if_pos rfl] at H; exact H
                      clear H
                      have H := H1
                      clear H1
                      by_cases c44 : 0 ≤ t348
                      · rw [if_pos c44] at H
                        have c44b0 := eq_true c44
                        have c44b1 : decide (0 ≤ t348) = true := decide_eq_true c44
                        clear c44
                        by_cases c45 : t348 ≤ t352
                        · rw [if_pos c45] at H
                          have c45b0 := eq_true c45
                          have c45b1 : decide (t348 ≤ t352) = true := decide_eq_true c45
                          clear c45
                          by_cases c46 : t352 ≤ (t347.length : Int)
                          · rw [if_pos c46] at H
                            have c46b0 := eq_true c46
                            have c46b1 : decide (t352 ≤ (t347.length : Int)) = true := decide_eq_true c46
                            clear c46
                            obtain ⟨y379, hy379⟩ : ∃ y_ : List Int, y_ = ((t347.take (t352 : Int).toNat).drop (t348 : Int).toNat) := ⟨_, rfl⟩
                            replace H : (some ((strOfNums t375).toList == (strOfNums y379).toList)) = some r := by first | (rw [hy379]; with_reducible exact H) | (have H2_ := (Option.bind_some _ _).symm.trans H; rw [hy379]; with_reducible exact H2_) | (have H2_ := (Option.bind_some _ _).symm.trans H; with_reducible exact H2_) | with_reducible exact H | (rw [hy379]; exact H) | exact H
                            have Ny379 := Aside0.mk hy379
                            clear hy379
                            obtain rfl := Option.some.inj H
                            try go_wp2_with (first | ((with_reducible refine gate_dst (N := 165) rfl ?_); refine Kd.R_lit (Kd.int .u8) _ 5 ?hg (N := 165) ?hd (xs := ([] : List Int)) (inner := []) (ok := fun _ => True) (okp := fun _ => True) ?hr ?hp (fun _ hk => hk) trivial (Below.refl _ _) (Nat.le_refl _) (by simp) ?_; (case hd => rfl); (case hg => rfl); (case hr => first | (go_simp; done) | (go_simp; rfl)); (case hp => exact (Reps.none _ _)); intro v373 w47 ho48 hb hg_ hnew_; clear hg_ hnew_; (first | rw [← Ny372.out] at ho48 | (simp only [Int.reduceToNat] at ho48; rw [← Ny372.out] at ho48)); have n0_ := Aside0.mk (Kd.R_elder' (by (with_reducible repeat (first | apply Kd.R_alloc | apply Kd.R_drewN | apply Kd.R_drew)); exact HO_16.out) (Kd.R_base ho48) hb); have n1_ := Aside0.mk (Kd.R_lower (Kd.R_new' ho48 (Kd.R_lt (by (with_reducible repeat (first | apply Kd.R_alloc | apply Kd.R_drewN | apply Kd.R_drew)); exact HO_16.out))) (below_size (by repeat (first | (with_reducible first | exact HB.out | apply below_alloc | apply pw_below_drewN | apply below_drew1) | exact HB.out)))); have n2_ := Aside0.mk (below_step (by repeat (first | (with_reducible first | exact HB.out | apply below_alloc | apply pw_below_drewN | apply below_drew1) | exact HB.out)) hb); clear HO_16; clear HB; have HO_16 := n0_; have HO374 := n1_; have HB := n2_; clear n0_ n1_ n2_; clear hb ho48; obtain ⟨Ao49, co49, eo49⟩ := Kd.R_slice HO374.out; subst eo49) | ((with_reducible refine gate_callee (f := 29) rfl ?_); refine goesL_ (some 167) rfl rfl Try.func29 (by kernel_rfl) rfl #[.slice Ao49 y372.length co49, .int .i64 t351] rfl (by (try simp only [List.map_toArray, List.map_cons, List.map_nil]); first | done | rfl | (simp only [List.length_drop, List.length_take]; rfl)) ?_; (with_reducible refine (impl_PutEuc.calls kj36 (fun k_ => some k_ = (.slice Ao49 y372.length co49 : Value).ownBlock) _ _ y372 t351 t375 true _ ?side1 A42.out).mono ?_); (case side1 => exact Kd.R_V (Kd.R_tight rfl (HO374.out))); rintro e w50 ⟨v376, rfl, ho0, hb⟩; refine ⟨_, rfl, ?_⟩; have n0_ := Aside0.mk (Kd.R_elder' (by (with_reducible repeat (first | apply Kd.R_alloc | apply Kd.R_drewN | apply Kd.R_drew)); exact HO_16.out) (Kd.R_base ho0) hb); have n1_ := Aside0.mk (Kd.R_elder' (by (with_reducible repeat (first | apply Kd.R_alloc | apply Kd.R_drewN | apply Kd.R_drew)); exact HO374.out) (Kd.R_base ho0) hb); have n2_ := Aside0.mk (Kd.R_lower (Kd.R_new' (Kd.R_new' (Kd.R_mono (ok' := fun k_ => True) ho0 (fun _ hk_ => trivial)) (Kd.R_lt (by (with_reducible repeat (first | apply Kd.R_alloc | apply Kd.R_drewN | apply Kd.R_drew)); exact HO_16.out))) (Kd.R_lt (by (with_reducible repeat (first | apply Kd.R_alloc | apply Kd.R_drewN | apply Kd.R_drew)); exact HO374.out))) (below_size (by repeat (first | (with_reducible first | exact HB.out | apply below_alloc | apply pw_below_drewN | apply below_drew1) | exact HB.out)))); have n3_ := Aside0.mk (below_step (by repeat (first | (with_reducible first | exact HB.out | apply below_alloc | apply pw_below_drewN | apply below_drew1) | exact HB.out)) hb); clear HO_16; clear HO374; clear HB; have HO_16 := n0_; have HO374 := n1_; have HO377 := n2_; have HB := n3_; clear n0_ n1_ n2_ n3_; (try clear hb); (try clear hb2); (try clear hk); (try clear hi); (try clear ho0)))
                            have n0_ := Aside0.mk (Kd.R_drew HO_16.out)
                            have n1_ := Aside0.mk (Kd.R_drew HO374.out)
                            have n2_ := Aside0.mk (Kd.R_drew HO377.out)
                            have n3_ := Aside0.mk (below_drew1 HB.out)
                            clear HO_16
                            clear HO374
                            clear HO377
                            clear HB
                            have HO_16 := n0_
                            have HO374 := n1_
                            have HO377 := n2_
                            have HB := n3_
                            clear n0_ n1_ n2_ n3_
                            have q52 : (t352 : Int) ≤ ((t347.length : Int) : Int) := of_decide_eq_true (by first | (with_reducible assumption) | assumption)
                            obtain ⟨i052, hi052, _, hsz52, _⟩ := info_parts info5
                            have hroom52 : t347.length ≤ co20 := (Kd.R_reads' HO_16.out).2.1
                            have hC52 : Kd.C (Kd.int .u8) _ Ao20 t347.length t347 := (Kd.R_reads' HO_16.out).2.2
                            have ql52 : (t348 : Int) ≤ (t352 : Int) := of_decide_eq_true (by first | (with_reducible assumption) | assumption)
                            have q052 : (0 : Int) ≤ (t348 : Int) := of_decide_eq_true (by first | (with_reducible assumption) | assumption)
                            have hcut52 := cut_mid (P := Try.prog) 22 5 .i64 .i64 Try.underlying22 hi052 1 hsz52 Ao20 t347.length co20 t348 t352 q052 ql52 q52 hroom52
                            have hr52 := Kd.C_mid (lo := (t348 : Int).toNat) (hi := (t352 : Int).toNat) (c := co20) hC52 (by omega) (by omega) hroom52
                            obtain ⟨A52, hA52⟩ : ∃ A1, A1 = (if co20 = (t348 : Int).toNat then Ao20 else (Ao20 : Option Addr).map (·.add ((t348 : Int).toNat * 1))) := ⟨_, rfl⟩
                            obtain ⟨c52, hc52⟩ : ∃ c1, c1 = co20 - (t348 : Int).toNat := ⟨_, rfl⟩
                            have hy52 : y379.length = (t352 : Int).toNat - (t348 : Int).toNat := (by rw [Ny379.out, List.length_drop, List.length_take] <;> omega)
                            rw [show ((t347).take (t352 : Int).toNat).drop (t348 : Int).toNat = y379 from Ny379.out.symm] at hr52
                            replace hr52 : Kd.C (Kd.int .u8) _ A52 y379.length y379 := (by rw [hA52]; exact hr52)
                            rw [← hy52, ← hA52, ← hc52] at hcut52
                            have HR382 := Aside0.mk hr52
                            have HC382 := Aside0.mk (show y379.length ≤ c52 from by rw [hy52, hc52]; exact Nat.sub_le_sub_right (Nat.le_trans (by omega) hroom52) _)
                            clear hr52 hC52 hroom52 hi052 hsz52 hc52
                            have KY52 := Aside0.mk hy52
                            have KA52 := Aside0.mk hA52
                            clear hy52 hA52
                            have KL52 := Aside0.mk (show (t352 : Int).toNat ≤ t347.length from by omega)
                            have KM52 := Aside0.mk (show (t348 : Int).toNat ≤ (t352 : Int).toNat from by omega)
                            replace q52 := eq_true q52
                            refine start_ (n := 12) (S := fun w' => (convert 22 9 (v376)).run Try.prog w' = .ok (.string (strOfNums t375)) w' ∧ (convert 22 9 (.slice A52 y379.length c52)).run Try.prog w' = .ok (.string (strOfNums y379)) w') (ds := []) #[false, false, false, false, false, false, false, false, false, false, false, false] (by kernel_rfl) rfl rfl ⟨(own_string (P := Try.prog) Try.underlying22 Try.underlying5 Try.underlying9 (Kd.own_of_R HO377.out)), (Kd.C_string (P := Try.prog) (A := A52) (c := c52) Try.underlying22 Try.underlying5 Try.underlying9 (by repeat (first | (with_reducible exact HR382.out) | (with_reducible refine Kd.C_alloc ?_ _) | (with_reducible refine Kd.C_drewN ?_ _) | (with_reducible refine Kd.C_drew ?_) | exact HR382.out)))⟩ (fun hHeld => ?_); refine with_tabW laws_FnPairs.tab23 laws_FnPairs.bits23 (fun HT_ HW_ => ?_)
                            generalize w50.drew = w51 at HO_16 HO374 HO377 HB HR382 hHeld ⊢
                            refine pure_ (i := 0) (N := some 170) (v := ?_) (a' := ?_) #[true, false, false, false, false, false, false, false, false, false, false, false] rfl rfl (any_of HT_.out (by kernel_rfl)) (fun _ _ _ h => h) (Or.inl ⟨by rfl, ?_⟩) ?_ ?_
                            rotate_left
                            · intro w'
                              go_simp
                              with_reducible rfl
                            rotate_left
                            · simp only [Act.put, List.setIfInBounds_toArray, List.set_cons_zero, List.set_cons_succ, i64_w, i32_w]
                              rfl
                            refine pure_ (i := 1) (N := some 171) (v := ?_) (a' := ?_) #[true, true, false, false, false, false, false, false, false, false, false, false] rfl rfl (any_of HT_.out (by kernel_rfl)) (fun _ _ _ h => h) (Or.inl ⟨by rfl, ?_⟩) ?_ ?_
                            rotate_left
                            · intro w'
                              go_simp
                              with_reducible rfl
                            rotate_left
                            · simp only [Act.put, List.setIfInBounds_toArray, List.set_cons_zero, List.set_cons_succ, i64_w, i32_w]
                              rfl
                            refine pure_ (i := 2) (N := some 172) (v := ?_) (a' := ?_) #[true, true, true, false, false, false, false, false, false, false, false, false] rfl rfl (any_of HT_.out (by kernel_rfl)) (fun _ _ _ h => h) (Or.inl ⟨by rfl, ?_⟩) ?_ ?_
                            rotate_left
                            · intro w'
                              go_simp
                              with_reducible rfl
                            rotate_left
                            · simp only [Act.put, List.setIfInBounds_toArray, List.set_cons_zero, List.set_cons_succ, i64_w, i32_w]
                              rfl
                            refine pure_ (i := 4) (N := some 174) (v := ?_) (a' := ?_) #[true, true, true, false, true, false, false, false, false, false, false, false] rfl rfl (any_of HT_.out (by kernel_rfl)) (fun _ _ _ h => h) (Or.inl ⟨by rfl, ?_⟩) ?_ ?_
                            rotate_left
                            · intro w'
                              go_simp
                              with_reducible rfl
                            rotate_left
                            · simp only [Act.put, List.setIfInBounds_toArray, List.set_cons_zero, List.set_cons_succ, i64_w, i32_w]
                              rfl
                            refine pure_ (i := 5) (N := some 175) (v := ?_) (a' := ?_) #[true, true, true, false, true, true, false, false, false, false, false, false] rfl rfl (any_of HT_.out (by kernel_rfl)) (fun _ _ _ h => h) (Or.inl ⟨by rfl, ?_⟩) ?_ ?_
                            rotate_left
                            · intro w'
                              go_simp
                              with_reducible rfl
                            rotate_left
                            · simp only [Act.put, List.setIfInBounds_toArray, List.set_cons_zero, List.set_cons_succ, i64_w, i32_w]
                              rfl
                            refine pure_ (i := 6) (N := some 176) (v := ?_) (a' := ?_) #[true, true, true, false, true, true, true, false, false, false, false, false] rfl rfl (any_of HT_.out (by kernel_rfl)) (fun _ _ _ h => h) (Or.inl ⟨by rfl, ?_⟩) ?_ ?_
                            rotate_left
                            · intro w'
                              go_simp
                              with_reducible rfl
                            rotate_left
                            · simp only [Act.put, List.setIfInBounds_toArray, List.set_cons_zero, List.set_cons_succ, i64_w, i32_w]
                              rfl
                            refine pure_ (i := 7) (N := some 177) (v := ?_) (a' := ?_) #[true, true, true, false, true, true, true, true, false, false, false, false] rfl rfl (any_of HT_.out (by kernel_rfl)) (fun _ _ _ h => h) (Or.inl ⟨by rfl, ?_⟩) ?_ ?_
                            rotate_left
                            · intro w'
                              go_simp
                              with_reducible rfl
                            rotate_left
                            · simp only [Act.put, List.setIfInBounds_toArray, List.set_cons_zero, List.set_cons_succ, i64_w, i32_w]
                              rfl
                            refine take_ (i := 3) (N := some 173) (v := ?_) (a' := ?_) #[true, true, true, true, true, true, true, true, false, false, false, false] rfl rfl (take_ofW HT_.out HW_.out (by kernel_rfl)) (fun _ _ _ h => h) (Or.inl ⟨by rfl, ?_⟩) hHeld ?_ ?_
                            rotate_left
                            · rintro w' ⟨s0, s1⟩
                              go_simp
                              with_reducible rfl
                            rotate_left
                            · simp only [Act.put, List.setIfInBounds_toArray, List.set_cons_zero, List.set_cons_succ, i64_w, i32_w]
                              rfl
                            refine take_ (i := 8) (N := some 178) (v := ?_) (a' := ?_) #[true, true, true, true, true, true, true, true, true, false, false, false] rfl rfl (take_ofW HT_.out HW_.out (by kernel_rfl)) (fun _ _ _ h => h) (Or.inl ⟨by rfl, ?_⟩) hHeld ?_ ?_
                            rotate_left
                            · rintro w' ⟨s0, s1⟩
                              go_simp
                              with_reducible rfl
                            rotate_left
                            · simp only [Act.put, List.setIfInBounds_toArray, List.set_cons_zero, List.set_cons_succ, i64_w, i32_w]
                              rfl
                            refine pure_ (i := 9) (N := some 179) (v := ?_) (a' := ?_) #[true, true, true, true, true, true, true, true, true, true, false, false] rfl rfl (any_of HT_.out (by kernel_rfl)) (fun _ _ _ h => h) (Or.inl ⟨by rfl, ?_⟩) ?_ ?_
                            rotate_left
                            · intro w'
                              go_simp
                              with_reducible rfl
                            rotate_left
                            · simp only [Act.put, List.setIfInBounds_toArray, List.set_cons_zero, List.set_cons_succ, i64_w, i32_w]
                              rfl
                            refine pure_ (i := 10) (N := some 180) (v := ?_) (a' := ?_) #[true, true, true, true, true, true, true, true, true, true, true, false] rfl rfl (any_of HT_.out (by kernel_rfl)) (fun _ _ _ h => h) (Or.inl ⟨by rfl, ?_⟩) ?_ ?_
                            rotate_left
                            · intro w'
                              go_simp
                              with_reducible rfl
                            rotate_left
                            · simp only [Act.put, List.setIfInBounds_toArray, List.set_cons_zero, List.set_cons_succ, i64_w, i32_w]
                              rfl
                            refine pure_ (i := 11) (N := some 2) (v := ?_) (a' := ?_) #[true, true, true, true, true, true, true, true, true, true, true, true] rfl rfl (any_of HT_.out (by kernel_rfl)) (fun _ _ _ h => h) (Or.inl ⟨by rfl, ?_⟩) ?_ ?_
                            rotate_left
                            · intro w'
                              go_simp
                              with_reducible rfl
                            rotate_left
                            · simp only [Act.put, List.setIfInBounds_toArray, List.set_cons_zero, List.set_cons_succ, i64_w, i32_w]
                              rfl
                            refine done_ (done_of HT_.out (by kernel_rfl)) ?_
                            try go_wp2
                            go_ret
                            exact ⟨by first | rfl | (simp [errW_none, errW_some] <;> rfl) | (simp [*, errW_none, errW_some] <;> rfl), by repeat (first | (with_reducible first | exact HB.out | apply below_alloc | apply pw_below_drewN | apply below_drew1) | exact HB.out)⟩
                          · rw [if_neg c46] at H
                            exact absurd H (by simp)
                        · rw [if_neg c45] at H
                          exact absurd H (by simp)
                      · rw [if_neg c44] at H
                        exact absurd H (by simp)
                    · replace c43 := Bool.eq_false_iff.mpr c43
                      subst c43
                      have H1 : (some false) = some r := by rw [if_neg (show ¬ (false = true) by decide)] at H; exact H
                      clear H
                      have H := H1
                      clear H1
                      obtain rfl := Option.some.inj H
                      try go_wp2_with (first | ((with_reducible refine gate_dst (N := 165) rfl ?_); refine Kd.R_lit (Kd.int .u8) _ 5 ?hg (N := 165) ?hd (xs := ([] : List Int)) (inner := []) (ok := fun _ => True) (okp := fun _ => True) ?hr ?hp (fun _ hk => hk) trivial (Below.refl _ _) (Nat.le_refl _) (by simp) ?_; (case hd => rfl); (case hg => rfl); (case hr => first | (go_simp; done) | (go_simp; rfl)); (case hp => exact (Reps.none _ _)); intro v373 w56 ho57 hb hg_ hnew_; clear hg_ hnew_; (first | rw [← Ny372.out] at ho57 | (simp only [Int.reduceToNat] at ho57; rw [← Ny372.out] at ho57)); have n0_ := Aside0.mk (Kd.R_elder' (by (with_reducible repeat (first | apply Kd.R_alloc | apply Kd.R_drewN | apply Kd.R_drew)); exact HO_16.out) (Kd.R_base ho57) hb); have n1_ := Aside0.mk (Kd.R_lower (Kd.R_new' ho57 (Kd.R_lt (by (with_reducible repeat (first | apply Kd.R_alloc | apply Kd.R_drewN | apply Kd.R_drew)); exact HO_16.out))) (below_size (by repeat (first | (with_reducible first | exact HB.out | apply below_alloc | apply pw_below_drewN | apply below_drew1) | exact HB.out)))); have n2_ := Aside0.mk (below_step (by repeat (first | (with_reducible first | exact HB.out | apply below_alloc | apply pw_below_drewN | apply below_drew1) | exact HB.out)) hb); clear HO_16; clear HB; have HO_16 := n0_; have HO374 := n1_; have HB := n2_; clear n0_ n1_ n2_; clear hb ho57; obtain ⟨Ao58, co58, eo58⟩ := Kd.R_slice HO374.out; subst eo58) | ((with_reducible refine gate_callee (f := 29) rfl ?_); refine goesL_ (some 167) rfl rfl Try.func29 (by kernel_rfl) rfl #[.slice Ao58 y372.length co58, .int .i64 t351] rfl (by (try simp only [List.map_toArray, List.map_cons, List.map_nil]); first | done | rfl | (simp only [List.length_drop, List.length_take]; rfl)) ?_; (with_reducible refine (impl_PutEuc.calls kj36 (fun k_ => some k_ = (.slice Ao58 y372.length co58 : Value).ownBlock) _ _ y372 t351 t375 false _ ?side1 A42.out).mono ?_); (case side1 => exact Kd.R_V (Kd.R_tight rfl (HO374.out))); rintro e w59 ⟨v376, rfl, ho0, hb⟩; refine ⟨_, rfl, ?_⟩; have n0_ := Aside0.mk (Kd.R_elder' (by (with_reducible repeat (first | apply Kd.R_alloc | apply Kd.R_drewN | apply Kd.R_drew)); exact HO_16.out) (Kd.R_base ho0) hb); have n1_ := Aside0.mk (Kd.R_elder' (by (with_reducible repeat (first | apply Kd.R_alloc | apply Kd.R_drewN | apply Kd.R_drew)); exact HO374.out) (Kd.R_base ho0) hb); have n2_ := Aside0.mk (Kd.R_lower (Kd.R_new' (Kd.R_new' (Kd.R_mono (ok' := fun k_ => True) ho0 (fun _ hk_ => trivial)) (Kd.R_lt (by (with_reducible repeat (first | apply Kd.R_alloc | apply Kd.R_drewN | apply Kd.R_drew)); exact HO_16.out))) (Kd.R_lt (by (with_reducible repeat (first | apply Kd.R_alloc | apply Kd.R_drewN | apply Kd.R_drew)); exact HO374.out))) (below_size (by repeat (first | (with_reducible first | exact HB.out | apply below_alloc | apply pw_below_drewN | apply below_drew1) | exact HB.out)))); have n3_ := Aside0.mk (below_step (by repeat (first | (with_reducible first | exact HB.out | apply below_alloc | apply pw_below_drewN | apply below_drew1) | exact HB.out)) hb); clear HO_16; clear HO374; clear HB; have HO_16 := n0_; have HO374 := n1_; have HO377 := n2_; have HB := n3_; clear n0_ n1_ n2_ n3_; (try clear hb); (try clear hb2); (try clear hk); (try clear hi); (try clear ho0)))
                      have n0_ := Aside0.mk (Kd.R_drew HO_16.out)
                      have n1_ := Aside0.mk (Kd.R_drew HO374.out)
                      have n2_ := Aside0.mk (Kd.R_drew HO377.out)
                      have n3_ := Aside0.mk (below_drew1 HB.out)
                      clear HO_16
                      clear HO374
                      clear HO377
                      clear HB
                      have HO_16 := n0_
                      have HO374 := n1_
                      have HO377 := n2_
                      have HB := n3_
                      clear n0_ n1_ n2_ n3_
                      refine start_ (n := 12) (S := fun w' => True) (ds := []) #[false, false, false, false, false, false, false, false, false, false, false, false] (by kernel_rfl) rfl rfl trivial (fun hHeld => ?_); refine with_tabW laws_FnPairs.tab23 laws_FnPairs.bits23 (fun HT_ HW_ => ?_)
                      generalize w59.drew = w60 at HO_16 HO374 HO377 HB hHeld ⊢
                      refine pure_ (i := 0) (N := some 170) (v := ?_) (a' := ?_) #[true, false, false, false, false, false, false, false, false, false, false, false] rfl rfl (any_of HT_.out (by kernel_rfl)) (fun _ _ _ h => h) (Or.inl ⟨by rfl, ?_⟩) ?_ ?_
                      rotate_left
                      · intro w'
                        go_simp
                        with_reducible rfl
                      rotate_left
                      · simp only [Act.put, List.setIfInBounds_toArray, List.set_cons_zero, List.set_cons_succ, i64_w, i32_w]
                        rfl
                      refine pure_ (i := 1) (N := some 171) (v := ?_) (a' := ?_) #[true, true, false, false, false, false, false, false, false, false, false, false] rfl rfl (any_of HT_.out (by kernel_rfl)) (fun _ _ _ h => h) (Or.inl ⟨by rfl, ?_⟩) ?_ ?_
                      rotate_left
                      · intro w'
                        go_simp
                        with_reducible rfl
                      rotate_left
                      · simp only [Act.put, List.setIfInBounds_toArray, List.set_cons_zero, List.set_cons_succ, i64_w, i32_w]
                        rfl
                      refine pure_ (i := 2) (N := some 172) (v := undef) (a' := ?_) #[true, true, true, false, false, false, false, false, false, false, false, false] rfl rfl (any_of HT_.out (by kernel_rfl)) (fun _ _ _ h => h) (Or.inr ⟨by rfl, rfl⟩) ?_ ?_
                      rotate_left
                      · simp only [Act.put, List.setIfInBounds_toArray, List.set_cons_zero, List.set_cons_succ, i64_w, i32_w]
                        rfl
                      refine pure_ (i := 3) (N := some 173) (v := undef) (a' := ?_) #[true, true, true, true, false, false, false, false, false, false, false, false] rfl rfl (any_of HT_.out (by kernel_rfl)) (fun _ _ _ h => h) (Or.inr ⟨by rfl, rfl⟩) ?_ ?_
                      rotate_left
                      · simp only [Act.put, List.setIfInBounds_toArray, List.set_cons_zero, List.set_cons_succ, i64_w, i32_w]
                        rfl
                      refine pure_ (i := 4) (N := some 174) (v := undef) (a' := ?_) #[true, true, true, true, true, false, false, false, false, false, false, false] rfl rfl (any_of HT_.out (by kernel_rfl)) (fun _ _ _ h => h) (Or.inr ⟨by rfl, rfl⟩) ?_ ?_
                      rotate_left
                      · simp only [Act.put, List.setIfInBounds_toArray, List.set_cons_zero, List.set_cons_succ, i64_w, i32_w]
                        rfl
                      refine pure_ (i := 5) (N := some 175) (v := undef) (a' := ?_) #[true, true, true, true, true, true, false, false, false, false, false, false] rfl rfl (any_of HT_.out (by kernel_rfl)) (fun _ _ _ h => h) (Or.inr ⟨by rfl, rfl⟩) ?_ ?_
                      rotate_left
                      · simp only [Act.put, List.setIfInBounds_toArray, List.set_cons_zero, List.set_cons_succ, i64_w, i32_w]
                        rfl
                      refine pure_ (i := 6) (N := some 176) (v := undef) (a' := ?_) #[true, true, true, true, true, true, true, false, false, false, false, false] rfl rfl (any_of HT_.out (by kernel_rfl)) (fun _ _ _ h => h) (Or.inr ⟨by rfl, rfl⟩) ?_ ?_
                      rotate_left
                      · simp only [Act.put, List.setIfInBounds_toArray, List.set_cons_zero, List.set_cons_succ, i64_w, i32_w]
                        rfl
                      refine pure_ (i := 7) (N := some 177) (v := undef) (a' := ?_) #[true, true, true, true, true, true, true, true, false, false, false, false] rfl rfl (any_of HT_.out (by kernel_rfl)) (fun _ _ _ h => h) (Or.inr ⟨by rfl, rfl⟩) ?_ ?_
                      rotate_left
                      · simp only [Act.put, List.setIfInBounds_toArray, List.set_cons_zero, List.set_cons_succ, i64_w, i32_w]
                        rfl
                      refine pure_ (i := 8) (N := some 178) (v := undef) (a' := ?_) #[true, true, true, true, true, true, true, true, true, false, false, false] rfl rfl (any_of HT_.out (by kernel_rfl)) (fun _ _ _ h => h) (Or.inr ⟨by rfl, rfl⟩) ?_ ?_
                      rotate_left
                      · simp only [Act.put, List.setIfInBounds_toArray, List.set_cons_zero, List.set_cons_succ, i64_w, i32_w]
                        rfl
                      refine pure_ (i := 9) (N := some 179) (v := undef) (a' := ?_) #[true, true, true, true, true, true, true, true, true, true, false, false] rfl rfl (any_of HT_.out (by kernel_rfl)) (fun _ _ _ h => h) (Or.inr ⟨by rfl, rfl⟩) ?_ ?_
                      rotate_left
                      · simp only [Act.put, List.setIfInBounds_toArray, List.set_cons_zero, List.set_cons_succ, i64_w, i32_w]
                        rfl
                      refine pure_ (i := 10) (N := some 180) (v := ?_) (a' := ?_) #[true, true, true, true, true, true, true, true, true, true, true, false] rfl rfl (any_of HT_.out (by kernel_rfl)) (fun _ _ _ h => h) (Or.inl ⟨by rfl, ?_⟩) ?_ ?_
                      rotate_left
                      · intro w'
                        go_simp
                        with_reducible rfl
                      rotate_left
                      · simp only [Act.put, List.setIfInBounds_toArray, List.set_cons_zero, List.set_cons_succ, i64_w, i32_w]
                        rfl
                      refine pure_ (i := 11) (N := some 2) (v := ?_) (a' := ?_) #[true, true, true, true, true, true, true, true, true, true, true, true] rfl rfl (any_of HT_.out (by kernel_rfl)) (fun _ _ _ h => h) (Or.inl ⟨by rfl, ?_⟩) ?_ ?_
                      rotate_left
                      · intro w'
                        go_simp
                        with_reducible rfl
                      rotate_left
                      · simp only [Act.put, List.setIfInBounds_toArray, List.set_cons_zero, List.set_cons_succ, i64_w, i32_w]
                        rfl
                      refine done_ (done_of HT_.out (by kernel_rfl)) ?_
                      try go_wp2
                      go_ret
                      exact ⟨by first | rfl | (simp [errW_none, errW_some] <;> rfl) | (simp [*, errW_none, errW_some] <;> rfl), by repeat (first | (with_reducible first | exact HB.out | apply below_alloc | apply pw_below_drewN | apply below_drew1) | exact HB.out)⟩
                  · replace c41 := Bool.eq_false_iff.mpr c41
                    subst c41
                    have H1 : (some true) = some r := by rw [if_neg (show ¬ (false = true) by decide)] at H; exact H
                    clear H
                    have H := H1
                    clear H1
                    obtain rfl := Option.some.inj H
                    go_wp2
                    go_ret
                    exact ⟨by first | rfl | (simp [errW_none, errW_some] <;> rfl) | (simp [*, errW_none, errW_some] <;> rfl), by repeat (first | (with_reducible first | exact HB.out | apply below_alloc | apply pw_below_drewN | apply below_drew1) | exact HB.out)⟩
          · replace c35 := Bool.eq_false_iff.mpr c35
            subst c35
            have H1 : (if t353 = true then ((impl_PutEuc.f kj15 (([] : List Int)) t351).bind fun bt386 => (if bt386.2 = true then (if 0 ≤ t348 then (if t348 ≤ t352 then (if t352 ≤ (t347.length : Int) then (some ((strOfNums bt386.1).toList == (strOfNums ((t347.take (t352 : Int).toNat).drop (t348 : Int).toNat)).toList)) else (none)) else (none)) else (none)) else (some false))) else (some true)) = some r := by rw [if_neg (show ¬ (false = true) by decide)] at H; exact H
            clear H
            have H := H1
            clear H1
            by_cases c61 : t353 = true
            · subst c61
              have H1 : ((impl_PutEuc.f kj15 (([] : List Int)) t351).bind fun bt386 => (if bt386.2 = true then (if 0 ≤ t348 then (if t348 ≤ t352 then (if t352 ≤ (t347.length : Int) then (some ((strOfNums bt386.1).toList == (strOfNums ((t347.take (t352 : Int).toNat).drop (t348 : Int).toNat)).toList)) else (none)) else (none)) else (none)) else (some false))) = some r := by rw [if_pos rfl] at H; exact H
              clear H
              have H := H1
              clear H1
              obtain ⟨y383, hy383⟩ : ∃ y_ : List Int, y_ = (([] : List Int)) := ⟨_, rfl⟩
              replace H : ((impl_PutEuc.f kj15 y383 t351).bind fun bt386 => (if bt386.2 = true then (if 0 ≤ t348 then (if t348 ≤ t352 then (if t352 ≤ (t347.length : Int) then (some ((strOfNums bt386.1).toList == (strOfNums ((t347.take (t352 : Int).toNat).drop (t348 : Int).toNat)).toList)) else (none)) else (none)) else (none)) else (some false))) = some r := by first | (rw [hy383]; with_reducible exact H) | (have H2_ := (Option.bind_some _ _).symm.trans H; rw [hy383]; with_reducible exact H2_) | (have H2_ := (Option.bind_some _ _).symm.trans H; with_reducible exact H2_) | with_reducible exact H | (rw [hy383]; exact H) | exact H
              have Ny383 := Aside0.mk hy383
              clear hy383
              replace H := Option.bind_eq_some_iff.mp H
              obtain ⟨⟨t386, t389⟩, A620, H⟩ := H
              replace H : (if t389 = true then (if 0 ≤ t348 then (if t348 ≤ t352 then (if t352 ≤ (t347.length : Int) then (some ((strOfNums t386).toList == (strOfNums ((t347.take (t352 : Int).toNat).drop (t348 : Int).toNat)).toList)) else (none)) else (none)) else (none)) else (some false)) = some r := H
              have A62 := Aside0.mk A620
              clear A620
              by_cases c63 : t389 = true
              · subst c63
                have H1 : (if 0 ≤ t348 then (if t348 ≤ t352 then (if t352 ≤ (t347.length : Int) then (some ((strOfNums t386).toList == (strOfNums ((t347.take (t352 : Int).toNat).drop (t348 : Int).toNat)).toList)) else (none)) else (none)) else (none)) = some r := by rw [if_pos rfl] at H; exact H
                clear H
                have H := H1
                clear H1
                by_cases c64 : 0 ≤ t348
                · rw [if_pos c64] at H
                  have c64b0 := eq_true c64
                  have c64b1 : decide (0 ≤ t348) = true := decide_eq_true c64
                  clear c64
                  by_cases c65 : t348 ≤ t352
                  · rw [if_pos c65] at H
                    have c65b0 := eq_true c65
                    have c65b1 : decide (t348 ≤ t352) = true := decide_eq_true c65
                    clear c65
                    by_cases c66 : t352 ≤ (t347.length : Int)
                    · rw [if_pos c66] at H
                      have c66b0 := eq_true c66
                      have c66b1 : decide (t352 ≤ (t347.length : Int)) = true := decide_eq_true c66
                      clear c66
                      obtain ⟨y390, hy390⟩ : ∃ y_ : List Int, y_ = ((t347.take (t352 : Int).toNat).drop (t348 : Int).toNat) := ⟨_, rfl⟩
                      replace H : (some ((strOfNums t386).toList == (strOfNums y390).toList)) = some r := by first | (rw [hy390]; with_reducible exact H) | (have H2_ := (Option.bind_some _ _).symm.trans H; rw [hy390]; with_reducible exact H2_) | (have H2_ := (Option.bind_some _ _).symm.trans H; with_reducible exact H2_) | with_reducible exact H | (rw [hy390]; exact H) | exact H
                      have Ny390 := Aside0.mk hy390
                      clear hy390
                      obtain rfl := Option.some.inj H
                      try go_wp2_with (first | ((with_reducible refine gate_dst (N := 165) rfl ?_); refine Kd.R_lit (Kd.int .u8) _ 5 ?hg (N := 165) ?hd (xs := ([] : List Int)) (inner := []) (ok := fun _ => True) (okp := fun _ => True) ?hr ?hp (fun _ hk => hk) trivial (Below.refl _ _) (Nat.le_refl _) (by simp) ?_; (case hd => rfl); (case hg => rfl); (case hr => first | (go_simp; done) | (go_simp; rfl)); (case hp => exact (Reps.none _ _)); intro v384 w67 ho68 hb hg_ hnew_; clear hg_ hnew_; (first | rw [← Ny383.out] at ho68 | (simp only [Int.reduceToNat] at ho68; rw [← Ny383.out] at ho68)); have n0_ := Aside0.mk (Kd.R_elder' (by (with_reducible repeat (first | apply Kd.R_alloc | apply Kd.R_drewN | apply Kd.R_drew)); exact HO_16.out) (Kd.R_base ho68) hb); have n1_ := Aside0.mk (Kd.R_lower (Kd.R_new' ho68 (Kd.R_lt (by (with_reducible repeat (first | apply Kd.R_alloc | apply Kd.R_drewN | apply Kd.R_drew)); exact HO_16.out))) (below_size (by repeat (first | (with_reducible first | exact HB.out | apply below_alloc | apply pw_below_drewN | apply below_drew1) | exact HB.out)))); have n2_ := Aside0.mk (below_step (by repeat (first | (with_reducible first | exact HB.out | apply below_alloc | apply pw_below_drewN | apply below_drew1) | exact HB.out)) hb); clear HO_16; clear HB; have HO_16 := n0_; have HO385 := n1_; have HB := n2_; clear n0_ n1_ n2_; clear hb ho68; obtain ⟨Ao69, co69, eo69⟩ := Kd.R_slice HO385.out; subst eo69) | ((with_reducible refine gate_callee (f := 29) rfl ?_); refine goesL_ (some 167) rfl rfl Try.func29 (by kernel_rfl) rfl #[.slice Ao69 y383.length co69, .int .i64 t351] rfl (by (try simp only [List.map_toArray, List.map_cons, List.map_nil]); first | done | rfl | (simp only [List.length_drop, List.length_take]; rfl)) ?_; (with_reducible refine (impl_PutEuc.calls kj15 (fun k_ => some k_ = (.slice Ao69 y383.length co69 : Value).ownBlock) _ _ y383 t351 t386 true _ ?side1 A62.out).mono ?_); (case side1 => exact Kd.R_V (Kd.R_tight rfl (HO385.out))); rintro e w70 ⟨v387, rfl, ho0, hb⟩; refine ⟨_, rfl, ?_⟩; have n0_ := Aside0.mk (Kd.R_elder' (by (with_reducible repeat (first | apply Kd.R_alloc | apply Kd.R_drewN | apply Kd.R_drew)); exact HO_16.out) (Kd.R_base ho0) hb); have n1_ := Aside0.mk (Kd.R_elder' (by (with_reducible repeat (first | apply Kd.R_alloc | apply Kd.R_drewN | apply Kd.R_drew)); exact HO385.out) (Kd.R_base ho0) hb); have n2_ := Aside0.mk (Kd.R_lower (Kd.R_new' (Kd.R_new' (Kd.R_mono (ok' := fun k_ => True) ho0 (fun _ hk_ => trivial)) (Kd.R_lt (by (with_reducible repeat (first | apply Kd.R_alloc | apply Kd.R_drewN | apply Kd.R_drew)); exact HO_16.out))) (Kd.R_lt (by (with_reducible repeat (first | apply Kd.R_alloc | apply Kd.R_drewN | apply Kd.R_drew)); exact HO385.out))) (below_size (by repeat (first | (with_reducible first | exact HB.out | apply below_alloc | apply pw_below_drewN | apply below_drew1) | exact HB.out)))); have n3_ := Aside0.mk (below_step (by repeat (first | (with_reducible first | exact HB.out | apply below_alloc | apply pw_below_drewN | apply below_drew1) | exact HB.out)) hb); clear HO_16; clear HO385; clear HB; have HO_16 := n0_; have HO385 := n1_; have HO388 := n2_; have HB := n3_; clear n0_ n1_ n2_ n3_; (try clear hb); (try clear hb2); (try clear hk); (try clear hi); (try clear ho0)))
                      have n0_ := Aside0.mk (Kd.R_drew HO_16.out)
                      have n1_ := Aside0.mk (Kd.R_drew HO385.out)
                      have n2_ := Aside0.mk (Kd.R_drew HO388.out)
                      have n3_ := Aside0.mk (below_drew1 HB.out)
                      clear HO_16
                      clear HO385
                      clear HO388
                      clear HB
                      have HO_16 := n0_
                      have HO385 := n1_
                      have HO388 := n2_
                      have HB := n3_
                      clear n0_ n1_ n2_ n3_
                      have q72 : (t352 : Int) ≤ ((t347.length : Int) : Int) := of_decide_eq_true (by first | (with_reducible assumption) | assumption)
                      obtain ⟨i072, hi072, _, hsz72, _⟩ := info_parts info5
                      have hroom72 : t347.length ≤ co20 := (Kd.R_reads' HO_16.out).2.1
                      have hC72 : Kd.C (Kd.int .u8) _ Ao20 t347.length t347 := (Kd.R_reads' HO_16.out).2.2
                      have ql72 : (t348 : Int) ≤ (t352 : Int) := of_decide_eq_true (by first | (with_reducible assumption) | assumption)
                      have q072 : (0 : Int) ≤ (t348 : Int) := of_decide_eq_true (by first | (with_reducible assumption) | assumption)
                      have hcut72 := cut_mid (P := Try.prog) 22 5 .i64 .i64 Try.underlying22 hi072 1 hsz72 Ao20 t347.length co20 t348 t352 q072 ql72 q72 hroom72
                      have hr72 := Kd.C_mid (lo := (t348 : Int).toNat) (hi := (t352 : Int).toNat) (c := co20) hC72 (by omega) (by omega) hroom72
                      obtain ⟨A72, hA72⟩ : ∃ A1, A1 = (if co20 = (t348 : Int).toNat then Ao20 else (Ao20 : Option Addr).map (·.add ((t348 : Int).toNat * 1))) := ⟨_, rfl⟩
                      obtain ⟨c72, hc72⟩ : ∃ c1, c1 = co20 - (t348 : Int).toNat := ⟨_, rfl⟩
                      have hy72 : y390.length = (t352 : Int).toNat - (t348 : Int).toNat := (by rw [Ny390.out, List.length_drop, List.length_take] <;> omega)
                      rw [show ((t347).take (t352 : Int).toNat).drop (t348 : Int).toNat = y390 from Ny390.out.symm] at hr72
                      replace hr72 : Kd.C (Kd.int .u8) _ A72 y390.length y390 := (by rw [hA72]; exact hr72)
                      rw [← hy72, ← hA72, ← hc72] at hcut72
                      have HR393 := Aside0.mk hr72
                      have HC393 := Aside0.mk (show y390.length ≤ c72 from by rw [hy72, hc72]; exact Nat.sub_le_sub_right (Nat.le_trans (by omega) hroom72) _)
                      clear hr72 hC72 hroom72 hi072 hsz72 hc72
                      have KY72 := Aside0.mk hy72
                      have KA72 := Aside0.mk hA72
                      clear hy72 hA72
                      have KL72 := Aside0.mk (show (t352 : Int).toNat ≤ t347.length from by omega)
                      have KM72 := Aside0.mk (show (t348 : Int).toNat ≤ (t352 : Int).toNat from by omega)
                      replace q72 := eq_true q72
                      refine start_ (n := 12) (S := fun w' => (convert 22 9 (v387)).run Try.prog w' = .ok (.string (strOfNums t386)) w' ∧ (convert 22 9 (.slice A72 y390.length c72)).run Try.prog w' = .ok (.string (strOfNums y390)) w') (ds := []) #[false, false, false, false, false, false, false, false, false, false, false, false] (by kernel_rfl) rfl rfl ⟨(own_string (P := Try.prog) Try.underlying22 Try.underlying5 Try.underlying9 (Kd.own_of_R HO388.out)), (Kd.C_string (P := Try.prog) (A := A72) (c := c72) Try.underlying22 Try.underlying5 Try.underlying9 (by repeat (first | (with_reducible exact HR393.out) | (with_reducible refine Kd.C_alloc ?_ _) | (with_reducible refine Kd.C_drewN ?_ _) | (with_reducible refine Kd.C_drew ?_) | exact HR393.out)))⟩ (fun hHeld => ?_); refine with_tabW laws_FnPairs.tab23 laws_FnPairs.bits23 (fun HT_ HW_ => ?_)
                      generalize w70.drew = w71 at HO_16 HO385 HO388 HB HR393 hHeld ⊢
                      refine pure_ (i := 0) (N := some 170) (v := ?_) (a' := ?_) #[true, false, false, false, false, false, false, false, false, false, false, false] rfl rfl (any_of HT_.out (by kernel_rfl)) (fun _ _ _ h => h) (Or.inl ⟨by rfl, ?_⟩) ?_ ?_
                      rotate_left
                      · intro w'
                        go_simp
                        with_reducible rfl
                      rotate_left
                      · simp only [Act.put, List.setIfInBounds_toArray, List.set_cons_zero, List.set_cons_succ, i64_w, i32_w]
                        rfl
                      refine pure_ (i := 1) (N := some 171) (v := ?_) (a' := ?_) #[true, true, false, false, false, false, false, false, false, false, false, false] rfl rfl (any_of HT_.out (by kernel_rfl)) (fun _ _ _ h => h) (Or.inl ⟨by rfl, ?_⟩) ?_ ?_
                      rotate_left
                      · intro w'
                        go_simp
                        with_reducible rfl
                      rotate_left
                      · simp only [Act.put, List.setIfInBounds_toArray, List.set_cons_zero, List.set_cons_succ, i64_w, i32_w]
                        rfl
                      refine pure_ (i := 2) (N := some 172) (v := ?_) (a' := ?_) #[true, true, true, false, false, false, false, false, false, false, false, false] rfl rfl (any_of HT_.out (by kernel_rfl)) (fun _ _ _ h => h) (Or.inl ⟨by rfl, ?_⟩) ?_ ?_
                      rotate_left
                      · intro w'
                        go_simp
                        with_reducible rfl
                      rotate_left
                      · simp only [Act.put, List.setIfInBounds_toArray, List.set_cons_zero, List.set_cons_succ, i64_w, i32_w]
                        rfl
                      refine pure_ (i := 4) (N := some 174) (v := ?_) (a' := ?_) #[true, true, true, false, true, false, false, false, false, false, false, false] rfl rfl (any_of HT_.out (by kernel_rfl)) (fun _ _ _ h => h) (Or.inl ⟨by rfl, ?_⟩) ?_ ?_
                      rotate_left
                      · intro w'
                        go_simp
                        with_reducible rfl
                      rotate_left
                      · simp only [Act.put, List.setIfInBounds_toArray, List.set_cons_zero, List.set_cons_succ, i64_w, i32_w]
                        rfl
                      refine pure_ (i := 5) (N := some 175) (v := ?_) (a' := ?_) #[true, true, true, false, true, true, false, false, false, false, false, false] rfl rfl (any_of HT_.out (by kernel_rfl)) (fun _ _ _ h => h) (Or.inl ⟨by rfl, ?_⟩) ?_ ?_
                      rotate_left
                      · intro w'
                        go_simp
                        with_reducible rfl
                      rotate_left
                      · simp only [Act.put, List.setIfInBounds_toArray, List.set_cons_zero, List.set_cons_succ, i64_w, i32_w]
                        rfl
                      refine pure_ (i := 6) (N := some 176) (v := ?_) (a' := ?_) #[true, true, true, false, true, true, true, false, false, false, false, false] rfl rfl (any_of HT_.out (by kernel_rfl)) (fun _ _ _ h => h) (Or.inl ⟨by rfl, ?_⟩) ?_ ?_
                      rotate_left
                      · intro w'
                        go_simp
                        with_reducible rfl
                      rotate_left
                      · simp only [Act.put, List.setIfInBounds_toArray, List.set_cons_zero, List.set_cons_succ, i64_w, i32_w]
                        rfl
                      refine pure_ (i := 7) (N := some 177) (v := ?_) (a' := ?_) #[true, true, true, false, true, true, true, true, false, false, false, false] rfl rfl (any_of HT_.out (by kernel_rfl)) (fun _ _ _ h => h) (Or.inl ⟨by rfl, ?_⟩) ?_ ?_
                      rotate_left
                      · intro w'
                        go_simp
                        with_reducible rfl
                      rotate_left
                      · simp only [Act.put, List.setIfInBounds_toArray, List.set_cons_zero, List.set_cons_succ, i64_w, i32_w]
                        rfl
                      refine take_ (i := 3) (N := some 173) (v := ?_) (a' := ?_) #[true, true, true, true, true, true, true, true, false, false, false, false] rfl rfl (take_ofW HT_.out HW_.out (by kernel_rfl)) (fun _ _ _ h => h) (Or.inl ⟨by rfl, ?_⟩) hHeld ?_ ?_
                      rotate_left
                      · rintro w' ⟨s0, s1⟩
                        go_simp
                        with_reducible rfl
                      rotate_left
                      · simp only [Act.put, List.setIfInBounds_toArray, List.set_cons_zero, List.set_cons_succ, i64_w, i32_w]
                        rfl
                      refine take_ (i := 8) (N := some 178) (v := ?_) (a' := ?_) #[true, true, true, true, true, true, true, true, true, false, false, false] rfl rfl (take_ofW HT_.out HW_.out (by kernel_rfl)) (fun _ _ _ h => h) (Or.inl ⟨by rfl, ?_⟩) hHeld ?_ ?_
                      rotate_left
                      · rintro w' ⟨s0, s1⟩
                        go_simp
                        with_reducible rfl
                      rotate_left
                      · simp only [Act.put, List.setIfInBounds_toArray, List.set_cons_zero, List.set_cons_succ, i64_w, i32_w]
                        rfl
                      refine pure_ (i := 9) (N := some 179) (v := ?_) (a' := ?_) #[true, true, true, true, true, true, true, true, true, true, false, false] rfl rfl (any_of HT_.out (by kernel_rfl)) (fun _ _ _ h => h) (Or.inl ⟨by rfl, ?_⟩) ?_ ?_
                      rotate_left
                      · intro w'
                        go_simp
                        with_reducible rfl
                      rotate_left
                      · simp only [Act.put, List.setIfInBounds_toArray, List.set_cons_zero, List.set_cons_succ, i64_w, i32_w]
                        rfl
                      refine pure_ (i := 10) (N := some 180) (v := ?_) (a' := ?_) #[true, true, true, true, true, true, true, true, true, true, true, false] rfl rfl (any_of HT_.out (by kernel_rfl)) (fun _ _ _ h => h) (Or.inl ⟨by rfl, ?_⟩) ?_ ?_
                      rotate_left
                      · intro w'
                        go_simp
                        with_reducible rfl
                      rotate_left
                      · simp only [Act.put, List.setIfInBounds_toArray, List.set_cons_zero, List.set_cons_succ, i64_w, i32_w]
                        rfl
                      refine pure_ (i := 11) (N := some 2) (v := ?_) (a' := ?_) #[true, true, true, true, true, true, true, true, true, true, true, true] rfl rfl (any_of HT_.out (by kernel_rfl)) (fun _ _ _ h => h) (Or.inl ⟨by rfl, ?_⟩) ?_ ?_
                      rotate_left
                      · intro w'
                        go_simp
                        with_reducible rfl
                      rotate_left
                      · simp only [Act.put, List.setIfInBounds_toArray, List.set_cons_zero, List.set_cons_succ, i64_w, i32_w]
                        rfl
                      refine done_ (done_of HT_.out (by kernel_rfl)) ?_
                      try go_wp2
                      go_ret
                      exact ⟨by first | rfl | (simp [errW_none, errW_some] <;> rfl) | (simp [*, errW_none, errW_some] <;> rfl), by repeat (first | (with_reducible first | exact HB.out | apply below_alloc | apply pw_below_drewN | apply below_drew1) | exact HB.out)⟩
                    · rw [if_neg c66] at H
                      exact absurd H (by simp)
                  · rw [if_neg c65] at H
                    exact absurd H (by simp)
                · rw [if_neg c64] at H
                  exact absurd H (by simp)
              · replace c63 := Bool.eq_false_iff.mpr c63
                subst c63
                have H1 : (some false) = some r := by rw [if_neg (show ¬ (false = true) by decide)] at H; exact H
                clear H
                have H := H1
                clear H1
                obtain rfl := Option.some.inj H
                try go_wp2_with (first | ((with_reducible refine gate_dst (N := 165) rfl ?_); refine Kd.R_lit (Kd.int .u8) _ 5 ?hg (N := 165) ?hd (xs := ([] : List Int)) (inner := []) (ok := fun _ => True) (okp := fun _ => True) ?hr ?hp (fun _ hk => hk) trivial (Below.refl _ _) (Nat.le_refl _) (by simp) ?_; (case hd => rfl); (case hg => rfl); (case hr => first | (go_simp; done) | (go_simp; rfl)); (case hp => exact (Reps.none _ _)); intro v384 w76 ho77 hb hg_ hnew_; clear hg_ hnew_; (first | rw [← Ny383.out] at ho77 | (simp only [Int.reduceToNat] at ho77; rw [← Ny383.out] at ho77)); have n0_ := Aside0.mk (Kd.R_elder' (by (with_reducible repeat (first | apply Kd.R_alloc | apply Kd.R_drewN | apply Kd.R_drew)); exact HO_16.out) (Kd.R_base ho77) hb); have n1_ := Aside0.mk (Kd.R_lower (Kd.R_new' ho77 (Kd.R_lt (by (with_reducible repeat (first | apply Kd.R_alloc | apply Kd.R_drewN | apply Kd.R_drew)); exact HO_16.out))) (below_size (by repeat (first | (with_reducible first | exact HB.out | apply below_alloc | apply pw_below_drewN | apply below_drew1) | exact HB.out)))); have n2_ := Aside0.mk (below_step (by repeat (first | (with_reducible first | exact HB.out | apply below_alloc | apply pw_below_drewN | apply below_drew1) | exact HB.out)) hb); clear HO_16; clear HB; have HO_16 := n0_; have HO385 := n1_; have HB := n2_; clear n0_ n1_ n2_; clear hb ho77; obtain ⟨Ao78, co78, eo78⟩ := Kd.R_slice HO385.out; subst eo78) | ((with_reducible refine gate_callee (f := 29) rfl ?_); refine goesL_ (some 167) rfl rfl Try.func29 (by kernel_rfl) rfl #[.slice Ao78 y383.length co78, .int .i64 t351] rfl (by (try simp only [List.map_toArray, List.map_cons, List.map_nil]); first | done | rfl | (simp only [List.length_drop, List.length_take]; rfl)) ?_; (with_reducible refine (impl_PutEuc.calls kj15 (fun k_ => some k_ = (.slice Ao78 y383.length co78 : Value).ownBlock) _ _ y383 t351 t386 false _ ?side1 A62.out).mono ?_); (case side1 => exact Kd.R_V (Kd.R_tight rfl (HO385.out))); rintro e w79 ⟨v387, rfl, ho0, hb⟩; refine ⟨_, rfl, ?_⟩; have n0_ := Aside0.mk (Kd.R_elder' (by (with_reducible repeat (first | apply Kd.R_alloc | apply Kd.R_drewN | apply Kd.R_drew)); exact HO_16.out) (Kd.R_base ho0) hb); have n1_ := Aside0.mk (Kd.R_elder' (by (with_reducible repeat (first | apply Kd.R_alloc | apply Kd.R_drewN | apply Kd.R_drew)); exact HO385.out) (Kd.R_base ho0) hb); have n2_ := Aside0.mk (Kd.R_lower (Kd.R_new' (Kd.R_new' (Kd.R_mono (ok' := fun k_ => True) ho0 (fun _ hk_ => trivial)) (Kd.R_lt (by (with_reducible repeat (first | apply Kd.R_alloc | apply Kd.R_drewN | apply Kd.R_drew)); exact HO_16.out))) (Kd.R_lt (by (with_reducible repeat (first | apply Kd.R_alloc | apply Kd.R_drewN | apply Kd.R_drew)); exact HO385.out))) (below_size (by repeat (first | (with_reducible first | exact HB.out | apply below_alloc | apply pw_below_drewN | apply below_drew1) | exact HB.out)))); have n3_ := Aside0.mk (below_step (by repeat (first | (with_reducible first | exact HB.out | apply below_alloc | apply pw_below_drewN | apply below_drew1) | exact HB.out)) hb); clear HO_16; clear HO385; clear HB; have HO_16 := n0_; have HO385 := n1_; have HO388 := n2_; have HB := n3_; clear n0_ n1_ n2_ n3_; (try clear hb); (try clear hb2); (try clear hk); (try clear hi); (try clear ho0)))
                have n0_ := Aside0.mk (Kd.R_drew HO_16.out)
                have n1_ := Aside0.mk (Kd.R_drew HO385.out)
                have n2_ := Aside0.mk (Kd.R_drew HO388.out)
                have n3_ := Aside0.mk (below_drew1 HB.out)
                clear HO_16
                clear HO385
                clear HO388
                clear HB
                have HO_16 := n0_
                have HO385 := n1_
                have HO388 := n2_
                have HB := n3_
                clear n0_ n1_ n2_ n3_
                refine start_ (n := 12) (S := fun w' => True) (ds := []) #[false, false, false, false, false, false, false, false, false, false, false, false] (by kernel_rfl) rfl rfl trivial (fun hHeld => ?_); refine with_tabW laws_FnPairs.tab23 laws_FnPairs.bits23 (fun HT_ HW_ => ?_)
                generalize w79.drew = w80 at HO_16 HO385 HO388 HB hHeld ⊢
                refine pure_ (i := 0) (N := some 170) (v := ?_) (a' := ?_) #[true, false, false, false, false, false, false, false, false, false, false, false] rfl rfl (any_of HT_.out (by kernel_rfl)) (fun _ _ _ h => h) (Or.inl ⟨by rfl, ?_⟩) ?_ ?_
                rotate_left
                · intro w'
                  go_simp
                  with_reducible rfl
                rotate_left
                · simp only [Act.put, List.setIfInBounds_toArray, List.set_cons_zero, List.set_cons_succ, i64_w, i32_w]
                  rfl
                refine pure_ (i := 1) (N := some 171) (v := ?_) (a' := ?_) #[true, true, false, false, false, false, false, false, false, false, false, false] rfl rfl (any_of HT_.out (by kernel_rfl)) (fun _ _ _ h => h) (Or.inl ⟨by rfl, ?_⟩) ?_ ?_
                rotate_left
                · intro w'
                  go_simp
                  with_reducible rfl
                rotate_left
                · simp only [Act.put, List.setIfInBounds_toArray, List.set_cons_zero, List.set_cons_succ, i64_w, i32_w]
                  rfl
                refine pure_ (i := 2) (N := some 172) (v := undef) (a' := ?_) #[true, true, true, false, false, false, false, false, false, false, false, false] rfl rfl (any_of HT_.out (by kernel_rfl)) (fun _ _ _ h => h) (Or.inr ⟨by rfl, rfl⟩) ?_ ?_
                rotate_left
                · simp only [Act.put, List.setIfInBounds_toArray, List.set_cons_zero, List.set_cons_succ, i64_w, i32_w]
                  rfl
                refine pure_ (i := 3) (N := some 173) (v := undef) (a' := ?_) #[true, true, true, true, false, false, false, false, false, false, false, false] rfl rfl (any_of HT_.out (by kernel_rfl)) (fun _ _ _ h => h) (Or.inr ⟨by rfl, rfl⟩) ?_ ?_
                rotate_left
                · simp only [Act.put, List.setIfInBounds_toArray, List.set_cons_zero, List.set_cons_succ, i64_w, i32_w]
                  rfl
                refine pure_ (i := 4) (N := some 174) (v := undef) (a' := ?_) #[true, true, true, true, true, false, false, false, false, false, false, false] rfl rfl (any_of HT_.out (by kernel_rfl)) (fun _ _ _ h => h) (Or.inr ⟨by rfl, rfl⟩) ?_ ?_
                rotate_left
                · simp only [Act.put, List.setIfInBounds_toArray, List.set_cons_zero, List.set_cons_succ, i64_w, i32_w]
                  rfl
                refine pure_ (i := 5) (N := some 175) (v := undef) (a' := ?_) #[true, true, true, true, true, true, false, false, false, false, false, false] rfl rfl (any_of HT_.out (by kernel_rfl)) (fun _ _ _ h => h) (Or.inr ⟨by rfl, rfl⟩) ?_ ?_
                rotate_left
                · simp only [Act.put, List.setIfInBounds_toArray, List.set_cons_zero, List.set_cons_succ, i64_w, i32_w]
                  rfl
                refine pure_ (i := 6) (N := some 176) (v := undef) (a' := ?_) #[true, true, true, true, true, true, true, false, false, false, false, false] rfl rfl (any_of HT_.out (by kernel_rfl)) (fun _ _ _ h => h) (Or.inr ⟨by rfl, rfl⟩) ?_ ?_
                rotate_left
                · simp only [Act.put, List.setIfInBounds_toArray, List.set_cons_zero, List.set_cons_succ, i64_w, i32_w]
                  rfl
                refine pure_ (i := 7) (N := some 177) (v := undef) (a' := ?_) #[true, true, true, true, true, true, true, true, false, false, false, false] rfl rfl (any_of HT_.out (by kernel_rfl)) (fun _ _ _ h => h) (Or.inr ⟨by rfl, rfl⟩) ?_ ?_
                rotate_left
                · simp only [Act.put, List.setIfInBounds_toArray, List.set_cons_zero, List.set_cons_succ, i64_w, i32_w]
                  rfl
                refine pure_ (i := 8) (N := some 178) (v := undef) (a' := ?_) #[true, true, true, true, true, true, true, true, true, false, false, false] rfl rfl (any_of HT_.out (by kernel_rfl)) (fun _ _ _ h => h) (Or.inr ⟨by rfl, rfl⟩) ?_ ?_
                rotate_left
                · simp only [Act.put, List.setIfInBounds_toArray, List.set_cons_zero, List.set_cons_succ, i64_w, i32_w]
                  rfl
                refine pure_ (i := 9) (N := some 179) (v := undef) (a' := ?_) #[true, true, true, true, true, true, true, true, true, true, false, false] rfl rfl (any_of HT_.out (by kernel_rfl)) (fun _ _ _ h => h) (Or.inr ⟨by rfl, rfl⟩) ?_ ?_
                rotate_left
                · simp only [Act.put, List.setIfInBounds_toArray, List.set_cons_zero, List.set_cons_succ, i64_w, i32_w]
                  rfl
                refine pure_ (i := 10) (N := some 180) (v := ?_) (a' := ?_) #[true, true, true, true, true, true, true, true, true, true, true, false] rfl rfl (any_of HT_.out (by kernel_rfl)) (fun _ _ _ h => h) (Or.inl ⟨by rfl, ?_⟩) ?_ ?_
                rotate_left
                · intro w'
                  go_simp
                  with_reducible rfl
                rotate_left
                · simp only [Act.put, List.setIfInBounds_toArray, List.set_cons_zero, List.set_cons_succ, i64_w, i32_w]
                  rfl
                refine pure_ (i := 11) (N := some 2) (v := ?_) (a' := ?_) #[true, true, true, true, true, true, true, true, true, true, true, true] rfl rfl (any_of HT_.out (by kernel_rfl)) (fun _ _ _ h => h) (Or.inl ⟨by rfl, ?_⟩) ?_ ?_
                rotate_left
                · intro w'
                  go_simp
                  with_reducible rfl
                rotate_left
                · simp only [Act.put, List.setIfInBounds_toArray, List.set_cons_zero, List.set_cons_succ, i64_w, i32_w]
                  rfl
                refine done_ (done_of HT_.out (by kernel_rfl)) ?_
                try go_wp2
                go_ret
                exact ⟨by first | rfl | (simp [errW_none, errW_some] <;> rfl) | (simp [*, errW_none, errW_some] <;> rfl), by repeat (first | (with_reducible first | exact HB.out | apply below_alloc | apply pw_below_drewN | apply below_drew1) | exact HB.out)⟩
            · replace c61 := Bool.eq_false_iff.mpr c61
              subst c61
              have H1 : (some true) = some r := by rw [if_neg (show ¬ (false = true) by decide)] at H; exact H
              clear H
              have H := H1
              clear H1
              obtain rfl := Option.some.inj H
              go_wp2
              go_ret
              exact ⟨by first | rfl | (simp [errW_none, errW_some] <;> rfl) | (simp [*, errW_none, errW_some] <;> rfl), by repeat (first | (with_reducible first | exact HB.out | apply below_alloc | apply pw_below_drewN | apply below_drew1) | exact HB.out)⟩

/-- THE ONE PURE STATEMENT of laws_FnPairs: yours. -/
def laws_FnPairs.Pure : Prop := ∀ (l0 : List Int), l0.length ≤ maxLen → l0.length * 1 ≤ 140737488351232 → (∀ x ∈ l0, (Lit.int .u8 x).wf = true) → ∃ k, laws_FnPairs.f k l0 = some true
theorem laws_FnPairs.walk (P : laws_FnPairs.Pure) (a0 : Option Addr) (len0 cap0 : Nat) (z0 : List Int) (w : World) (w0 : (a0 = none ∧ len0 = 0 ∧ cap0 = 0 ∧ z0 = []) ∨ ∃ x, a0 = some x ∧ len0 ≤ cap0 ∧ cap0 ≤ maxLen ∧ z0.length = cap0 ∧ (∀ i, i < z0.length → w.cell? (x.add i) = some (.int .u8 (z0.getD i 0))) ∧ ∀ n ∈ z0, (Lit.int .u8 n).wf = true) (y0 : len0 * 1 ≤ 140737488351232) :
    Calls Try.prog 6 #[.slice a0 len0 cap0] w fun e w' => e = .returned (.bool true) ∧ Below w.heap.size w w' := by
  obtain ⟨l0, rfl, hr0, hm0, hw0, hc0⟩ := ReadsInt.ofRowC w0
  obtain ⟨k, h⟩ := P l0 hm0 y0 hw0
  refine (laws_FnPairs.calls k _ _ l0 true w (Kd.C_of_reads (d := (0 : Int)) (h1 := fun _ => rfl) hr0) hc0 h).mono ?_
  rintro e w' ⟨rfl, hd⟩
  exact ⟨rfl, hd⟩

end Go.Proofs.Ytnmncgbegiegfaa.QFnPairs
