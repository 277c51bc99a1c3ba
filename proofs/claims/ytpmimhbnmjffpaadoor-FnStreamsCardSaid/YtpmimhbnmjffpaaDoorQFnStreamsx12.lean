/- The functions that a law reaches, each as a plain function, and that Go comes to just its answer: written by the session's program pp.py (the kit's print, with a few rows turned). -/
import Derived.Test.YtpmimhbnmjffpaaDoorQFnStreamsx0
import Derived.Test.YtpmimhbnmjffpaaDoorQFnStreamsx1
import Derived.Test.YtpmimhbnmjffpaaDoorQFnStreamsx4
import Derived.Test.YtpmimhbnmjffpaaDoorQFnStreamsx5
import Derived.Test.YtpmimhbnmjffpaaDoorQFnStreamsx9
import Derived.Test.YtpmimhbnmjffpaaDoorQFnStreamsx11
namespace Go.Proofs.YtpmimhbnmjffpaaDoor.QFnStreams
open Go.RowKit Go.Proofs.YtpmimhbnmjffpaaDoorW.PrintWords Go.Proofs.YtpmimhbnmjffpaaDoorW.PrintLast Go.Proofs.YtpmimhbnmjffpaaDoorW.PrintMore Go.Proofs.YtpmimhbnmjffpaaDoor.Xw Go.Proofs.YtpmimhbnmjffpaaDoor.Xs Go.Proofs.YtpmimhbnmjffpaaDoor.Ext
attribute [local go_sem] max2_int min2_int max_two min_two max_three min_three max_four min_four   -- for this text's walks alone
set_option linter.unusedVariables false
set_option linter.unusedSimpArgs false

/-! ### laws_FnStreams: function 10 -/
def laws_FnStreams.f (k : Nat) (l0 : List Int) : Option (Bool) := (laws_big.f l0).bind fun t585 => (if t585 = true then (some true) else ((spec_DrawDecode.f k l0).bind fun bt586 => ((impl_Decode.f k bt586.1 bt586.2).bind fun bt590 => ((laws_at.f l0 2).bind fun t592 => (if (wrap64 ((bt586.2.length : Int) + 1)) = 0 then (none) else ((impl_DecNew.f bt586.1).bind fun bt593 => ((impl_DecOk.f bt593.1 bt593.2.1 bt593.2.2).bind fun t599 => ((spec_DecNew.f bt586.1).bind fun bt600 => ((spec_DecOk.f k bt600.1 bt600.2.1 bt600.2.2).bind fun t605 => (if (t599 != t605) = true then (some false) else ((impl_DecOk.f bt593.1 bt593.2.1 bt593.2.2).bind fun t606 => (if t606 = true then (if 0 ≤ (Int.tmod t592 (wrap64 ((bt586.2.length : Int) + 1))) then (if (Int.tmod t592 (wrap64 ((bt586.2.length : Int) + 1))) ≤ (bt586.2.length : Int) then ((impl_Feed.f k bt593.1 bt593.2.1 bt593.2.2 (bt586.2.take ((Int.tmod t592 (wrap64 ((bt586.2.length : Int) + 1))) : Int).toNat)).bind fun bt611 => ((impl_Feed.f k bt611.1 bt611.2.1 bt611.2.2.1 (bt586.2.drop ((Int.tmod t592 (wrap64 ((bt586.2.length : Int) + 1))) : Int).toNat)).bind fun bt622 => ((impl_Feed.f k bt593.1 bt593.2.1 bt593.2.2 bt586.2).bind fun bt629 => ((impl_DecOk.f bt611.1 bt611.2.1 bt611.2.2.1).bind fun t636 => (if t636 = true then ((impl_DecOk.f bt622.1 bt622.2.1 bt622.2.2.1).bind fun t637 => (if t637 = true then (if bt611.2.2.2.size + bt622.2.2.2.size ≤ 9223372036854775807 then (if (bt611.2.2.2 ++ bt622.2.2.2).toList = bt629.2.2.2.toList then (if (bt622.2.2.1 != bt629.2.2.1) = true then (some false) else (if (strOfNums bt622.2.1).toList = (strOfNums bt629.2.1).toList then ((impl_DecEnd.f bt622.1 bt622.2.1 bt622.2.2.1).bind fun t638 => (if (t638 == bt590.2) = true then (if bt590.2 = true then (some (bt629.2.2.2.toList == bt590.1.toList)) else (some true)) else (some false))) else (some false))) else (some false)) else (none)) else (some false))) else (some false)))))) else (none)) else (none)) else (some (!bt590.2))))))))))))))
theorem laws_FnStreams.mono : ∀ a0 k, LeO (laws_FnStreams.f k a0) (laws_FnStreams.f (k + 1) a0) := by
 intro a0 k
 unfold laws_FnStreams.f
 repeat' first
   | (with_reducible exact impl_Decode.mono _ _ _)
   | (with_reducible exact impl_Feed.mono _ _ _ _ _)
   | (with_reducible exact spec_DecOk.mono _ _ _ _)
   | (with_reducible exact spec_DrawDecode.mono _ _)
   | (with_reducible exact LeO.refl _)
   | (with_reducible exact LeO.none _)
   | (with_reducible refine LeO.ite ?_ ?_)
   | (with_reducible refine LeO.bind ?_ (fun _ => ?_))
   | exact impl_Decode.mono _ _ _
   | exact impl_Feed.mono _ _ _ _ _
   | exact spec_DecOk.mono _ _ _ _
   | exact spec_DrawDecode.mono _ _
   | exact LeO.none _
   | refine LeO.ite ?_ ?_
   | refine LeO.bind ?_ (fun _ => ?_)
def laws_FnStreams.T11 : Bool × List (List Nat × List Nat) := (true, [([], []), ([], []), ([], []), ([1, 2], [1, 2]), ([0, 3], [0, 3]), ([4], [4]), ([5], [5]), ([5], [5]), ([], []), ([8, 6, 4, 0, 1, 2, 3, 4, 5, 6, 8], [6, 8]), ([7, 9, 0, 1, 2, 3, 4, 5, 6, 7, 8, 9], [7])])
def laws_FnStreams.B11 : List Nat := [0, 0, 0, 6, 15, 31, 63, 63, 0, 383, 1023]
theorem laws_FnStreams.tab11 : rtab .any (opsOf Tryd.f10 11) = laws_FnStreams.T11 := by kernel_rfl
theorem laws_FnStreams.bits11 : waitsOk laws_FnStreams.T11.2 laws_FnStreams.B11 = true := by kernel_rfl
def laws_FnStreams.T12 : Bool × List (List Nat × List Nat) := (true, [([], []), ([], []), ([], []), ([1, 2], [1, 2]), ([0, 3], [0, 3]), ([4], [4]), ([5], [5]), ([5], [5]), ([], []), ([8, 6, 4, 0, 1, 2, 3, 4, 5, 6, 8], [6, 8]), ([7, 9, 0, 1, 2, 3, 4, 5, 6, 7, 8, 9], [7])])
def laws_FnStreams.B12 : List Nat := [0, 0, 0, 6, 15, 31, 63, 63, 0, 383, 1023]
theorem laws_FnStreams.tab12 : rtab .any (opsOf Tryd.f10 12) = laws_FnStreams.T12 := by kernel_rfl
theorem laws_FnStreams.bits12 : waitsOk laws_FnStreams.T12.2 laws_FnStreams.B12 = true := by kernel_rfl
set_option maxHeartbeats 8000000 in
set_option maxRecDepth 100000 in
theorem laws_FnStreams.calls (k : Nat) (A0 : Option Addr) (c0 : Nat) (l0 : List Int) (r : Bool) (w : World) (hT : TabsOk w) (hr0 : Kd.C (Kd.int .u8) w A0 l0.length l0) (hc0 : l0.length ≤ c0) (h : laws_FnStreams.f k l0 = some r) (hr_ : r = true) :
  Calls Tryd.prog 10 #[.slice A0 l0.length c0] w fun e w' => e = .returned (.bool r) ∧ Below w.heap.size w w' := by
 have HT := Aside0.mk hT
 clear hT
 have hu46 := Tryd.underlying46
 have HR0 := Aside0.mk hr0
 have HC0 := Aside0.mk hc0
 clear hr0 hc0
 have HB := Aside0.mk (Below.refl w.heap.size w)
 have H : ((laws_big.f l0).bind fun t585 => (if t585 = true then (some true) else ((spec_DrawDecode.f k l0).bind fun bt586 => ((impl_Decode.f k bt586.1 bt586.2).bind fun bt590 => ((laws_at.f l0 2).bind fun t592 => (if (wrap64 ((bt586.2.length : Int) + 1)) = 0 then (none) else ((impl_DecNew.f bt586.1).bind fun bt593 => ((impl_DecOk.f bt593.1 bt593.2.1 bt593.2.2).bind fun t599 => ((spec_DecNew.f bt586.1).bind fun bt600 => ((spec_DecOk.f k bt600.1 bt600.2.1 bt600.2.2).bind fun t605 => (if (t599 != t605) = true then (some false) else ((impl_DecOk.f bt593.1 bt593.2.1 bt593.2.2).bind fun t606 => (if t606 = true then (if 0 ≤ (Int.tmod t592 (wrap64 ((bt586.2.length : Int) + 1))) then (if (Int.tmod t592 (wrap64 ((bt586.2.length : Int) + 1))) ≤ (bt586.2.length : Int) then ((impl_Feed.f k bt593.1 bt593.2.1 bt593.2.2 (bt586.2.take ((Int.tmod t592 (wrap64 ((bt586.2.length : Int) + 1))) : Int).toNat)).bind fun bt611 => ((impl_Feed.f k bt611.1 bt611.2.1 bt611.2.2.1 (bt586.2.drop ((Int.tmod t592 (wrap64 ((bt586.2.length : Int) + 1))) : Int).toNat)).bind fun bt622 => ((impl_Feed.f k bt593.1 bt593.2.1 bt593.2.2 bt586.2).bind fun bt629 => ((impl_DecOk.f bt611.1 bt611.2.1 bt611.2.2.1).bind fun t636 => (if t636 = true then ((impl_DecOk.f bt622.1 bt622.2.1 bt622.2.2.1).bind fun t637 => (if t637 = true then (if bt611.2.2.2.size + bt622.2.2.2.size ≤ 9223372036854775807 then (if (bt611.2.2.2 ++ bt622.2.2.2).toList = bt629.2.2.2.toList then (if (bt622.2.2.1 != bt629.2.2.1) = true then (some false) else (if (strOfNums bt622.2.1).toList = (strOfNums bt629.2.1).toList then ((impl_DecEnd.f bt622.1 bt622.2.1 bt622.2.2.1).bind fun t638 => (if (t638 == bt590.2) = true then (if bt590.2 = true then (some (bt629.2.2.2.toList == bt590.1.toList)) else (some true)) else (some false))) else (some false))) else (some false)) else (none)) else (some false))) else (some false)))))) else (none)) else (none)) else (some (!bt590.2))))))))))))))) = some r := h
 clear h
 replace H := Option.bind_eq_some_iff.mp H
 obtain ⟨t585, A20, H⟩ := H
 try dsimp only at H
 have A2 := Aside0.mk A20
 clear A20
 by_cases c3 : t585 = true
 ·subst c3
  rw [if_pos rfl] at H
  obtain rfl := Option.some.inj H
  clear hr_
  go_enter Tryd.func10, Tryd.ntmps10
  go_wp2_with (first | ((with_reducible refine gate_callee (f := 42) rfl ?_); refine goesL_ (some 16) rfl rfl Tryd.func42 (by kernel_rfl) rfl #[.slice A0 l0.length c0] rfl ka_ ?_; (with_reducible refine (laws_big.calls _ _ l0 true _ ?side1 ?side2 A2.out).mono ?_); (case side1 => repeat (first | exact HR0.out | (with_reducible refine Kd.C_alloc ?_ _) | (with_reducible refine Kd.C_drewN ?_ _) | (with_reducible refine Kd.C_drew ?_))); (case side2 => exact HC0.out); rintro e w' ⟨rfl, ⟨nd, rfl⟩⟩; refine ⟨_, rfl, ?_⟩))
  go_ret
  exact ⟨rf_, hb_⟩
 ·replace c3 := Bool.eq_false_iff.mpr c3
  subst c3
  rw [if_neg (show ¬ (false = true) by decide)] at H
  replace H := Option.bind_eq_some_iff.mp H
  obtain ⟨⟨t586, t587⟩, A40, H⟩ := H
  try dsimp only at H
  have A4 := Aside0.mk A40
  clear A40
  replace H := Option.bind_eq_some_iff.mp H
  obtain ⟨⟨t590, t591⟩, A50, H⟩ := H
  try dsimp only at H
  have A5 := Aside0.mk A50
  clear A50
  replace H := Option.bind_eq_some_iff.mp H
  obtain ⟨t592, A60, H⟩ := H
  try dsimp only at H
  have A6 := Aside0.mk A60
  clear A60
  by_cases c7 : (wrap64 ((t587.length : Int) + 1)) = 0
  ·rw [if_pos c7] at H
   exact absurd H (by simp)
  ·rw [if_neg c7] at H
   have c7b0 : ((wrap64 ((t587.length : Int) + 1)) == 0) = false := beq_eq_false_iff_ne.mpr c7
   have c7b1 : ((wrap64 ((t587.length : Int) + 1)) != 0) = true := bne_iff_ne.mpr c7
   replace H := Option.bind_eq_some_iff.mp H
   obtain ⟨⟨t593, t594, t597⟩, A80, H⟩ := H
   try dsimp only at H
   have A8 := Aside0.mk A80
   clear A80
   replace H := Option.bind_eq_some_iff.mp H
   obtain ⟨t599, A90, H⟩ := H
   try dsimp only at H
   have A9 := Aside0.mk A90
   clear A90
   replace H := Option.bind_eq_some_iff.mp H
   obtain ⟨⟨t600, t601, t604⟩, A100, H⟩ := H
   try dsimp only at H
   have A10 := Aside0.mk A100
   clear A100
   replace H := Option.bind_eq_some_iff.mp H
   obtain ⟨t605, A110, H⟩ := H
   try dsimp only at H
   have A11 := Aside0.mk A110
   clear A110
   by_cases c12 : (t599 != t605) = true
   ·rw [if_pos c12] at H
    have c12b0 : (t599 != t605) = true := c12
    (try (have c12b1 : decide (t599 = t605) = false := by simpa using c12))
    (try (have c12b2 : (t599 == t605) = false := by simpa using c12))
    (try (have c12b3 : ¬ (t599 = t605) := by simpa using c12))
    clear c12
    obtain rfl := Option.some.inj H
    cases hr_
   ·rw [if_neg c12] at H
    have c12b0 : (t599 != t605) = false := by simpa using c12
    (try (have c12b1 : decide (t599 = t605) = true := by simpa using c12))
    (try (have c12b2 : (t599 == t605) = true := by simpa using c12))
    clear c12
    replace H := Option.bind_eq_some_iff.mp H
    obtain ⟨t606, A240, H⟩ := H
    try dsimp only at H
    have A24 := Aside0.mk A240
    clear A240
    by_cases c25 : t606 = true
    ·subst c25
     rw [if_pos rfl] at H
     obtain ⟨ji26, hji26⟩ : ∃ j_ : Int, (Int.tmod t592 (wrap64 ((t587.length : Int) + 1))) = j_ := ⟨_, rfl⟩
     replace H : (if 0 ≤ (ji26) then (if (ji26) ≤ (t587.length : Int) then ((impl_Feed.f k t593 t594 t597 (t587.take ((ji26) : Int).toNat)).bind fun bt611 => ((impl_Feed.f k bt611.1 bt611.2.1 bt611.2.2.1 (t587.drop ((ji26) : Int).toNat)).bind fun bt622 => ((impl_Feed.f k t593 t594 t597 t587).bind fun bt629 => ((impl_DecOk.f bt611.1 bt611.2.1 bt611.2.2.1).bind fun t636 => (if t636 = true then ((impl_DecOk.f bt622.1 bt622.2.1 bt622.2.2.1).bind fun t637 => (if t637 = true then (if bt611.2.2.2.size + bt622.2.2.2.size ≤ 9223372036854775807 then (if (bt611.2.2.2 ++ bt622.2.2.2).toList = bt629.2.2.2.toList then (if (bt622.2.2.1 != bt629.2.2.1) = true then (some false) else (if (strOfNums bt622.2.1).toList = (strOfNums bt629.2.1).toList then ((impl_DecEnd.f bt622.1 bt622.2.1 bt622.2.2.1).bind fun t638 => (if (t638 == t591) = true then (if t591 = true then (some (bt629.2.2.2.toList == t590.toList)) else (some true)) else (some false))) else (some false))) else (some false)) else (none)) else (some false))) else (some false)))))) else (none)) else (none)) = some r := by first | (rw [hji26] at H; exact H) | (simp only [hji26] at H ⊢; exact H)
     (try rw [hji26] at A2)
     (try rw [hji26] at A4)
     (try rw [hji26] at A5)
     (try rw [hji26] at A6)
     (try rw [hji26] at A8)
     (try rw [hji26] at A9)
     (try rw [hji26] at A10)
     (try rw [hji26] at A11)
     (try rw [hji26] at A24)
     by_cases c27 : 0 ≤ (ji26)
     ·rw [if_pos c27] at H
      have c27b0 := eq_true c27
      have c27b1 : decide (0 ≤ (ji26)) = true := decide_eq_true c27
      clear c27
      by_cases c28 : (ji26) ≤ (t587.length : Int)
      ·rw [if_pos c28] at H
       have c28b0 := eq_true c28
       have c28b1 : decide ((ji26) ≤ (t587.length : Int)) = true := decide_eq_true c28
       clear c28
       obtain ⟨y607, hy607⟩ : ∃ y_ : List Int, y_ = (t587.take ((ji26) : Int).toNat) := ⟨_, rfl⟩
       replace H : ((impl_Feed.f k t593 t594 t597 y607).bind fun bt611 => ((impl_Feed.f k bt611.1 bt611.2.1 bt611.2.2.1 (t587.drop ((ji26) : Int).toNat)).bind fun bt622 => ((impl_Feed.f k t593 t594 t597 t587).bind fun bt629 => ((impl_DecOk.f bt611.1 bt611.2.1 bt611.2.2.1).bind fun t636 => (if t636 = true then ((impl_DecOk.f bt622.1 bt622.2.1 bt622.2.2.1).bind fun t637 => (if t637 = true then (if bt611.2.2.2.size + bt622.2.2.2.size ≤ 9223372036854775807 then (if (bt611.2.2.2 ++ bt622.2.2.2).toList = bt629.2.2.2.toList then (if (bt622.2.2.1 != bt629.2.2.1) = true then (some false) else (if (strOfNums bt622.2.1).toList = (strOfNums bt629.2.1).toList then ((impl_DecEnd.f bt622.1 bt622.2.1 bt622.2.2.1).bind fun t638 => (if (t638 == t591) = true then (if t591 = true then (some (bt629.2.2.2.toList == t590.toList)) else (some true)) else (some false))) else (some false))) else (some false)) else (none)) else (some false))) else (some false)))))) = some r := by first | (rw [hy607]; with_reducible exact H) | (have H2_ := (Option.bind_some _ _).symm.trans H; rw [hy607]; with_reducible exact H2_) | (have H2_ := (Option.bind_some _ _).symm.trans H; with_reducible exact H2_) | with_reducible exact H | (rw [hy607]; exact H) | exact H
       have Ny607 := Aside0.mk hy607
       clear hy607
       replace H := Option.bind_eq_some_iff.mp H
       obtain ⟨⟨t611, t612, t615, t616⟩, A290, H⟩ := H
       try dsimp only at H
       have A29 := Aside0.mk A290
       clear A290
       have c30b0 := eq_true (of_decide_eq_true as_ : 0 ≤ (ji26))
       have c31b0 := eq_true (of_decide_eq_true as_ : (ji26) ≤ (t587.length : Int))
       obtain ⟨y618, hy618⟩ : ∃ y_ : List Int, y_ = (t587.drop ((ji26) : Int).toNat) := ⟨_, rfl⟩
       replace H : ((impl_Feed.f k t611 t612 t615 y618).bind fun bt622 => ((impl_Feed.f k t593 t594 t597 t587).bind fun bt629 => ((impl_DecOk.f t611 t612 t615).bind fun t636 => (if t636 = true then ((impl_DecOk.f bt622.1 bt622.2.1 bt622.2.2.1).bind fun t637 => (if t637 = true then (if t616.size + bt622.2.2.2.size ≤ 9223372036854775807 then (if (t616 ++ bt622.2.2.2).toList = bt629.2.2.2.toList then (if (bt622.2.2.1 != bt629.2.2.1) = true then (some false) else (if (strOfNums bt622.2.1).toList = (strOfNums bt629.2.1).toList then ((impl_DecEnd.f bt622.1 bt622.2.1 bt622.2.2.1).bind fun t638 => (if (t638 == t591) = true then (if t591 = true then (some (bt629.2.2.2.toList == t590.toList)) else (some true)) else (some false))) else (some false))) else (some false)) else (none)) else (some false))) else (some false))))) = some r := by first | (rw [hy618]; with_reducible exact H) | (have H2_ := (Option.bind_some _ _).symm.trans H; rw [hy618]; with_reducible exact H2_) | (have H2_ := (Option.bind_some _ _).symm.trans H; with_reducible exact H2_) | with_reducible exact H | (rw [hy618]; exact H) | exact H
       have Ny618 := Aside0.mk hy618
       clear hy618
       replace H := Option.bind_eq_some_iff.mp H
       obtain ⟨⟨t622, t623, t626, t627⟩, A320, H⟩ := H
       try dsimp only at H
       have A32 := Aside0.mk A320
       clear A320
       replace H := Option.bind_eq_some_iff.mp H
       obtain ⟨⟨t629, t630, t633, t634⟩, A330, H⟩ := H
       try dsimp only at H
       have A33 := Aside0.mk A330
       clear A330
       replace H := Option.bind_eq_some_iff.mp H
       obtain ⟨t636, A340, H⟩ := H
       try dsimp only at H
       have A34 := Aside0.mk A340
       clear A340
       by_cases c35 : t636 = true
       ·subst c35
        rw [if_pos rfl] at H
        replace H := Option.bind_eq_some_iff.mp H
        obtain ⟨t637, A360, H⟩ := H
        try dsimp only at H
        have A36 := Aside0.mk A360
        clear A360
        by_cases c37 : t637 = true
        ·subst c37
         rw [if_pos rfl] at H
         by_cases c38 : t616.size + t627.size ≤ 9223372036854775807
         ·rw [if_pos c38] at H
          have c38b0 := eq_true c38
          have c38b1 : decide (t616.size + t627.size ≤ 9223372036854775807) = true := decide_eq_true c38
          try have c38b2 : (9223372036854775807 < t616.size + t627.size) = False := eq_false (Nat.not_lt.2 c38)
          by_cases c39 : (t616 ++ t627).toList = t634.toList
          ·rw [if_pos c39] at H
           have c39b0 : ((t616 ++ t627).toList == t634.toList) = true := beq_iff_eq.mpr c39
           have c39b1 : ((t616 ++ t627).toList != t634.toList) = false := bne_eq_false_iff_eq.mpr c39
           clear c39
           by_cases c40 : (t626 != t633) = true
           ·rw [if_pos c40] at H
            have c40b0 : (t626 != t633) = true := c40
            (try (have c40b1 : decide (t626 = t633) = false := by simpa using c40))
            (try (have c40b2 : (t626 == t633) = false := by simpa using c40))
            (try (have c40b3 : ¬ (t626 = t633) := by simpa using c40))
            clear c40
            obtain rfl := Option.some.inj H
            cases hr_
           ·rw [if_neg c40] at H
            have c40b0 : (t626 != t633) = false := by simpa using c40
            (try (have c40b1 : decide (t626 = t633) = true := by simpa using c40))
            (try (have c40b2 : (t626 == t633) = true := by simpa using c40))
            clear c40
            by_cases c91 : (strOfNums t623).toList = (strOfNums t630).toList
            ·rw [if_pos c91] at H
             have c91b0 : ((strOfNums t623).toList == (strOfNums t630).toList) = true := beq_iff_eq.mpr c91
             have c91b1 : ((strOfNums t623).toList != (strOfNums t630).toList) = false := bne_eq_false_iff_eq.mpr c91
             clear c91
             replace H := Option.bind_eq_some_iff.mp H
             obtain ⟨t638, A920, H⟩ := H
             try dsimp only at H
             have A92 := Aside0.mk A920
             clear A920
             by_cases c93 : (t638 == t591) = true
             ·rw [if_pos c93] at H
              have c93b0 : (t638 == t591) = true := c93
              (try (have c93b1 : decide (t638 = t591) = true := by simpa using c93))
              (try (have c93b2 : (t638 == t591) = true := by simpa using c93))
              clear c93
              by_cases c94 : t591 = true
              subst c94
              rw [if_pos rfl] at H
              obtain rfl := Option.some.inj H
              clear hr_
              rotate_left
              replace c94 := Bool.eq_false_iff.mpr c94
              subst c94
              rw [if_neg (show ¬ (false = true) by decide)] at H
              obtain rfl := Option.some.inj H
              clear hr_
              all_goals
               go_enter Tryd.func10, Tryd.ntmps10
               try go_wp2_with (first | ((with_reducible refine gate_callee (f := 42) rfl ?_); refine goesL_ (some 16) rfl rfl Tryd.func42 (by kernel_rfl) rfl #[.slice A0 l0.length c0] rfl ka_ ?_; (with_reducible refine (laws_big.calls _ _ l0 false _ ?side1 ?side2 A2.out).mono ?_); (case side1 => repeat (first | exact HR0.out | (with_reducible refine Kd.C_alloc ?_ _) | (with_reducible refine Kd.C_drewN ?_ _) | (with_reducible refine Kd.C_drew ?_))); (case side2 => exact HC0.out); rintro e w' ⟨rfl, ⟨nd, rfl⟩⟩; refine ⟨_, rfl, ?_⟩) | ((with_reducible refine gate_callee (f := 43) rfl ?_); refine goesL_ (some 19) rfl rfl Tryd.func43 (by kernel_rfl) rfl #[.slice A0 l0.length c0] rfl ka_ ?_; (with_reducible refine (spec_DrawDecode.calls k _ _ l0 t586 t587 _ ?side1 ?side2 A4.out).mono ?_); (case side1 => repeat (first | exact HR0.out | (with_reducible refine Kd.C_alloc ?_ _) | (with_reducible refine Kd.C_drewN ?_ _) | (with_reducible refine Kd.C_drew ?_))); (case side2 => exact HC0.out); rintro e w95 ⟨v588, rfl, ho0, hb⟩; refine ⟨_, rfl, ?_⟩; have n0_ := Aside0.mk (Kd.R_lower ho0 (below_size hb_)); have n1_ := Aside0.mk (below_step hb_ hb); clear HB; have HO589 := n0_; have HB := n1_; clear n0_ n1_; try clear hb; (try clear ho0); obtain ⟨Ao96, co96, eo96⟩ := Kd.R_slice HO589.out; subst eo96) | ((with_reducible refine gate_callee (f := 44) rfl ?_); refine goesL_ (some 25) rfl rfl Tryd.func44 (by kernel_rfl) rfl #[.int .i64 t586, .slice Ao96 t587.length co96] rfl ka_ ?_; (with_reducible refine (impl_Decode.calls (hT := ?sideT) k t586 _ _ t587 t590 _ _ ?side1 ?side2 A5.out).mono ?_); (case sideT => first | exact HT.out | exact HT.out.below hs_ | exact HT.out.drawn (by repeat (first | exact Drawn0.refl _ | apply Drawn0.step | assumption))); (case side1 => exact kc_ (Kd.R_reads' HO589.out).2.2); (case side2 => exact (Kd.R_reads' HO589.out).2.1); rintro e w97 ⟨rfl, hb⟩; refine ⟨_, rfl, ?_⟩; have n0_ := Aside0.mk (Kd.R_below (kr_ HO589) hb); have n1_ := Aside0.mk (below_step hb_ hb); clear HO589; clear HB; have HO589 := n0_; have HB := n1_; clear n0_ n1_; try clear hb) | ((with_reducible refine gate_callee (f := 45) rfl ?_); refine goesL_ (some 29) rfl rfl Tryd.func45 (by kernel_rfl) rfl #[.slice A0 l0.length c0, .int .i64 2] rfl ka_ ?_; (with_reducible refine (laws_at.calls _ _ l0 2 t592 _ ?side1 ?side2 A6.out).mono ?_); (case side1 => repeat (first | exact (Kd.C_below HR0.out HB.out) | (with_reducible refine Kd.C_alloc ?_ _) | (with_reducible refine Kd.C_drewN ?_ _) | (with_reducible refine Kd.C_drew ?_))); (case side2 => exact HC0.out); rintro e w' ⟨rfl, ⟨nd, rfl⟩⟩; refine ⟨_, rfl, ?_⟩; (try (rw [drewN_self w97]; generalize hq_ : World.drewN w97 _ = w97; have n0_ : Aside0 (Kd.R (Kd.int .u8) 5 w97 w.heap.size (fun _ => True) (.slice Ao96 t587.length co96) t587) := ⟨by rw [← hq_]; exact (kr_ HO589)⟩; have n1_ : Aside0 (Below w.heap.size w w97) := ⟨by rw [← hq_]; exact hb_⟩; clear HO589 HB hq_; have HO589 := n0_; have HB := n1_; clear n0_ n1_))) | ((with_reducible refine gate_callee (f := 46) rfl ?_); refine goesL_ (some 35) rfl rfl Tryd.func46 (by kernel_rfl) rfl #[.int .i64 t586] rfl ka_ ?_; (with_reducible refine (impl_DecNew.calls t586 t593 t594 t597 _ A8.out).mono ?_); rintro e w98 ⟨v595, rfl, ho0, hb⟩; refine ⟨_, rfl, ?_⟩; have n0_ := Aside0.mk (Kd.R_elder' (kr_ HO589) (Kd.R_base ho0) hb); have n1_ := Aside0.mk (Kd.R_lower (Kd.R_new' ho0 (Kd.R_lt (kr_ HO589))) (below_size hb_)); have n2_ := Aside0.mk (below_step hb_ hb); clear HO589; clear HB; have HO589 := n0_; have HO596 := n1_; have HB := n2_; clear n0_ n1_ n2_; try clear hb; (try clear ho0)) | ((with_reducible refine gate_dst (N := 8) rfl ?_); refine box_event ?hg (N := 8) ?hd (cs := #[.int .i64 0, .slice none 0 0, .bool false]) (t := 46) ?hr ?_; (case hd => rfl); (case hg => rfl); (case hr => first | (go_simp; done) | (go_simp; rfl)); intro gb598 hg w99 hbox hb; have n0_ := Aside0.mk (Kd.R_below (kr_ HO589) hb); have n1_ := Aside0.mk (Kd.R_below (kr_ HO596) hb); have n2_ := Aside0.mk (below_step hb_ hb); have n3_ := Aside0.mk (hbox); have n4_ := Aside0.mk ((by rw [hg]; exact (below_size hb_) : w.heap.size ≤ gb598)); have n5_ := Aside0.mk ((by rw [hg]; exact (below_size hb_) : w.heap.size ≤ gb598)); clear HO589; clear HO596; clear HB; have HO589 := n0_; have HO596 := n1_; have HB := n2_; have BK598 := n3_; have GW598 := n4_; have GE598 := n5_; clear n0_ n1_ n2_ n3_ n4_ n5_; clear hb hbox hg; have hcz100_0 : w99.cell? ⟨gb598, 0, none⟩ = some (.int .i64 0) := (blk_cell BK598.out 0).trans rfl; have hcz100_1 : w99.cell? ⟨gb598, 1, none⟩ = some (.slice none 0 0) := (blk_cell BK598.out 1).trans rfl; have hcz100_2 : w99.cell? ⟨gb598, 2, none⟩ = some (.bool false) := (blk_cell BK598.out 2).trans rfl; have hfz100_0 := blk_frozen BK598.out 0; have hfz100_1 := blk_frozen BK598.out 1; have hfz100_2 := blk_frozen BK598.out 2; obtain ⟨Ao101, co101, eo101⟩ := Kd.R_slice HO596.out; subst eo101) | ((with_reducible refine gate_callee (f := 47) rfl ?_); refine goesL_ (some 37) rfl rfl Tryd.func47 (by kernel_rfl) rfl #[.agg #[.int .i64 t593, .slice Ao101 t594.length co101, .bool t597]] rfl ka_ ?_; (with_reducible refine (impl_DecOk.calls (hT := ?sideT) t593 _ _ t594 t597 t599 _ ?side1 ?side2 A9.out).mono ?_); (case sideT => first | exact HT.out | exact HT.out.below hs_ | exact HT.out.drawn (by repeat (first | exact Drawn0.refl _ | apply Drawn0.step | assumption))); (case side1 => refine (Kd.R_reads' (e := 5) (base := w.heap.size) (ok := fun k_ => (True ∧ some k_ ≠ (.slice Ao96 t587.length co96 : Value).ownBlock)) (n := t594.length) (c := co101) ?_).2.2; exact (by (with_reducible repeat (first | apply Kd.R_alloc | apply Kd.R_drewN | apply Kd.R_drew)); exact (Kd.R_mono (Kd.R_far (p := ⟨gb598, 2, none⟩) (Kd.R_far (p := ⟨gb598, 1, none⟩) (Kd.R_far (p := ⟨gb598, 0, none⟩) (Kd.R_types HO596.out BK598.out (by decide)) (fun _ hk => hk.2) (.int .i64 t593)) (fun _ hk => hk.2) (.slice Ao101 t594.length co101)) (fun _ hk => hk.2) (.bool t597)) (fun _ h_ => h_.1)))); (case side2 => exact (Kd.R_reads' HO596.out).2.1); rintro e w102 ⟨rfl, hb⟩; refine ⟨_, rfl, ?_⟩; have n0_ := Aside0.mk (Kd.R_below (by (with_reducible repeat (first | apply Kd.R_alloc | apply Kd.R_drewN | apply Kd.R_drew)); exact (Kd.R_mono (Kd.R_far (p := ⟨gb598, 2, none⟩) (Kd.R_far (p := ⟨gb598, 1, none⟩) (Kd.R_far (p := ⟨gb598, 0, none⟩) (Kd.R_types HO589.out BK598.out (by decide)) (fun _ hk => hk.2) (.int .i64 t593)) (fun _ hk => hk.2) (.slice Ao101 t594.length co101)) (fun _ hk => hk.2) (.bool t597)) (fun _ h_ => h_.1))) hb); have n1_ := Aside0.mk (Kd.R_below (by (with_reducible repeat (first | apply Kd.R_alloc | apply Kd.R_drewN | apply Kd.R_drew)); exact (Kd.R_mono (Kd.R_far (p := ⟨gb598, 2, none⟩) (Kd.R_far (p := ⟨gb598, 1, none⟩) (Kd.R_far (p := ⟨gb598, 0, none⟩) (Kd.R_types HO596.out BK598.out (by decide)) (fun _ hk => hk.2) (.int .i64 t593)) (fun _ hk => hk.2) (.slice Ao101 t594.length co101)) (fun _ hk => hk.2) (.bool t597)) (fun _ h_ => h_.1))) hb); have n2_ := Aside0.mk (blk_below (g := gb598) (o := .cells #[.int .i64 t593, .slice Ao101 t594.length co101, .bool t597] 46 (0, 0)) (by (with_reducible repeat (first | refine blk_drewN ?_ _ | refine blk_drew ?_ | refine blk_alloc ?_ _)); refine blk_put (cs := #[.int .i64 t593, .slice Ao101 t594.length co101, .bool false]) ?_ 2 _ rfl; (with_reducible repeat (first | refine blk_drewN ?_ _ | refine blk_drew ?_ | refine blk_alloc ?_ _)); refine blk_put (cs := #[.int .i64 t593, .slice none 0 0, .bool false]) ?_ 1 _ rfl; (with_reducible repeat (first | refine blk_drewN ?_ _ | refine blk_drew ?_ | refine blk_alloc ?_ _)); refine blk_put (cs := #[.int .i64 0, .slice none 0 0, .bool false]) ?_ 0 _ rfl; (with_reducible repeat (first | refine blk_drewN ?_ _ | refine blk_drew ?_ | refine blk_alloc ?_ _)); exact BK598.out) hb); have n3_ := Aside0.mk (below_step hs_ hb); clear HO589; clear HO596; clear BK598; clear HB; have HO589 := n0_; have HO596 := n1_; have BK598 := n2_; have HB := n3_; clear n0_ n1_ n2_ n3_; try clear hb) | ((with_reducible refine gate_callee (f := 49) rfl ?_); refine goesL_ (some 39) rfl rfl Tryd.func49 (by kernel_rfl) rfl #[.int .i64 t586] rfl ka_ ?_; (with_reducible refine (spec_DecNew.calls t586 t600 t601 t604 _ A10.out).mono ?_); rintro e w103 ⟨v602, rfl, ho0, hb⟩; refine ⟨_, rfl, ?_⟩; have n0_ := Aside0.mk (Kd.R_elder' (kr_ HO589) (Kd.R_base ho0) hb); have n1_ := Aside0.mk (Kd.R_elder' (kr_ HO596) (Kd.R_base ho0) hb); have n2_ := Aside0.mk (Kd.R_lower (Kd.R_new' (Kd.R_new' ho0 (Kd.R_lt (kr_ HO589))) (Kd.R_lt (kr_ HO596))) (below_size hs_)); have n3_ := Aside0.mk (blk_below (g := gb598) (o := .cells #[.int .i64 t593, .slice Ao101 t594.length co101, .bool t597] 46 (0, 0)) (kb_ BK598) hb); have n4_ := Aside0.mk (below_step hs_ hb); clear HO589; clear HO596; clear BK598; clear HB; have HO589 := n0_; have HO596 := n1_; have HO603 := n2_; have BK598 := n3_; have HB := n4_; clear n0_ n1_ n2_ n3_ n4_; try clear hb; (try clear ho0); obtain ⟨Ao104, co104, eo104⟩ := Kd.R_slice HO603.out; subst eo104) | ((with_reducible refine gate_callee (f := 48) rfl ?_); refine goesL_ (some 40) rfl rfl Tryd.func48 (by kernel_rfl) rfl #[.agg #[.int .i64 t600, .slice Ao104 t601.length co104, .bool t604]] rfl ka_ ?_; (with_reducible refine (spec_DecOk.calls k t600 _ _ t601 t604 t605 _ ?side1 ?side2 A11.out).mono ?_); (case side1 => exact kc_ (Kd.R_reads' HO603.out).2.2); (case side2 => exact (Kd.R_reads' HO603.out).2.1); rintro e w105 ⟨rfl, hb⟩; refine ⟨_, rfl, ?_⟩; have n0_ := Aside0.mk (Kd.R_below (kr_ HO589) hb); have n1_ := Aside0.mk (Kd.R_below (kr_ HO596) hb); have n2_ := Aside0.mk (Kd.R_below (kr_ HO603) hb); have n3_ := Aside0.mk (blk_below (g := gb598) (o := .cells #[.int .i64 t593, .slice Ao101 t594.length co101, .bool t597] 46 (0, 0)) (kb_ BK598) hb); have n4_ := Aside0.mk (below_step hs_ hb); clear HO589; clear HO596; clear HO603; clear BK598; clear HB; have HO589 := n0_; have HO596 := n1_; have HO603 := n2_; have BK598 := n3_; have HB := n4_; clear n0_ n1_ n2_ n3_ n4_; try clear hb; have hcz106_0 : w105.cell? ⟨gb598, 0, none⟩ = some (.int .i64 t593) := (blk_cell BK598.out 0).trans rfl; have hcz106_1 : w105.cell? ⟨gb598, 1, none⟩ = some (.slice Ao101 t594.length co101) := (blk_cell BK598.out 1).trans rfl; have hcz106_2 : w105.cell? ⟨gb598, 2, none⟩ = some (.bool t597) := (blk_cell BK598.out 2).trans rfl; have hfz106_0 := blk_frozen BK598.out 0; have hfz106_1 := blk_frozen BK598.out 1; have hfz106_2 := blk_frozen BK598.out 2) | ((with_reducible refine gate_callee (f := 47) rfl ?_); refine goesL_ (some 43) rfl rfl Tryd.func47 (by kernel_rfl) rfl #[.agg #[.int .i64 t593, .slice Ao101 t594.length co101, .bool t597]] rfl ka_ ?_; (with_reducible refine (impl_DecOk.calls (hT := ?sideT) t593 _ _ t594 t597 true _ ?side1 ?side2 A24.out).mono ?_); (case sideT => first | exact HT.out | exact HT.out.below hs_ | exact HT.out.drawn (by repeat (first | exact Drawn0.refl _ | apply Drawn0.step | assumption))); (case side1 => exact kc_ (Kd.R_reads' HO596.out).2.2); (case side2 => exact (Kd.R_reads' HO596.out).2.1); rintro e w107 ⟨rfl, hb⟩; refine ⟨_, rfl, ?_⟩; have n0_ := Aside0.mk (Kd.R_below (kr_ HO589) hb); have n1_ := Aside0.mk (Kd.R_below (kr_ HO596) hb); have n2_ := Aside0.mk (Kd.R_below (kr_ HO603) hb); have n3_ := Aside0.mk (blk_below (g := gb598) (o := .cells #[.int .i64 t593, .slice Ao101 t594.length co101, .bool t597] 46 (0, 0)) (kb_ BK598) hb); have n4_ := Aside0.mk (below_step hs_ hb); clear HO589; clear HO596; clear HO603; clear BK598; clear HB; have HO589 := n0_; have HO596 := n1_; have HO603 := n2_; have BK598 := n3_; have HB := n4_; clear n0_ n1_ n2_ n3_ n4_; try clear hb))
               have n0_ := Aside0.mk (Kd.R_drew HO589.out)
               have n1_ := Aside0.mk (Kd.R_drew HO596.out)
               have n2_ := Aside0.mk (Kd.R_drew HO603.out)
               have n3_ := Aside0.mk (blk_drew BK598.out)
               have n4_ := Aside0.mk (below_drew1 HB.out)
               clear HO589
               clear HO596
               clear HO603
               clear BK598
               clear HB
               have HO589 := n0_
               have HO596 := n1_
               have HO603 := n2_
               have BK598 := n3_
               have HB := n4_
               clear n0_ n1_ n2_ n3_ n4_
               have q109 : ((ji26) : Int) ≤ ((t587.length : Int) : Int) := of_decide_eq_true as_
               obtain ⟨i0109, hi0109, _, hsz109, _⟩ := info_parts info5
               have hroom109 : t587.length ≤ co96 := (Kd.R_reads' HO589.out).2.1
               have hC109 : Kd.C (Kd.int .u8) _ Ao96 t587.length t587 := (Kd.R_reads' HO589.out).2.2
               have hcut109 := cut_to (P := Tryd.prog) 23 5 .i64 Tryd.underlying23 hi0109 Ao96 t587.length co96 (ji26) (of_decide_eq_true as_) q109 hroom109
               have hr109 := Kd.C_take (m := ((ji26) : Int).toNat) hC109 (by omega)
               have hy109 : y607.length = ((ji26) : Int).toNat := (by rw [Ny607.out, List.length_take]; omega)
               rw [← Ny607.out] at hr109
               rw [← hy109] at hcut109
               have HR610 := Aside0.mk hr109
               have HC610 := Aside0.mk (show y607.length ≤ co96 from by omega)
               clear hr109 hC109 hroom109 hi0109 hsz109
               have KY109 := Aside0.mk hy109
               clear hy109
               have KL109 := Aside0.mk (show ((ji26) : Int).toNat ≤ t587.length from by omega)
               replace q109 := eq_true q109
               refine start_ (n := 11) (S := fun w' => w'.cell? ⟨gb598, 0, none⟩ = some (.int .i64 t593) ∧ w'.cell? ⟨gb598, 1, none⟩ = some (.slice Ao101 t594.length co101) ∧ w'.cell? ⟨gb598, 2, none⟩ = some (.bool t597)) (ds := []) #[false, false, false, false, false, false, false, false, false, false, false] (by kernel_rfl) rfl rfl ⟨(blk_cell BK598.out 0).trans rfl, (blk_cell BK598.out 1).trans rfl, (blk_cell BK598.out 2).trans rfl⟩ (fun hHeld => ?_); refine with_tabW laws_FnStreams.tab11 laws_FnStreams.bits11 (fun HT_ HW_ => ?_)
               generalize w107.drew = w108 at HO589 HO596 HO603 BK598 HB HR610 hHeld ⊢
               refine pure_ (i := 1) (N := some 49) (v := ?_) (a' := ?_) #[false, true, false, false, false, false, false, false, false, false, false] rfl rfl (any_of HT_.out (by kernel_rfl)) (fun _ _ _ h => h) (Or.inl ⟨by rfl, ?_⟩) ?_ ?_
               rotate_left
               ·intro w'
                go_simp
                with_reducible rfl
               rotate_left
               ·simp only [Act.put, List.setIfInBounds_toArray, List.set_cons_zero, List.set_cons_succ, i64_w, i32_w]
                rfl
               refine pure_ (i := 2) (N := some 50) (v := ?_) (a' := ?_) #[false, true, true, false, false, false, false, false, false, false, false] rfl rfl (any_of HT_.out (by kernel_rfl)) (fun _ _ _ h => h) (Or.inl ⟨by rfl, ?_⟩) ?_ ?_
               rotate_left
               ·intro w'
                go_simp
                with_reducible rfl
               rotate_left
               ·simp only [Act.put, List.setIfInBounds_toArray, List.set_cons_zero, List.set_cons_succ, i64_w, i32_w]
                rfl
               refine pure_ (i := 3) (N := some 51) (v := ?_) (a' := ?_) #[false, true, true, true, false, false, false, false, false, false, false] rfl rfl (any_of HT_.out (by kernel_rfl)) (fun _ _ _ h => h) (Or.inl ⟨by rfl, ?_⟩) ?_ ?_
               rotate_left
               ·intro w'
                go_simp
                with_reducible rfl
               rotate_left
               ·simp only [Act.put, List.setIfInBounds_toArray, List.set_cons_zero, List.set_cons_succ, i64_w, i32_w]
                rfl
               refine take_ (i := 0) (N := some 48) (v := ?_) (a' := ?_) #[true, true, true, true, false, false, false, false, false, false, false] rfl rfl (take_ofW HT_.out HW_.out (by kernel_rfl)) (fun _ _ _ h => h) (Or.inl ⟨by rfl, ?_⟩) hHeld ?_ ?_
               rotate_left
               ·rintro w' ⟨s0, s1, s2⟩
                go_simp
                with_reducible rfl
               rotate_left
               ·simp only [Act.put, List.setIfInBounds_toArray, List.set_cons_zero, List.set_cons_succ, i64_w, i32_w]
                rfl
               refine join_ (σ := Value × Nat) 2 #[true, true, true, true, true, true, true, true, true, false, false] (fun s_ => [(52, .tuple #[.agg #[.int .i64 t611, s_.1, .bool t615], .string t616]), (9, .pointer (some ⟨s_.2, 0, none⟩)), (47, .tuple #[.agg #[.int .i64 t611, s_.1, .bool t615], .string t616]), (53, .agg #[.int .i64 t611, s_.1, .bool t615]), (54, .string t616)]) (fun s_ w' => (w'.cell? ⟨gb598, 0, none⟩ = some (.int .i64 t593) ∧ w'.cell? ⟨gb598, 1, none⟩ = some (.slice Ao101 t594.length co101) ∧ w'.cell? ⟨gb598, 2, none⟩ = some (.bool t597)) ∧ (Kd.R (Kd.int .u8) 5 w' w.heap.size (fun k_ => some k_ ≠ (.slice Ao101 t594.length co101 : Value).ownBlock ∧ some k_ ≠ (.slice Ao104 t601.length co104 : Value).ownBlock ∧ some k_ ≠ (s_.1 : Value).ownBlock) (.slice Ao96 t587.length co96) t587) ∧ (Kd.R (Kd.int .u8) 5 w' w.heap.size (fun k_ => some k_ ≠ (.slice Ao96 t587.length co96 : Value).ownBlock ∧ some k_ ≠ (.slice Ao104 t601.length co104 : Value).ownBlock ∧ some k_ ≠ (s_.1 : Value).ownBlock) (.slice Ao101 t594.length co101) t594) ∧ (Kd.R (Kd.int .u8) 5 w' w.heap.size (fun k_ => some k_ ≠ (.slice Ao96 t587.length co96 : Value).ownBlock ∧ some k_ ≠ (.slice Ao101 t594.length co101 : Value).ownBlock ∧ some k_ ≠ (s_.1 : Value).ownBlock) (.slice Ao104 t601.length co104) t601) ∧ (Kd.R (Kd.int .u8) 5 w' w.heap.size (fun k_ => some k_ ≠ (.slice Ao96 t587.length co96 : Value).ownBlock ∧ some k_ ≠ (.slice Ao101 t594.length co101 : Value).ownBlock ∧ some k_ ≠ (.slice Ao104 t601.length co104 : Value).ownBlock) s_.1 t612) ∧ (w'.heap[gb598]? = some (.cells #[.int .i64 t593, .slice Ao101 t594.length co101, .bool t597] 46 (0, 0))) ∧ (w'.heap[s_.2]? = some (.cells #[.int .i64 0, .slice none 0 0, .bool false] 46 (0, 0))) ∧ (w.heap.size ≤ s_.2) ∧ (w.heap.size ≤ s_.2) ∧ (gb598 ≠ s_.2) ∧ (s_.2 ≠ gb598) ∧ (Below w.heap.size w w')) ?_ ?_
               rotate_left
               ·intro hCont
                refine two_ (i := 4) (j := 8) (Ni := some 52) (Nj := some 9) #[true, true, true, true, true, false, false, false, false, false, false] #[true, true, true, true, false, false, false, false, true, false, false] rfl rfl rfl rfl (two_of HT_.out (by kernel_rfl)) (by decide) (by decide) (fun K hK => ?_) (fun K hK => ?_)
                ·skip
                 refine goes_ Tryd.func36 (by kernel_rfl) rfl #[.agg #[.int .i64 t593, .slice Ao101 t594.length co101, .bool t597], .slice Ao96 y607.length co96] (by rfl) rfl rfl ka_ ?_
                 with_reducible refine (impl_Feed.calls (hT := ?sideT) k t593 (fun k_ => some k_ = (.slice Ao101 t594.length co101 : Value).ownBlock) _ _ t594 t597 (fun k_ => True) _ _ y607 t611 t612 t615 t616 _ ?side1 ?side2 A29.out).mono ?_; (case sideT => first | exact HT.out | exact HT.out.below hs_ | exact HT.out.drawn (by repeat (first | exact Drawn0.refl _ | apply Drawn0.step | assumption)))
                 (case side1 => exact Kd.R_V (Kd.R_tight rfl (Kd.R_types (HO596.out) BK598.out (by decide))))
                 (case side2 => exact Kd.V_mk HC610.out (Kd.F_mono (Kd.C_F (Kd.heap_int .u8) (kc_ HR610.out)) (fun _ _ => trivial)))
                 rintro e w110 ⟨v613, rfl, ho0, hb⟩
                 refine ⟨_, rfl, ?_⟩
                 have n0_ := Aside0.mk (Kd.R_elder' (kr_ HO589) (Kd.R_base ho0) hb)
                 have n1_ := Aside0.mk (Kd.R_elder' (kr_ HO596) (Kd.R_base ho0) hb)
                 have n2_ := Aside0.mk (Kd.R_elder' (kr_ HO603) (Kd.R_base ho0) hb)
                 have n3_ := Aside0.mk (Kd.R_lower (Kd.R_new' (Kd.R_new' (Kd.R_new' (Kd.R_mono (ok' := fun k_ => True) ho0 (fun _ hk_ => trivial)) (Kd.R_lt (kr_ HO589))) (Kd.R_lt (kr_ HO596))) (Kd.R_lt (kr_ HO603))) (below_size hs_))
                 have n4_ := Aside0.mk (blk_below (g := gb598) (o := .cells #[.int .i64 t593, .slice Ao101 t594.length co101, .bool t597] 46 (0, 0)) (kb_ BK598) hb)
                 have n5_ := Aside0.mk (Kd.C_below (kc_ HR610.out) hb)
                 have n6_ := Aside0.mk (below_step hs_ hb)
                 clear HO589
                 clear HO596
                 clear HO603
                 clear BK598
                 clear HR610
                 clear HB
                 have HO589 := n0_
                 have HO596 := n1_
                 have HO603 := n2_
                 have HO614 := n3_
                 have BK598 := n4_
                 have HR610 := n5_
                 have HB := n6_
                 clear n0_ n1_ n2_ n3_ n4_ n5_ n6_
                 (try clear hb)
                 (try clear hb2)
                 (try clear hk)
                 (try clear hi)
                 (try clear ho0)
                 refine hK.out _ _ ⟨(blk_cell BK598.out 0).trans rfl, (blk_cell BK598.out 1).trans rfl, (blk_cell BK598.out 2).trans rfl⟩ (fun hHeld => ?_)
                 clear hK K
                 refine norm_ (a' := ?_) ?_ ?_
                 rotate_left
                 ·show Act.put _ (some 52) _ = _
                  simp only [Act.put, List.setIfInBounds_toArray, List.set_cons_zero, List.set_cons_succ, i64_w, i32_w]
                  rfl
                 refine pure_ (i := 5) (N := some 47) (v := ?_) (a' := ?_) #[true, true, true, true, true, true, false, false, false, false, false] rfl rfl (any_of HT_.out (by kernel_rfl)) (fun _ _ _ h => h) (Or.inl ⟨by rfl, ?_⟩) ?_ ?_
                 rotate_left
                 ·intro w'
                  go_simp
                  with_reducible rfl
                 rotate_left
                 ·simp only [Act.put, List.setIfInBounds_toArray, List.set_cons_zero, List.set_cons_succ, i64_w, i32_w]
                  rfl
                 refine pure_ (i := 6) (N := some 53) (v := ?_) (a' := ?_) #[true, true, true, true, true, true, true, false, false, false, false] rfl rfl (any_of HT_.out (by kernel_rfl)) (fun _ _ _ h => h) (Or.inl ⟨by rfl, ?_⟩) ?_ ?_
                 rotate_left
                 ·intro w'
                  go_simp
                  with_reducible rfl
                 rotate_left
                 ·simp only [Act.put, List.setIfInBounds_toArray, List.set_cons_zero, List.set_cons_succ, i64_w, i32_w]
                  rfl
                 refine pure_ (i := 7) (N := some 54) (v := ?_) (a' := ?_) #[true, true, true, true, true, true, true, true, false, false, false] rfl rfl (any_of HT_.out (by kernel_rfl)) (fun _ _ _ h => h) (Or.inl ⟨by rfl, ?_⟩) ?_ ?_
                 rotate_left
                 ·intro w'
                  go_simp
                  with_reducible rfl
                 rotate_left
                 ·simp only [Act.put, List.setIfInBounds_toArray, List.set_cons_zero, List.set_cons_succ, i64_w, i32_w]
                  rfl
                 refine one_ (i := 8) (N := some 9) #[true, true, true, true, true, true, true, true, true, false, false] rfl rfl (one_of HT_.out (by kernel_rfl)) (by decide) (fun K hK => ?_)
                 refine box_step ?hg (N := 9) ?hd (cs := #[.int .i64 0, .slice none 0 0, .bool false]) (t := 46) ?hr ?_; (case hd => rfl); (case hg => rfl); (case hr => first | (go_simp; done) | (go_simp; rfl))
                 intro gb617 hg w111 hbox hb
                 have n0_ := Aside0.mk (Kd.R_below (kr_ HO589) hb)
                 have n1_ := Aside0.mk (Kd.R_below (kr_ HO596) hb)
                 have n2_ := Aside0.mk (Kd.R_below (kr_ HO603) hb)
                 have n3_ := Aside0.mk (Kd.R_below (kr_ HO614) hb)
                 have n4_ := Aside0.mk (blk_below (g := gb598) (o := .cells #[.int .i64 t593, .slice Ao101 t594.length co101, .bool t597] 46 (0, 0)) (kb_ BK598) hb)
                 have n5_ := Aside0.mk (Kd.C_below (kc_ HR610.out) hb)
                 have n6_ := Aside0.mk (below_step hs_ hb)
                 have n7_ := Aside0.mk (hbox)
                 have n8_ := Aside0.mk ((by rw [hg]; exact (below_size hs_) : w.heap.size ≤ gb617))
                 have n9_ := Aside0.mk ((by rw [hg]; exact (below_size hs_) : w.heap.size ≤ gb617))
                 have n10_ := Aside0.mk ((by rw [hg]; exact Nat.ne_of_lt (blk_lt (g := gb598) (o := .cells #[.int .i64 t593, .slice Ao101 t594.length co101, .bool t597] 46 (0, 0)) (kb_ BK598)) : gb598 ≠ gb617))
                 have n11_ := Aside0.mk ((by rw [hg]; exact Nat.ne_of_gt (blk_lt (g := gb598) (o := .cells #[.int .i64 t593, .slice Ao101 t594.length co101, .bool t597] 46 (0, 0)) (kb_ BK598)) : gb617 ≠ gb598))
                 clear HO589
                 clear HO596
                 clear HO603
                 clear HO614
                 clear BK598
                 clear HR610
                 clear HB
                 have HO589 := n0_
                 have HO596 := n1_
                 have HO603 := n2_
                 have HO614 := n3_
                 have BK598 := n4_
                 have HR610 := n5_
                 have HB := n6_
                 have BK617 := n7_
                 have GW617 := n8_
                 have GE617 := n9_
                 have NB598_617 := n10_
                 have NB617_598 := n11_
                 clear n0_ n1_ n2_ n3_ n4_ n5_ n6_ n7_ n8_ n9_ n10_ n11_
                 clear hb hbox hg
                 refine hK.out _ _ ⟨(blk_cell BK598.out 0).trans rfl, (blk_cell BK598.out 1).trans rfl, (blk_cell BK598.out 2).trans rfl⟩ (fun hHeld => ?_)
                 clear hK K
                 refine norm_ (a' := ?_) ?_ ?_
                 rotate_left
                 ·show Act.put _ (some 9) _ = _
                  simp only [Act.put, List.setIfInBounds_toArray, List.set_cons_zero, List.set_cons_succ, i64_w, i32_w]
                  rfl
                 exact norm_ (by simp only [putAll, Act.put, List.setIfInBounds_toArray, List.set_cons_zero, List.set_cons_succ]) (hCont (v613, gb617) _ ⟨hHeld, (by (with_reducible repeat (first | apply Kd.R_alloc | apply Kd.R_drewN | apply Kd.R_drew)); exact Kd.R_mono HO589.out (fun _ hk => ⟨hk.1.1.2, ⟨hk.1.2, hk.2⟩⟩)), (by (with_reducible repeat (first | apply Kd.R_alloc | apply Kd.R_drewN | apply Kd.R_drew)); exact Kd.R_mono HO596.out (fun _ hk => ⟨hk.1.1.2, ⟨hk.1.2, hk.2⟩⟩)), (by (with_reducible repeat (first | apply Kd.R_alloc | apply Kd.R_drewN | apply Kd.R_drew)); exact Kd.R_mono HO603.out (fun _ hk => ⟨hk.1.1.2, ⟨hk.1.2, hk.2⟩⟩)), (by (with_reducible repeat (first | apply Kd.R_alloc | apply Kd.R_drewN | apply Kd.R_drew)); exact Kd.R_mono HO614.out (fun _ hk => ⟨hk.1.1.2, ⟨hk.1.2, hk.2⟩⟩)), (kb_ BK598), (kb_ BK617), GW617.out, GE617.out, NB598_617.out, NB617_598.out, hs_⟩)
                ·skip
                 refine box_step ?hg (N := 9) ?hd (cs := #[.int .i64 0, .slice none 0 0, .bool false]) (t := 46) ?hr ?_; (case hd => rfl); (case hg => rfl); (case hr => first | (go_simp; done) | (go_simp; rfl))
                 intro gb617 hg w110 hbox hb
                 have n0_ := Aside0.mk (Kd.R_below (kr_ HO589) hb)
                 have n1_ := Aside0.mk (Kd.R_below (kr_ HO596) hb)
                 have n2_ := Aside0.mk (Kd.R_below (kr_ HO603) hb)
                 have n3_ := Aside0.mk (blk_below (g := gb598) (o := .cells #[.int .i64 t593, .slice Ao101 t594.length co101, .bool t597] 46 (0, 0)) (kb_ BK598) hb)
                 have n4_ := Aside0.mk (Kd.C_below (kc_ HR610.out) hb)
                 have n5_ := Aside0.mk (below_step hs_ hb)
                 have n6_ := Aside0.mk (hbox)
                 have n7_ := Aside0.mk ((by rw [hg]; exact (below_size hs_) : w.heap.size ≤ gb617))
                 have n8_ := Aside0.mk ((by rw [hg]; exact (below_size hs_) : w.heap.size ≤ gb617))
                 have n9_ := Aside0.mk ((by rw [hg]; exact Nat.ne_of_lt (blk_lt (g := gb598) (o := .cells #[.int .i64 t593, .slice Ao101 t594.length co101, .bool t597] 46 (0, 0)) (kb_ BK598)) : gb598 ≠ gb617))
                 have n10_ := Aside0.mk ((by rw [hg]; exact Nat.ne_of_gt (blk_lt (g := gb598) (o := .cells #[.int .i64 t593, .slice Ao101 t594.length co101, .bool t597] 46 (0, 0)) (kb_ BK598)) : gb617 ≠ gb598))
                 clear HO589
                 clear HO596
                 clear HO603
                 clear BK598
                 clear HR610
                 clear HB
                 have HO589 := n0_
                 have HO596 := n1_
                 have HO603 := n2_
                 have BK598 := n3_
                 have HR610 := n4_
                 have HB := n5_
                 have BK617 := n6_
                 have GW617 := n7_
                 have GE617 := n8_
                 have NB598_617 := n9_
                 have NB617_598 := n10_
                 clear n0_ n1_ n2_ n3_ n4_ n5_ n6_ n7_ n8_ n9_ n10_
                 clear hb hbox hg
                 refine hK.out _ _ ⟨(blk_cell BK598.out 0).trans rfl, (blk_cell BK598.out 1).trans rfl, (blk_cell BK598.out 2).trans rfl⟩ (fun hHeld => ?_)
                 clear hK K
                 refine norm_ (a' := ?_) ?_ ?_
                 rotate_left
                 ·show Act.put _ (some 9) _ = _
                  simp only [Act.put, List.setIfInBounds_toArray, List.set_cons_zero, List.set_cons_succ, i64_w, i32_w]
                  rfl
                 refine one_ (i := 4) (N := some 52) #[true, true, true, true, true, false, false, false, true, false, false] rfl rfl (one_of HT_.out (by kernel_rfl)) (by decide) (fun K hK => ?_)
                 refine goes_ Tryd.func36 (by kernel_rfl) rfl #[.agg #[.int .i64 t593, .slice Ao101 t594.length co101, .bool t597], .slice Ao96 y607.length co96] (by rfl) rfl rfl ka_ ?_
                 with_reducible refine (impl_Feed.calls (hT := ?sideT) k t593 (fun k_ => some k_ = (.slice Ao101 t594.length co101 : Value).ownBlock) _ _ t594 t597 (fun k_ => True) _ _ y607 t611 t612 t615 t616 _ ?side1 ?side2 A29.out).mono ?_; (case sideT => first | exact HT.out | exact HT.out.below hs_ | exact HT.out.drawn (by repeat (first | exact Drawn0.refl _ | apply Drawn0.step | assumption)))
                 (case side1 => exact Kd.R_V (Kd.R_tight rfl (Kd.R_types (Kd.R_types (HO596.out) BK598.out (by decide)) BK617.out (by decide))))
                 (case side2 => exact Kd.V_mk HC610.out (Kd.F_mono (Kd.C_F (Kd.heap_int .u8) (kc_ HR610.out)) (fun _ _ => trivial)))
                 rintro e w111 ⟨v613, rfl, ho0, hb⟩
                 refine ⟨_, rfl, ?_⟩
                 have n0_ := Aside0.mk (Kd.R_elder' (kr_ HO589) (Kd.R_base ho0) hb)
                 have n1_ := Aside0.mk (Kd.R_elder' (kr_ HO596) (Kd.R_base ho0) hb)
                 have n2_ := Aside0.mk (Kd.R_elder' (kr_ HO603) (Kd.R_base ho0) hb)
                 have n3_ := Aside0.mk (Kd.R_lower (Kd.R_new' (Kd.R_new' (Kd.R_new' (Kd.R_mono (ok' := fun k_ => True) ho0 (fun _ hk_ => trivial)) (Kd.R_lt (kr_ HO589))) (Kd.R_lt (kr_ HO596))) (Kd.R_lt (kr_ HO603))) (below_size hs_))
                 have n4_ := Aside0.mk (blk_below (g := gb598) (o := .cells #[.int .i64 t593, .slice Ao101 t594.length co101, .bool t597] 46 (0, 0)) (kb_ BK598) hb)
                 have n5_ := Aside0.mk (Kd.C_below (kc_ HR610.out) hb)
                 have n6_ := Aside0.mk (blk_below (g := gb617) (o := .cells #[.int .i64 0, .slice none 0 0, .bool false] 46 (0, 0)) (kb_ BK617) hb)
                 have n7_ := Aside0.mk (below_step hs_ hb)
                 clear HO589
                 clear HO596
                 clear HO603
                 clear BK598
                 clear HR610
                 clear BK617
                 clear HB
                 have HO589 := n0_
                 have HO596 := n1_
                 have HO603 := n2_
                 have HO614 := n3_
                 have BK598 := n4_
                 have HR610 := n5_
                 have BK617 := n6_
                 have HB := n7_
                 clear n0_ n1_ n2_ n3_ n4_ n5_ n6_ n7_
                 (try clear hb)
                 (try clear hb2)
                 (try clear hk)
                 (try clear hi)
                 (try clear ho0)
                 refine hK.out _ _ ⟨(blk_cell BK598.out 0).trans rfl, (blk_cell BK598.out 1).trans rfl, (blk_cell BK598.out 2).trans rfl⟩ (fun hHeld => ?_)
                 clear hK K
                 refine norm_ (a' := ?_) ?_ ?_
                 rotate_left
                 ·show Act.put _ (some 52) _ = _
                  simp only [Act.put, List.setIfInBounds_toArray, List.set_cons_zero, List.set_cons_succ, i64_w, i32_w]
                  rfl
                 refine pure_ (i := 5) (N := some 47) (v := ?_) (a' := ?_) #[true, true, true, true, true, true, false, false, true, false, false] rfl rfl (any_of HT_.out (by kernel_rfl)) (fun _ _ _ h => h) (Or.inl ⟨by rfl, ?_⟩) ?_ ?_
                 rotate_left
                 ·intro w'
                  go_simp
                  with_reducible rfl
                 rotate_left
                 ·simp only [Act.put, List.setIfInBounds_toArray, List.set_cons_zero, List.set_cons_succ, i64_w, i32_w]
                  rfl
                 refine pure_ (i := 6) (N := some 53) (v := ?_) (a' := ?_) #[true, true, true, true, true, true, true, false, true, false, false] rfl rfl (any_of HT_.out (by kernel_rfl)) (fun _ _ _ h => h) (Or.inl ⟨by rfl, ?_⟩) ?_ ?_
                 rotate_left
                 ·intro w'
                  go_simp
                  with_reducible rfl
                 rotate_left
                 ·simp only [Act.put, List.setIfInBounds_toArray, List.set_cons_zero, List.set_cons_succ, i64_w, i32_w]
                  rfl
                 refine pure_ (i := 7) (N := some 54) (v := ?_) (a' := ?_) #[true, true, true, true, true, true, true, true, true, false, false] rfl rfl (any_of HT_.out (by kernel_rfl)) (fun _ _ _ h => h) (Or.inl ⟨by rfl, ?_⟩) ?_ ?_
                 rotate_left
                 ·intro w'
                  go_simp
                  with_reducible rfl
                 rotate_left
                 ·simp only [Act.put, List.setIfInBounds_toArray, List.set_cons_zero, List.set_cons_succ, i64_w, i32_w]
                  rfl
                 exact norm_ (by simp only [putAll, Act.put, List.setIfInBounds_toArray, List.set_cons_zero, List.set_cons_succ]) (hCont (v613, gb617) _ ⟨hHeld, (by (with_reducible repeat (first | apply Kd.R_alloc | apply Kd.R_drewN | apply Kd.R_drew)); exact Kd.R_mono HO589.out (fun _ hk => ⟨hk.1.1.2, ⟨hk.1.2, hk.2⟩⟩)), (by (with_reducible repeat (first | apply Kd.R_alloc | apply Kd.R_drewN | apply Kd.R_drew)); exact Kd.R_mono HO596.out (fun _ hk => ⟨hk.1.1.2, ⟨hk.1.2, hk.2⟩⟩)), (by (with_reducible repeat (first | apply Kd.R_alloc | apply Kd.R_drewN | apply Kd.R_drew)); exact Kd.R_mono HO603.out (fun _ hk => ⟨hk.1.1.2, ⟨hk.1.2, hk.2⟩⟩)), (by (with_reducible repeat (first | apply Kd.R_alloc | apply Kd.R_drewN | apply Kd.R_drew)); exact Kd.R_mono HO614.out (fun _ hk => ⟨hk.1.1.2, ⟨hk.1.2, hk.2⟩⟩)), (kb_ BK598), (kb_ BK617), GW617.out, GE617.out, NB598_617.out, NB617_598.out, hs_⟩)
               rintro ⟨v613, gb617⟩ w112 ⟨hS_, h0_, h1_, h2_, h3_, h4_, h5_, h6_, h7_, h8_, h9_, h10_⟩
               have n0_ : Aside0 (Kd.R (Kd.int .u8) 5 w112 w.heap.size (fun k_ => some k_ ≠ (.slice Ao101 t594.length co101 : Value).ownBlock ∧ some k_ ≠ (.slice Ao104 t601.length co104 : Value).ownBlock ∧ some k_ ≠ (v613 : Value).ownBlock) (.slice Ao96 t587.length co96) t587) := ⟨h0_⟩
               have n1_ : Aside0 (Kd.R (Kd.int .u8) 5 w112 w.heap.size (fun k_ => some k_ ≠ (.slice Ao96 t587.length co96 : Value).ownBlock ∧ some k_ ≠ (.slice Ao104 t601.length co104 : Value).ownBlock ∧ some k_ ≠ (v613 : Value).ownBlock) (.slice Ao101 t594.length co101) t594) := ⟨h1_⟩
               have n2_ : Aside0 (Kd.R (Kd.int .u8) 5 w112 w.heap.size (fun k_ => some k_ ≠ (.slice Ao96 t587.length co96 : Value).ownBlock ∧ some k_ ≠ (.slice Ao101 t594.length co101 : Value).ownBlock ∧ some k_ ≠ (v613 : Value).ownBlock) (.slice Ao104 t601.length co104) t601) := ⟨h2_⟩
               have n3_ : Aside0 (Kd.R (Kd.int .u8) 5 w112 w.heap.size (fun k_ => some k_ ≠ (.slice Ao96 t587.length co96 : Value).ownBlock ∧ some k_ ≠ (.slice Ao101 t594.length co101 : Value).ownBlock ∧ some k_ ≠ (.slice Ao104 t601.length co104 : Value).ownBlock) v613 t612) := ⟨h3_⟩
               have n4_ : Aside0 (w112.heap[gb598]? = some (.cells #[.int .i64 t593, .slice Ao101 t594.length co101, .bool t597] 46 (0, 0))) := ⟨h4_⟩
               have n5_ : Aside0 (w112.heap[gb617]? = some (.cells #[.int .i64 0, .slice none 0 0, .bool false] 46 (0, 0))) := ⟨h5_⟩
               have n6_ : Aside0 (w.heap.size ≤ gb617) := ⟨h6_⟩
               have n7_ : Aside0 (w.heap.size ≤ gb617) := ⟨h7_⟩
               have n8_ : Aside0 (gb598 ≠ gb617) := ⟨h8_⟩
               have n9_ : Aside0 (gb617 ≠ gb598) := ⟨h9_⟩
               have n10_ : Aside0 (Below w.heap.size w w112) := ⟨h10_⟩
               clear HO589
               clear HO596
               clear HO603
               clear BK598
               clear HB
               clear h0_ h1_ h2_ h3_ h4_ h5_ h6_ h7_ h8_ h9_ h10_
               have HO589 := n0_
               have HO596 := n1_
               have HO603 := n2_
               have HO614 := n3_
               have BK598 := n4_
               have BK617 := n5_
               have GW617 := n6_
               have GE617 := n7_
               have NB598_617 := n8_
               have NB617_598 := n9_
               have HB := n10_
               clear n0_ n1_ n2_ n3_ n4_ n5_ n6_ n7_ n8_ n9_ n10_
               have hHeld : w112.cell? ⟨gb598, 0, none⟩ = some (.int .i64 t593) ∧ w112.cell? ⟨gb598, 1, none⟩ = some (.slice Ao101 t594.length co101) ∧ w112.cell? ⟨gb598, 2, none⟩ = some (.bool t597) := hS_
               obtain ⟨Ao114, co114, eo114⟩ := Kd.R_slice HO614.out
               (first | subst eo114 | (injection eo114 with f1_ f2_ f3_; have f4_ := f1_.symm; have f5_ := f3_.symm; clear f1_ f2_ f3_; subst f4_; subst f5_))
               refine norm_ (a' := ?_) ?_ ?_
               rotate_left
               ·simp only [putAll, Act.put, List.setIfInBounds_toArray, List.set_cons_zero, List.set_cons_succ]
                rfl
               refine one_ (i := 9) (N := none) #[true, true, true, true, true, true, true, true, true, true, false] rfl rfl (one_of HT_.out (by kernel_rfl)) (by decide) (fun K hK => ?_)
               have hs113 : w112.cell? ⟨gb617, 0, none⟩ = some (.int .i64 0) := (blk_cell BK617.out 0).trans rfl
               have hfs113 := blk_frozen BK617.out 0
               have hns113_0 := NB598_617.out
               have hms113_0 := NB617_598.out
               have hs115 : w112.cell? ⟨gb617, 1, none⟩ = some (.slice none 0 0) := (blk_cell BK617.out 1).trans rfl
               have hfs115 := blk_frozen BK617.out 1
               have hns115_0 := NB598_617.out
               have hms115_0 := NB617_598.out
               have hs116 : w112.cell? ⟨gb617, 2, none⟩ = some (.bool false) := (blk_cell BK617.out 2).trans rfl
               have hfs116 := blk_frozen BK617.out 2
               have hns116_0 := NB598_617.out
               have hms116_0 := NB617_598.out
               refine skip_ (w1 := ?_) (by rfl) rfl ?_ ?_
               rotate_left
               ·go_simp
                rfl
               refine hK.out _ _ ⟨((cell_far (p := ⟨gb617, _, none⟩) NB598_617.out _).trans (((cell_far (p := ⟨gb617, _, none⟩) NB598_617.out _).trans (((cell_far (p := ⟨gb617, _, none⟩) NB598_617.out _).trans (hHeld.1)))))), ((cell_far (p := ⟨gb617, _, none⟩) NB598_617.out _).trans (((cell_far (p := ⟨gb617, _, none⟩) NB598_617.out _).trans (((cell_far (p := ⟨gb617, _, none⟩) NB598_617.out _).trans (hHeld.2.1)))))), ((cell_far (p := ⟨gb617, _, none⟩) NB598_617.out _).trans (((cell_far (p := ⟨gb617, _, none⟩) NB598_617.out _).trans (((cell_far (p := ⟨gb617, _, none⟩) NB598_617.out _).trans (hHeld.2.2))))))⟩ (fun hHeld => ?_)
               clear hK K
               refine pure_ (i := 10) (N := some 10) (v := ?_) (a' := ?_) #[true, true, true, true, true, true, true, true, true, true, true] rfl rfl (any_of HT_.out (by kernel_rfl)) (fun _ _ _ h => h) (Or.inl ⟨by rfl, ?_⟩) ?_ ?_
               rotate_left
               ·intro w'
                go_simp
                with_reducible rfl
               rotate_left
               ·simp only [Act.put, List.setIfInBounds_toArray, List.set_cons_zero, List.set_cons_succ, i64_w, i32_w]
                rfl
               refine done_ (done_of HT_.out (by kernel_rfl)) ?_
               try go_wp2
               have n0_ : Aside0 (Kd.R (Kd.int .u8) 5 (((w112.setCell ⟨gb617, 0, none⟩ (.int .i64 t611)).setCell ⟨gb617, 1, none⟩ (.slice Ao114 t612.length co114)).setCell ⟨gb617, 2, none⟩ (.bool t615)) w.heap.size (fun k_ => some k_ ≠ (.slice Ao101 t594.length co101 : Value).ownBlock ∧ some k_ ≠ (.slice Ao104 t601.length co104 : Value).ownBlock ∧ some k_ ≠ (.slice Ao114 t612.length co114 : Value).ownBlock) (.slice Ao96 t587.length co96) t587) := ⟨by (with_reducible repeat (first | apply Kd.R_alloc | apply Kd.R_drewN | apply Kd.R_drew)); exact Kd.R_mono (Kd.R_far (p := ⟨gb617, 2, none⟩) (Kd.R_far (p := ⟨gb617, 1, none⟩) (Kd.R_far (p := ⟨gb617, 0, none⟩) (Kd.R_types HO589.out BK617.out (by decide)) (fun _ hk => hk.2) (.int .i64 t611)) (fun _ hk => hk.2) (.slice Ao114 t612.length co114)) (fun _ hk => hk.2) (.bool t615)) (fun _ hk => ⟨hk.1.1, ⟨hk.1.2.1, hk.1.2.2⟩⟩)⟩
               have n1_ : Aside0 (Kd.R (Kd.int .u8) 5 (((w112.setCell ⟨gb617, 0, none⟩ (.int .i64 t611)).setCell ⟨gb617, 1, none⟩ (.slice Ao114 t612.length co114)).setCell ⟨gb617, 2, none⟩ (.bool t615)) w.heap.size (fun k_ => some k_ ≠ (.slice Ao96 t587.length co96 : Value).ownBlock ∧ some k_ ≠ (.slice Ao104 t601.length co104 : Value).ownBlock ∧ some k_ ≠ (.slice Ao114 t612.length co114 : Value).ownBlock) (.slice Ao101 t594.length co101) t594) := ⟨by (with_reducible repeat (first | apply Kd.R_alloc | apply Kd.R_drewN | apply Kd.R_drew)); exact Kd.R_mono (Kd.R_far (p := ⟨gb617, 2, none⟩) (Kd.R_far (p := ⟨gb617, 1, none⟩) (Kd.R_far (p := ⟨gb617, 0, none⟩) (Kd.R_types HO596.out BK617.out (by decide)) (fun _ hk => hk.2) (.int .i64 t611)) (fun _ hk => hk.2) (.slice Ao114 t612.length co114)) (fun _ hk => hk.2) (.bool t615)) (fun _ hk => ⟨hk.1.1, ⟨hk.1.2.1, hk.1.2.2⟩⟩)⟩
               have n2_ : Aside0 (Kd.R (Kd.int .u8) 5 (((w112.setCell ⟨gb617, 0, none⟩ (.int .i64 t611)).setCell ⟨gb617, 1, none⟩ (.slice Ao114 t612.length co114)).setCell ⟨gb617, 2, none⟩ (.bool t615)) w.heap.size (fun k_ => some k_ ≠ (.slice Ao96 t587.length co96 : Value).ownBlock ∧ some k_ ≠ (.slice Ao101 t594.length co101 : Value).ownBlock ∧ some k_ ≠ (.slice Ao114 t612.length co114 : Value).ownBlock) (.slice Ao104 t601.length co104) t601) := ⟨by (with_reducible repeat (first | apply Kd.R_alloc | apply Kd.R_drewN | apply Kd.R_drew)); exact Kd.R_mono (Kd.R_far (p := ⟨gb617, 2, none⟩) (Kd.R_far (p := ⟨gb617, 1, none⟩) (Kd.R_far (p := ⟨gb617, 0, none⟩) (Kd.R_types HO603.out BK617.out (by decide)) (fun _ hk => hk.2) (.int .i64 t611)) (fun _ hk => hk.2) (.slice Ao114 t612.length co114)) (fun _ hk => hk.2) (.bool t615)) (fun _ hk => ⟨hk.1.1, ⟨hk.1.2.1, hk.1.2.2⟩⟩)⟩
               have n3_ : Aside0 (Kd.R (Kd.int .u8) 5 (((w112.setCell ⟨gb617, 0, none⟩ (.int .i64 t611)).setCell ⟨gb617, 1, none⟩ (.slice Ao114 t612.length co114)).setCell ⟨gb617, 2, none⟩ (.bool t615)) w.heap.size (fun k_ => some k_ ≠ (.slice Ao96 t587.length co96 : Value).ownBlock ∧ some k_ ≠ (.slice Ao101 t594.length co101 : Value).ownBlock ∧ some k_ ≠ (.slice Ao104 t601.length co104 : Value).ownBlock) (.slice Ao114 t612.length co114) t612) := ⟨by (with_reducible repeat (first | apply Kd.R_alloc | apply Kd.R_drewN | apply Kd.R_drew)); exact Kd.R_mono (Kd.R_far (p := ⟨gb617, 2, none⟩) (Kd.R_far (p := ⟨gb617, 1, none⟩) (Kd.R_far (p := ⟨gb617, 0, none⟩) (Kd.R_types HO614.out BK617.out (by decide)) (fun _ hk => hk.2) (.int .i64 t611)) (fun _ hk => hk.2) (.slice Ao114 t612.length co114)) (fun _ hk => hk.2) (.bool t615)) (fun _ hk => ⟨hk.1.1, ⟨hk.1.2.1, hk.1.2.2⟩⟩)⟩
               have n4_ : Aside0 ((((w112.setCell ⟨gb617, 0, none⟩ (.int .i64 t611)).setCell ⟨gb617, 1, none⟩ (.slice Ao114 t612.length co114)).setCell ⟨gb617, 2, none⟩ (.bool t615)).heap[gb598]? = some (.cells #[.int .i64 t593, .slice Ao101 t594.length co101, .bool t597] 46 (0, 0))) := ⟨by (with_reducible repeat (first | refine blk_drewN ?_ _ | refine blk_drew ?_ | refine blk_alloc ?_ _)); refine blk_far ?_ NB598_617.out _; (with_reducible repeat (first | refine blk_drewN ?_ _ | refine blk_drew ?_ | refine blk_alloc ?_ _)); refine blk_far ?_ NB598_617.out _; (with_reducible repeat (first | refine blk_drewN ?_ _ | refine blk_drew ?_ | refine blk_alloc ?_ _)); refine blk_far ?_ NB598_617.out _; (with_reducible repeat (first | refine blk_drewN ?_ _ | refine blk_drew ?_ | refine blk_alloc ?_ _)); exact BK598.out⟩
               have n5_ : Aside0 ((((w112.setCell ⟨gb617, 0, none⟩ (.int .i64 t611)).setCell ⟨gb617, 1, none⟩ (.slice Ao114 t612.length co114)).setCell ⟨gb617, 2, none⟩ (.bool t615)).heap[gb617]? = some (.cells #[.int .i64 t611, .slice Ao114 t612.length co114, .bool t615] 46 (0, 0))) := ⟨by (with_reducible repeat (first | refine blk_drewN ?_ _ | refine blk_drew ?_ | refine blk_alloc ?_ _)); refine blk_put (cs := #[.int .i64 t611, .slice Ao114 t612.length co114, .bool false]) ?_ 2 _ rfl; (with_reducible repeat (first | refine blk_drewN ?_ _ | refine blk_drew ?_ | refine blk_alloc ?_ _)); refine blk_put (cs := #[.int .i64 t611, .slice none 0 0, .bool false]) ?_ 1 _ rfl; (with_reducible repeat (first | refine blk_drewN ?_ _ | refine blk_drew ?_ | refine blk_alloc ?_ _)); refine blk_put (cs := #[.int .i64 0, .slice none 0 0, .bool false]) ?_ 0 _ rfl; (with_reducible repeat (first | refine blk_drewN ?_ _ | refine blk_drew ?_ | refine blk_alloc ?_ _)); exact BK617.out⟩
               have n6_ : Aside0 (Below w.heap.size w (((w112.setCell ⟨gb617, 0, none⟩ (.int .i64 t611)).setCell ⟨gb617, 1, none⟩ (.slice Ao114 t612.length co114)).setCell ⟨gb617, 2, none⟩ (.bool t615))) := ⟨by repeat (first | (with_reducible first | exact HB.out | apply below_alloc | apply pw_below_drewN | apply below_drew1 | refine below_set ?_ GE598.out | refine below_set ?_ GE617.out) | exact HB.out)⟩
               (try clear HO589)
               (try clear HO596)
               (try clear HO603)
               (try clear HO614)
               (try clear BK598)
               (try clear BK617)
               (try clear HB)
               generalize (((w112.setCell ⟨gb617, 0, none⟩ (.int .i64 t611)).setCell ⟨gb617, 1, none⟩ (.slice Ao114 t612.length co114)).setCell ⟨gb617, 2, none⟩ (.bool t615)) = w117 at n0_ n1_ n2_ n3_ n4_ n5_ n6_ ⊢
               have HO589 := n0_
               have HO596 := n1_
               have HO603 := n2_
               have HO614 := n3_
               have BK598 := n4_
               have BK617 := n5_
               have HB := n6_
               clear n0_ n1_ n2_ n3_ n4_ n5_ n6_
               have n0_ := Aside0.mk (Kd.R_drew HO589.out)
               have n1_ := Aside0.mk (Kd.R_drew HO596.out)
               have n2_ := Aside0.mk (Kd.R_drew HO603.out)
               have n3_ := Aside0.mk (Kd.R_drew HO614.out)
               have n4_ := Aside0.mk (blk_drew BK598.out)
               have n5_ := Aside0.mk (blk_drew BK617.out)
               have n6_ := Aside0.mk (below_drew1 HB.out)
               clear HO589
               clear HO596
               clear HO603
               clear HO614
               clear BK598
               clear BK617
               clear HB
               have HO589 := n0_
               have HO596 := n1_
               have HO603 := n2_
               have HO614 := n3_
               have BK598 := n4_
               have BK617 := n5_
               have HB := n6_
               clear n0_ n1_ n2_ n3_ n4_ n5_ n6_
               have q119 : ((ji26) : Int) ≤ ((t587.length : Int) : Int) := of_decide_eq_true as_
               obtain ⟨i0119, hi0119, _, hsz119, _⟩ := info_parts info5
               have hroom119 : t587.length ≤ co96 := (Kd.R_reads' HO589.out).2.1
               have hC119 : Kd.C (Kd.int .u8) _ Ao96 t587.length t587 := (Kd.R_reads' HO589.out).2.2
               have q0119 : (0 : Int) ≤ ((ji26) : Int) := of_decide_eq_true as_
               have hcut119 := cut_from (P := Tryd.prog) 23 5 .i64 Tryd.underlying23 hi0119 1 hsz119 Ao96 t587.length co96 (ji26) q0119 q119
               have hr119 := Kd.C_drop (m := ((ji26) : Int).toNat) (c := co96) hC119 (by omega) hroom119
               obtain ⟨A119, hA119⟩ : ∃ A1, A1 = (if co96 = ((ji26) : Int).toNat then Ao96 else (Ao96 : Option Addr).map (·.add (((ji26) : Int).toNat * 1))) := ⟨_, rfl⟩
               obtain ⟨c119, hc119⟩ : ∃ c1, c1 = co96 - ((ji26) : Int).toNat := ⟨_, rfl⟩
               have hy119 : y618.length = t587.length - ((ji26) : Int).toNat := (by rw [Ny618.out, List.length_drop] <;> omega)
               rw [show (t587).drop ((ji26) : Int).toNat = y618 from Ny618.out.symm] at hr119
               replace hr119 : Kd.C (Kd.int .u8) _ A119 y618.length y618 := (by rw [hA119]; exact hr119)
               rw [← hy119, ← hA119, ← hc119] at hcut119
               have HR621 := Aside0.mk hr119
               have HC621 := Aside0.mk (show y618.length ≤ c119 from by rw [hy119, hc119]; exact Nat.sub_le_sub_right hroom119 _)
               clear hr119 hC119 hroom119 hi0119 hsz119 hc119
               have KY119 := Aside0.mk hy119
               have KA119 := Aside0.mk hA119
               clear hy119 hA119
               have KL119 := Aside0.mk (show ((ji26) : Int).toNat ≤ t587.length from by omega)
               replace q119 := eq_true q119
               refine start_ (n := 11) (S := fun w' => w'.cell? ⟨gb617, 0, none⟩ = some (.int .i64 t611) ∧ w'.cell? ⟨gb617, 1, none⟩ = some (.slice Ao114 t612.length co114) ∧ w'.cell? ⟨gb617, 2, none⟩ = some (.bool t615)) (ds := []) #[false, false, false, false, false, false, false, false, false, false, false] (by kernel_rfl) rfl rfl ⟨(blk_cell BK617.out 0).trans rfl, (blk_cell BK617.out 1).trans rfl, (blk_cell BK617.out 2).trans rfl⟩ (fun hHeld => ?_); refine with_tabW laws_FnStreams.tab12 laws_FnStreams.bits12 (fun HT_ HW_ => ?_)
               generalize w117.drew = w118 at HO589 HO596 HO603 HO614 BK598 BK617 HB HR621 hHeld ⊢
               refine pure_ (i := 1) (N := some 57) (v := ?_) (a' := ?_) #[false, true, false, false, false, false, false, false, false, false, false] rfl rfl (any_of HT_.out (by kernel_rfl)) (fun _ _ _ h => h) (Or.inl ⟨by rfl, ?_⟩) ?_ ?_
               rotate_left
               ·intro w'
                go_simp
                with_reducible rfl
               rotate_left
               ·simp only [Act.put, List.setIfInBounds_toArray, List.set_cons_zero, List.set_cons_succ, i64_w, i32_w]
                rfl
               refine pure_ (i := 2) (N := some 58) (v := ?_) (a' := ?_) #[false, true, true, false, false, false, false, false, false, false, false] rfl rfl (any_of HT_.out (by kernel_rfl)) (fun _ _ _ h => h) (Or.inl ⟨by rfl, ?_⟩) ?_ ?_
               rotate_left
               ·intro w'
                go_simp
                with_reducible rfl
               rotate_left
               ·simp only [Act.put, List.setIfInBounds_toArray, List.set_cons_zero, List.set_cons_succ, i64_w, i32_w]
                rfl
               refine pure_ (i := 3) (N := some 59) (v := ?_) (a' := ?_) #[false, true, true, true, false, false, false, false, false, false, false] rfl rfl (any_of HT_.out (by kernel_rfl)) (fun _ _ _ h => h) (Or.inl ⟨by rfl, ?_⟩) ?_ ?_
               rotate_left
               ·intro w'
                go_simp
                with_reducible rfl
               rotate_left
               ·simp only [Act.put, List.setIfInBounds_toArray, List.set_cons_zero, List.set_cons_succ, i64_w, i32_w]
                rfl
               refine take_ (i := 0) (N := some 56) (v := ?_) (a' := ?_) #[true, true, true, true, false, false, false, false, false, false, false] rfl rfl (take_ofW HT_.out HW_.out (by kernel_rfl)) (fun _ _ _ h => h) (Or.inl ⟨by rfl, ?_⟩) hHeld ?_ ?_
               rotate_left
               ·rintro w' ⟨s0, s1, s2⟩
                go_simp
                with_reducible rfl
               rotate_left
               ·simp only [Act.put, List.setIfInBounds_toArray, List.set_cons_zero, List.set_cons_succ, i64_w, i32_w]
                rfl
               refine join_ (σ := Value × Nat) 2 #[true, true, true, true, true, true, true, true, true, false, false] (fun s_ => [(60, .tuple #[.agg #[.int .i64 t622, s_.1, .bool t626], .string t627]), (11, .pointer (some ⟨s_.2, 0, none⟩)), (55, .tuple #[.agg #[.int .i64 t622, s_.1, .bool t626], .string t627]), (61, .agg #[.int .i64 t622, s_.1, .bool t626]), (62, .string t627)]) (fun s_ w' => (w'.cell? ⟨gb617, 0, none⟩ = some (.int .i64 t611) ∧ w'.cell? ⟨gb617, 1, none⟩ = some (.slice Ao114 t612.length co114) ∧ w'.cell? ⟨gb617, 2, none⟩ = some (.bool t615)) ∧ (Kd.R (Kd.int .u8) 5 w' w.heap.size (fun k_ => some k_ ≠ (.slice Ao101 t594.length co101 : Value).ownBlock ∧ some k_ ≠ (.slice Ao104 t601.length co104 : Value).ownBlock ∧ some k_ ≠ (.slice Ao114 t612.length co114 : Value).ownBlock ∧ some k_ ≠ (s_.1 : Value).ownBlock) (.slice Ao96 t587.length co96) t587) ∧ (Kd.R (Kd.int .u8) 5 w' w.heap.size (fun k_ => some k_ ≠ (.slice Ao96 t587.length co96 : Value).ownBlock ∧ some k_ ≠ (.slice Ao104 t601.length co104 : Value).ownBlock ∧ some k_ ≠ (.slice Ao114 t612.length co114 : Value).ownBlock ∧ some k_ ≠ (s_.1 : Value).ownBlock) (.slice Ao101 t594.length co101) t594) ∧ (Kd.R (Kd.int .u8) 5 w' w.heap.size (fun k_ => some k_ ≠ (.slice Ao96 t587.length co96 : Value).ownBlock ∧ some k_ ≠ (.slice Ao101 t594.length co101 : Value).ownBlock ∧ some k_ ≠ (.slice Ao114 t612.length co114 : Value).ownBlock ∧ some k_ ≠ (s_.1 : Value).ownBlock) (.slice Ao104 t601.length co104) t601) ∧ (Kd.R (Kd.int .u8) 5 w' w.heap.size (fun k_ => some k_ ≠ (.slice Ao96 t587.length co96 : Value).ownBlock ∧ some k_ ≠ (.slice Ao101 t594.length co101 : Value).ownBlock ∧ some k_ ≠ (.slice Ao104 t601.length co104 : Value).ownBlock ∧ some k_ ≠ (s_.1 : Value).ownBlock) (.slice Ao114 t612.length co114) t612) ∧ (Kd.R (Kd.int .u8) 5 w' w.heap.size (fun k_ => some k_ ≠ (.slice Ao96 t587.length co96 : Value).ownBlock ∧ some k_ ≠ (.slice Ao101 t594.length co101 : Value).ownBlock ∧ some k_ ≠ (.slice Ao104 t601.length co104 : Value).ownBlock ∧ some k_ ≠ (.slice Ao114 t612.length co114 : Value).ownBlock) s_.1 t623) ∧ (w'.heap[gb598]? = some (.cells #[.int .i64 t593, .slice Ao101 t594.length co101, .bool t597] 46 (0, 0))) ∧ (w'.heap[gb617]? = some (.cells #[.int .i64 t611, .slice Ao114 t612.length co114, .bool t615] 46 (0, 0))) ∧ (w'.heap[s_.2]? = some (.cells #[.int .i64 0, .slice none 0 0, .bool false] 46 (0, 0))) ∧ (w.heap.size ≤ s_.2) ∧ (w.heap.size ≤ s_.2) ∧ (gb598 ≠ s_.2) ∧ (s_.2 ≠ gb598) ∧ (gb617 ≠ s_.2) ∧ (s_.2 ≠ gb617) ∧ (Below w.heap.size w w')) ?_ ?_
               rotate_left
               ·intro hCont
                refine two_ (i := 4) (j := 8) (Ni := some 60) (Nj := some 11) #[true, true, true, true, true, false, false, false, false, false, false] #[true, true, true, true, false, false, false, false, true, false, false] rfl rfl rfl rfl (two_of HT_.out (by kernel_rfl)) (by decide) (by decide) (fun K hK => ?_) (fun K hK => ?_)
                ·skip
                 refine goes_ Tryd.func36 (by kernel_rfl) rfl #[.agg #[.int .i64 t611, .slice Ao114 t612.length co114, .bool t615], .slice A119 y618.length c119] (by rfl) rfl rfl ka_ ?_
                 with_reducible refine (impl_Feed.calls (hT := ?sideT) k t611 (fun k_ => some k_ = (.slice Ao114 t612.length co114 : Value).ownBlock) _ _ t612 t615 (fun k_ => True) _ _ y618 t622 t623 t626 t627 _ ?side1 ?side2 A32.out).mono ?_; (case sideT => first | exact HT.out | exact HT.out.below hs_ | exact HT.out.drawn (by repeat (first | exact Drawn0.refl _ | apply Drawn0.step | assumption)))
                 (case side1 => exact Kd.R_V (Kd.R_tight rfl (Kd.R_types (Kd.R_types (HO614.out) BK598.out (by decide)) BK617.out (by decide))))
                 (case side2 => exact Kd.V_mk HC621.out (Kd.F_mono (Kd.C_F (Kd.heap_int .u8) (kc_ HR621.out)) (fun _ _ => trivial)))
                 rintro e w120 ⟨v624, rfl, ho0, hb⟩
                 refine ⟨_, rfl, ?_⟩
                 have n0_ := Aside0.mk (Kd.R_elder' (kr_ HO589) (Kd.R_base ho0) hb)
                 have n1_ := Aside0.mk (Kd.R_elder' (kr_ HO596) (Kd.R_base ho0) hb)
                 have n2_ := Aside0.mk (Kd.R_elder' (kr_ HO603) (Kd.R_base ho0) hb)
                 have n3_ := Aside0.mk (Kd.R_elder' (kr_ HO614) (Kd.R_base ho0) hb)
                 have n4_ := Aside0.mk (Kd.R_lower (Kd.R_new' (Kd.R_new' (Kd.R_new' (Kd.R_new' (Kd.R_mono (ok' := fun k_ => True) ho0 (fun _ hk_ => trivial)) (Kd.R_lt (kr_ HO589))) (Kd.R_lt (kr_ HO596))) (Kd.R_lt (kr_ HO603))) (Kd.R_lt (kr_ HO614))) (below_size hs_))
                 have n5_ := Aside0.mk (blk_below (g := gb598) (o := .cells #[.int .i64 t593, .slice Ao101 t594.length co101, .bool t597] 46 (0, 0)) (kb_ BK598) hb)
                 have n6_ := Aside0.mk (blk_below (g := gb617) (o := .cells #[.int .i64 t611, .slice Ao114 t612.length co114, .bool t615] 46 (0, 0)) (kb_ BK617) hb)
                 have n7_ := Aside0.mk (Kd.C_below (kc_ HR621.out) hb)
                 have n8_ := Aside0.mk (below_step hs_ hb)
                 clear HO589
                 clear HO596
                 clear HO603
                 clear HO614
                 clear BK598
                 clear BK617
                 clear HR621
                 clear HB
                 have HO589 := n0_
                 have HO596 := n1_
                 have HO603 := n2_
                 have HO614 := n3_
                 have HO625 := n4_
                 have BK598 := n5_
                 have BK617 := n6_
                 have HR621 := n7_
                 have HB := n8_
                 clear n0_ n1_ n2_ n3_ n4_ n5_ n6_ n7_ n8_
                 (try clear hb)
                 (try clear hb2)
                 (try clear hk)
                 (try clear hi)
                 (try clear ho0)
                 refine hK.out _ _ ⟨(blk_cell BK617.out 0).trans rfl, (blk_cell BK617.out 1).trans rfl, (blk_cell BK617.out 2).trans rfl⟩ (fun hHeld => ?_)
                 clear hK K
                 refine norm_ (a' := ?_) ?_ ?_
                 rotate_left
                 ·show Act.put _ (some 60) _ = _
                  simp only [Act.put, List.setIfInBounds_toArray, List.set_cons_zero, List.set_cons_succ, i64_w, i32_w]
                  rfl
                 refine pure_ (i := 5) (N := some 55) (v := ?_) (a' := ?_) #[true, true, true, true, true, true, false, false, false, false, false] rfl rfl (any_of HT_.out (by kernel_rfl)) (fun _ _ _ h => h) (Or.inl ⟨by rfl, ?_⟩) ?_ ?_
                 rotate_left
                 ·intro w'
                  go_simp
                  with_reducible rfl
                 rotate_left
                 ·simp only [Act.put, List.setIfInBounds_toArray, List.set_cons_zero, List.set_cons_succ, i64_w, i32_w]
                  rfl
                 refine pure_ (i := 6) (N := some 61) (v := ?_) (a' := ?_) #[true, true, true, true, true, true, true, false, false, false, false] rfl rfl (any_of HT_.out (by kernel_rfl)) (fun _ _ _ h => h) (Or.inl ⟨by rfl, ?_⟩) ?_ ?_
                 rotate_left
                 ·intro w'
                  go_simp
                  with_reducible rfl
                 rotate_left
                 ·simp only [Act.put, List.setIfInBounds_toArray, List.set_cons_zero, List.set_cons_succ, i64_w, i32_w]
                  rfl
                 refine pure_ (i := 7) (N := some 62) (v := ?_) (a' := ?_) #[true, true, true, true, true, true, true, true, false, false, false] rfl rfl (any_of HT_.out (by kernel_rfl)) (fun _ _ _ h => h) (Or.inl ⟨by rfl, ?_⟩) ?_ ?_
                 rotate_left
                 ·intro w'
                  go_simp
                  with_reducible rfl
                 rotate_left
                 ·simp only [Act.put, List.setIfInBounds_toArray, List.set_cons_zero, List.set_cons_succ, i64_w, i32_w]
                  rfl
                 refine one_ (i := 8) (N := some 11) #[true, true, true, true, true, true, true, true, true, false, false] rfl rfl (one_of HT_.out (by kernel_rfl)) (by decide) (fun K hK => ?_)
                 refine box_step ?hg (N := 11) ?hd (cs := #[.int .i64 0, .slice none 0 0, .bool false]) (t := 46) ?hr ?_; (case hd => rfl); (case hg => rfl); (case hr => first | (go_simp; done) | (go_simp; rfl))
                 intro gb628 hg w121 hbox hb
                 have n0_ := Aside0.mk (Kd.R_below (kr_ HO589) hb)
                 have n1_ := Aside0.mk (Kd.R_below (kr_ HO596) hb)
                 have n2_ := Aside0.mk (Kd.R_below (kr_ HO603) hb)
                 have n3_ := Aside0.mk (Kd.R_below (kr_ HO614) hb)
                 have n4_ := Aside0.mk (Kd.R_below (kr_ HO625) hb)
                 have n5_ := Aside0.mk (blk_below (g := gb598) (o := .cells #[.int .i64 t593, .slice Ao101 t594.length co101, .bool t597] 46 (0, 0)) (kb_ BK598) hb)
                 have n6_ := Aside0.mk (blk_below (g := gb617) (o := .cells #[.int .i64 t611, .slice Ao114 t612.length co114, .bool t615] 46 (0, 0)) (kb_ BK617) hb)
                 have n7_ := Aside0.mk (Kd.C_below (kc_ HR621.out) hb)
                 have n8_ := Aside0.mk (below_step hs_ hb)
                 have n9_ := Aside0.mk (hbox)
                 have n10_ := Aside0.mk ((by rw [hg]; exact (below_size hs_) : w.heap.size ≤ gb628))
                 have n11_ := Aside0.mk ((by rw [hg]; exact (below_size hs_) : w.heap.size ≤ gb628))
                 have n12_ := Aside0.mk ((by rw [hg]; exact Nat.ne_of_lt (blk_lt (g := gb598) (o := .cells #[.int .i64 t593, .slice Ao101 t594.length co101, .bool t597] 46 (0, 0)) (kb_ BK598)) : gb598 ≠ gb628))
                 have n13_ := Aside0.mk ((by rw [hg]; exact Nat.ne_of_gt (blk_lt (g := gb598) (o := .cells #[.int .i64 t593, .slice Ao101 t594.length co101, .bool t597] 46 (0, 0)) (kb_ BK598)) : gb628 ≠ gb598))
                 have n14_ := Aside0.mk ((by rw [hg]; exact Nat.ne_of_lt (blk_lt (g := gb617) (o := .cells #[.int .i64 t611, .slice Ao114 t612.length co114, .bool t615] 46 (0, 0)) (kb_ BK617)) : gb617 ≠ gb628))
                 have n15_ := Aside0.mk ((by rw [hg]; exact Nat.ne_of_gt (blk_lt (g := gb617) (o := .cells #[.int .i64 t611, .slice Ao114 t612.length co114, .bool t615] 46 (0, 0)) (kb_ BK617)) : gb628 ≠ gb617))
                 clear HO589
                 clear HO596
                 clear HO603
                 clear HO614
                 clear HO625
                 clear BK598
                 clear BK617
                 clear HR621
                 clear HB
                 have HO589 := n0_
                 have HO596 := n1_
                 have HO603 := n2_
                 have HO614 := n3_
                 have HO625 := n4_
                 have BK598 := n5_
                 have BK617 := n6_
                 have HR621 := n7_
                 have HB := n8_
                 have BK628 := n9_
                 have GW628 := n10_
                 have GE628 := n11_
                 have NB598_628 := n12_
                 have NB628_598 := n13_
                 have NB617_628 := n14_
                 have NB628_617 := n15_
                 clear n0_ n1_ n2_ n3_ n4_ n5_ n6_ n7_ n8_ n9_ n10_ n11_ n12_ n13_ n14_ n15_
                 clear hb hbox hg
                 refine hK.out _ _ ⟨(blk_cell BK617.out 0).trans rfl, (blk_cell BK617.out 1).trans rfl, (blk_cell BK617.out 2).trans rfl⟩ (fun hHeld => ?_)
                 clear hK K
                 refine norm_ (a' := ?_) ?_ ?_
                 rotate_left
                 ·show Act.put _ (some 11) _ = _
                  simp only [Act.put, List.setIfInBounds_toArray, List.set_cons_zero, List.set_cons_succ, i64_w, i32_w]
                  rfl
                 exact norm_ (by simp only [putAll, Act.put, List.setIfInBounds_toArray, List.set_cons_zero, List.set_cons_succ]) (hCont (v624, gb628) _ ⟨hHeld, (by (with_reducible repeat (first | apply Kd.R_alloc | apply Kd.R_drewN | apply Kd.R_drew)); exact Kd.R_mono HO589.out (fun _ hk => ⟨hk.1.1, ⟨hk.1.2.1, ⟨hk.1.2.2, hk.2⟩⟩⟩)), (by (with_reducible repeat (first | apply Kd.R_alloc | apply Kd.R_drewN | apply Kd.R_drew)); exact Kd.R_mono HO596.out (fun _ hk => ⟨hk.1.1, ⟨hk.1.2.1, ⟨hk.1.2.2, hk.2⟩⟩⟩)), (by (with_reducible repeat (first | apply Kd.R_alloc | apply Kd.R_drewN | apply Kd.R_drew)); exact Kd.R_mono HO603.out (fun _ hk => ⟨hk.1.1, ⟨hk.1.2.1, ⟨hk.1.2.2, hk.2⟩⟩⟩)), (by (with_reducible repeat (first | apply Kd.R_alloc | apply Kd.R_drewN | apply Kd.R_drew)); exact Kd.R_mono HO614.out (fun _ hk => ⟨hk.1.1, ⟨hk.1.2.1, ⟨hk.1.2.2, hk.2⟩⟩⟩)), (by (with_reducible repeat (first | apply Kd.R_alloc | apply Kd.R_drewN | apply Kd.R_drew)); exact Kd.R_mono HO625.out (fun _ hk => ⟨hk.1.1.1.2, ⟨hk.1.1.2, ⟨hk.1.2, hk.2⟩⟩⟩)), (kb_ BK598), (kb_ BK617), (kb_ BK628), GW628.out, GE628.out, NB598_628.out, NB628_598.out, NB617_628.out, NB628_617.out, hs_⟩)
                ·skip
                 refine box_step ?hg (N := 11) ?hd (cs := #[.int .i64 0, .slice none 0 0, .bool false]) (t := 46) ?hr ?_; (case hd => rfl); (case hg => rfl); (case hr => first | (go_simp; done) | (go_simp; rfl))
                 intro gb628 hg w120 hbox hb
                 have n0_ := Aside0.mk (Kd.R_below (kr_ HO589) hb)
                 have n1_ := Aside0.mk (Kd.R_below (kr_ HO596) hb)
                 have n2_ := Aside0.mk (Kd.R_below (kr_ HO603) hb)
                 have n3_ := Aside0.mk (Kd.R_below (kr_ HO614) hb)
                 have n4_ := Aside0.mk (blk_below (g := gb598) (o := .cells #[.int .i64 t593, .slice Ao101 t594.length co101, .bool t597] 46 (0, 0)) (kb_ BK598) hb)
                 have n5_ := Aside0.mk (blk_below (g := gb617) (o := .cells #[.int .i64 t611, .slice Ao114 t612.length co114, .bool t615] 46 (0, 0)) (kb_ BK617) hb)
                 have n6_ := Aside0.mk (Kd.C_below (kc_ HR621.out) hb)
                 have n7_ := Aside0.mk (below_step hs_ hb)
                 have n8_ := Aside0.mk (hbox)
                 have n9_ := Aside0.mk ((by rw [hg]; exact (below_size hs_) : w.heap.size ≤ gb628))
                 have n10_ := Aside0.mk ((by rw [hg]; exact (below_size hs_) : w.heap.size ≤ gb628))
                 have n11_ := Aside0.mk ((by rw [hg]; exact Nat.ne_of_lt (blk_lt (g := gb598) (o := .cells #[.int .i64 t593, .slice Ao101 t594.length co101, .bool t597] 46 (0, 0)) (kb_ BK598)) : gb598 ≠ gb628))
                 have n12_ := Aside0.mk ((by rw [hg]; exact Nat.ne_of_gt (blk_lt (g := gb598) (o := .cells #[.int .i64 t593, .slice Ao101 t594.length co101, .bool t597] 46 (0, 0)) (kb_ BK598)) : gb628 ≠ gb598))
                 have n13_ := Aside0.mk ((by rw [hg]; exact Nat.ne_of_lt (blk_lt (g := gb617) (o := .cells #[.int .i64 t611, .slice Ao114 t612.length co114, .bool t615] 46 (0, 0)) (kb_ BK617)) : gb617 ≠ gb628))
                 have n14_ := Aside0.mk ((by rw [hg]; exact Nat.ne_of_gt (blk_lt (g := gb617) (o := .cells #[.int .i64 t611, .slice Ao114 t612.length co114, .bool t615] 46 (0, 0)) (kb_ BK617)) : gb628 ≠ gb617))
                 clear HO589
                 clear HO596
                 clear HO603
                 clear HO614
                 clear BK598
                 clear BK617
                 clear HR621
                 clear HB
                 have HO589 := n0_
                 have HO596 := n1_
                 have HO603 := n2_
                 have HO614 := n3_
                 have BK598 := n4_
                 have BK617 := n5_
                 have HR621 := n6_
                 have HB := n7_
                 have BK628 := n8_
                 have GW628 := n9_
                 have GE628 := n10_
                 have NB598_628 := n11_
                 have NB628_598 := n12_
                 have NB617_628 := n13_
                 have NB628_617 := n14_
                 clear n0_ n1_ n2_ n3_ n4_ n5_ n6_ n7_ n8_ n9_ n10_ n11_ n12_ n13_ n14_
                 clear hb hbox hg
                 refine hK.out _ _ ⟨(blk_cell BK617.out 0).trans rfl, (blk_cell BK617.out 1).trans rfl, (blk_cell BK617.out 2).trans rfl⟩ (fun hHeld => ?_)
                 clear hK K
                 refine norm_ (a' := ?_) ?_ ?_
                 rotate_left
                 ·show Act.put _ (some 11) _ = _
                  simp only [Act.put, List.setIfInBounds_toArray, List.set_cons_zero, List.set_cons_succ, i64_w, i32_w]
                  rfl
                 refine one_ (i := 4) (N := some 60) #[true, true, true, true, true, false, false, false, true, false, false] rfl rfl (one_of HT_.out (by kernel_rfl)) (by decide) (fun K hK => ?_)
                 refine goes_ Tryd.func36 (by kernel_rfl) rfl #[.agg #[.int .i64 t611, .slice Ao114 t612.length co114, .bool t615], .slice A119 y618.length c119] (by rfl) rfl rfl ka_ ?_
                 with_reducible refine (impl_Feed.calls (hT := ?sideT) k t611 (fun k_ => some k_ = (.slice Ao114 t612.length co114 : Value).ownBlock) _ _ t612 t615 (fun k_ => True) _ _ y618 t622 t623 t626 t627 _ ?side1 ?side2 A32.out).mono ?_; (case sideT => first | exact HT.out | exact HT.out.below hs_ | exact HT.out.drawn (by repeat (first | exact Drawn0.refl _ | apply Drawn0.step | assumption)))
                 (case side1 => exact Kd.R_V (Kd.R_tight rfl (Kd.R_types (Kd.R_types (Kd.R_types (HO614.out) BK598.out (by decide)) BK617.out (by decide)) BK628.out (by decide))))
                 (case side2 => exact Kd.V_mk HC621.out (Kd.F_mono (Kd.C_F (Kd.heap_int .u8) (kc_ HR621.out)) (fun _ _ => trivial)))
                 rintro e w121 ⟨v624, rfl, ho0, hb⟩
                 refine ⟨_, rfl, ?_⟩
                 have n0_ := Aside0.mk (Kd.R_elder' (kr_ HO589) (Kd.R_base ho0) hb)
                 have n1_ := Aside0.mk (Kd.R_elder' (kr_ HO596) (Kd.R_base ho0) hb)
                 have n2_ := Aside0.mk (Kd.R_elder' (kr_ HO603) (Kd.R_base ho0) hb)
                 have n3_ := Aside0.mk (Kd.R_elder' (kr_ HO614) (Kd.R_base ho0) hb)
                 have n4_ := Aside0.mk (Kd.R_lower (Kd.R_new' (Kd.R_new' (Kd.R_new' (Kd.R_new' (Kd.R_mono (ok' := fun k_ => True) ho0 (fun _ hk_ => trivial)) (Kd.R_lt (kr_ HO589))) (Kd.R_lt (kr_ HO596))) (Kd.R_lt (kr_ HO603))) (Kd.R_lt (kr_ HO614))) (below_size hs_))
                 have n5_ := Aside0.mk (blk_below (g := gb598) (o := .cells #[.int .i64 t593, .slice Ao101 t594.length co101, .bool t597] 46 (0, 0)) (kb_ BK598) hb)
                 have n6_ := Aside0.mk (blk_below (g := gb617) (o := .cells #[.int .i64 t611, .slice Ao114 t612.length co114, .bool t615] 46 (0, 0)) (kb_ BK617) hb)
                 have n7_ := Aside0.mk (Kd.C_below (kc_ HR621.out) hb)
                 have n8_ := Aside0.mk (blk_below (g := gb628) (o := .cells #[.int .i64 0, .slice none 0 0, .bool false] 46 (0, 0)) (kb_ BK628) hb)
                 have n9_ := Aside0.mk (below_step hs_ hb)
                 clear HO589
                 clear HO596
                 clear HO603
                 clear HO614
                 clear BK598
                 clear BK617
                 clear HR621
                 clear BK628
                 clear HB
                 have HO589 := n0_
                 have HO596 := n1_
                 have HO603 := n2_
                 have HO614 := n3_
                 have HO625 := n4_
                 have BK598 := n5_
                 have BK617 := n6_
                 have HR621 := n7_
                 have BK628 := n8_
                 have HB := n9_
                 clear n0_ n1_ n2_ n3_ n4_ n5_ n6_ n7_ n8_ n9_
                 (try clear hb)
                 (try clear hb2)
                 (try clear hk)
                 (try clear hi)
                 (try clear ho0)
                 refine hK.out _ _ ⟨(blk_cell BK617.out 0).trans rfl, (blk_cell BK617.out 1).trans rfl, (blk_cell BK617.out 2).trans rfl⟩ (fun hHeld => ?_)
                 clear hK K
                 refine norm_ (a' := ?_) ?_ ?_
                 rotate_left
                 ·show Act.put _ (some 60) _ = _
                  simp only [Act.put, List.setIfInBounds_toArray, List.set_cons_zero, List.set_cons_succ, i64_w, i32_w]
                  rfl
                 refine pure_ (i := 5) (N := some 55) (v := ?_) (a' := ?_) #[true, true, true, true, true, true, false, false, true, false, false] rfl rfl (any_of HT_.out (by kernel_rfl)) (fun _ _ _ h => h) (Or.inl ⟨by rfl, ?_⟩) ?_ ?_
                 rotate_left
                 ·intro w'
                  go_simp
                  with_reducible rfl
                 rotate_left
                 ·simp only [Act.put, List.setIfInBounds_toArray, List.set_cons_zero, List.set_cons_succ, i64_w, i32_w]
                  rfl
                 refine pure_ (i := 6) (N := some 61) (v := ?_) (a' := ?_) #[true, true, true, true, true, true, true, false, true, false, false] rfl rfl (any_of HT_.out (by kernel_rfl)) (fun _ _ _ h => h) (Or.inl ⟨by rfl, ?_⟩) ?_ ?_
                 rotate_left
                 ·intro w'
                  go_simp
                  with_reducible rfl
                 rotate_left
                 ·simp only [Act.put, List.setIfInBounds_toArray, List.set_cons_zero, List.set_cons_succ, i64_w, i32_w]
                  rfl
                 refine pure_ (i := 7) (N := some 62) (v := ?_) (a' := ?_) #[true, true, true, true, true, true, true, true, true, false, false] rfl rfl (any_of HT_.out (by kernel_rfl)) (fun _ _ _ h => h) (Or.inl ⟨by rfl, ?_⟩) ?_ ?_
                 rotate_left
                 ·intro w'
                  go_simp
                  with_reducible rfl
                 rotate_left
                 ·simp only [Act.put, List.setIfInBounds_toArray, List.set_cons_zero, List.set_cons_succ, i64_w, i32_w]
                  rfl
                 exact norm_ (by simp only [putAll, Act.put, List.setIfInBounds_toArray, List.set_cons_zero, List.set_cons_succ]) (hCont (v624, gb628) _ ⟨hHeld, (by (with_reducible repeat (first | apply Kd.R_alloc | apply Kd.R_drewN | apply Kd.R_drew)); exact Kd.R_mono HO589.out (fun _ hk => ⟨hk.1.1, ⟨hk.1.2.1, ⟨hk.1.2.2, hk.2⟩⟩⟩)), (by (with_reducible repeat (first | apply Kd.R_alloc | apply Kd.R_drewN | apply Kd.R_drew)); exact Kd.R_mono HO596.out (fun _ hk => ⟨hk.1.1, ⟨hk.1.2.1, ⟨hk.1.2.2, hk.2⟩⟩⟩)), (by (with_reducible repeat (first | apply Kd.R_alloc | apply Kd.R_drewN | apply Kd.R_drew)); exact Kd.R_mono HO603.out (fun _ hk => ⟨hk.1.1, ⟨hk.1.2.1, ⟨hk.1.2.2, hk.2⟩⟩⟩)), (by (with_reducible repeat (first | apply Kd.R_alloc | apply Kd.R_drewN | apply Kd.R_drew)); exact Kd.R_mono HO614.out (fun _ hk => ⟨hk.1.1, ⟨hk.1.2.1, ⟨hk.1.2.2, hk.2⟩⟩⟩)), (by (with_reducible repeat (first | apply Kd.R_alloc | apply Kd.R_drewN | apply Kd.R_drew)); exact Kd.R_mono HO625.out (fun _ hk => ⟨hk.1.1.1.2, ⟨hk.1.1.2, ⟨hk.1.2, hk.2⟩⟩⟩)), (kb_ BK598), (kb_ BK617), (kb_ BK628), GW628.out, GE628.out, NB598_628.out, NB628_598.out, NB617_628.out, NB628_617.out, hs_⟩)
               rintro ⟨v624, gb628⟩ w122 ⟨hS_, h0_, h1_, h2_, h3_, h4_, h5_, h6_, h7_, h8_, h9_, h10_, h11_, h12_, h13_, h14_⟩
               have n0_ : Aside0 (Kd.R (Kd.int .u8) 5 w122 w.heap.size (fun k_ => some k_ ≠ (.slice Ao101 t594.length co101 : Value).ownBlock ∧ some k_ ≠ (.slice Ao104 t601.length co104 : Value).ownBlock ∧ some k_ ≠ (.slice Ao114 t612.length co114 : Value).ownBlock ∧ some k_ ≠ (v624 : Value).ownBlock) (.slice Ao96 t587.length co96) t587) := ⟨h0_⟩
               have n1_ : Aside0 (Kd.R (Kd.int .u8) 5 w122 w.heap.size (fun k_ => some k_ ≠ (.slice Ao96 t587.length co96 : Value).ownBlock ∧ some k_ ≠ (.slice Ao104 t601.length co104 : Value).ownBlock ∧ some k_ ≠ (.slice Ao114 t612.length co114 : Value).ownBlock ∧ some k_ ≠ (v624 : Value).ownBlock) (.slice Ao101 t594.length co101) t594) := ⟨h1_⟩
               have n2_ : Aside0 (Kd.R (Kd.int .u8) 5 w122 w.heap.size (fun k_ => some k_ ≠ (.slice Ao96 t587.length co96 : Value).ownBlock ∧ some k_ ≠ (.slice Ao101 t594.length co101 : Value).ownBlock ∧ some k_ ≠ (.slice Ao114 t612.length co114 : Value).ownBlock ∧ some k_ ≠ (v624 : Value).ownBlock) (.slice Ao104 t601.length co104) t601) := ⟨h2_⟩
               have n3_ : Aside0 (Kd.R (Kd.int .u8) 5 w122 w.heap.size (fun k_ => some k_ ≠ (.slice Ao96 t587.length co96 : Value).ownBlock ∧ some k_ ≠ (.slice Ao101 t594.length co101 : Value).ownBlock ∧ some k_ ≠ (.slice Ao104 t601.length co104 : Value).ownBlock ∧ some k_ ≠ (v624 : Value).ownBlock) (.slice Ao114 t612.length co114) t612) := ⟨h3_⟩
               have n4_ : Aside0 (Kd.R (Kd.int .u8) 5 w122 w.heap.size (fun k_ => some k_ ≠ (.slice Ao96 t587.length co96 : Value).ownBlock ∧ some k_ ≠ (.slice Ao101 t594.length co101 : Value).ownBlock ∧ some k_ ≠ (.slice Ao104 t601.length co104 : Value).ownBlock ∧ some k_ ≠ (.slice Ao114 t612.length co114 : Value).ownBlock) v624 t623) := ⟨h4_⟩
               have n5_ : Aside0 (w122.heap[gb598]? = some (.cells #[.int .i64 t593, .slice Ao101 t594.length co101, .bool t597] 46 (0, 0))) := ⟨h5_⟩
               have n6_ : Aside0 (w122.heap[gb617]? = some (.cells #[.int .i64 t611, .slice Ao114 t612.length co114, .bool t615] 46 (0, 0))) := ⟨h6_⟩
               have n7_ : Aside0 (w122.heap[gb628]? = some (.cells #[.int .i64 0, .slice none 0 0, .bool false] 46 (0, 0))) := ⟨h7_⟩
               have n8_ : Aside0 (w.heap.size ≤ gb628) := ⟨h8_⟩
               have n9_ : Aside0 (w.heap.size ≤ gb628) := ⟨h9_⟩
               have n10_ : Aside0 (gb598 ≠ gb628) := ⟨h10_⟩
               have n11_ : Aside0 (gb628 ≠ gb598) := ⟨h11_⟩
               have n12_ : Aside0 (gb617 ≠ gb628) := ⟨h12_⟩
               have n13_ : Aside0 (gb628 ≠ gb617) := ⟨h13_⟩
               have n14_ : Aside0 (Below w.heap.size w w122) := ⟨h14_⟩
               clear HO589
               clear HO596
               clear HO603
               clear HO614
               clear BK598
               clear BK617
               clear HB
               clear h0_ h1_ h2_ h3_ h4_ h5_ h6_ h7_ h8_ h9_ h10_ h11_ h12_ h13_ h14_
               have HO589 := n0_
               have HO596 := n1_
               have HO603 := n2_
               have HO614 := n3_
               have HO625 := n4_
               have BK598 := n5_
               have BK617 := n6_
               have BK628 := n7_
               have GW628 := n8_
               have GE628 := n9_
               have NB598_628 := n10_
               have NB628_598 := n11_
               have NB617_628 := n12_
               have NB628_617 := n13_
               have HB := n14_
               clear n0_ n1_ n2_ n3_ n4_ n5_ n6_ n7_ n8_ n9_ n10_ n11_ n12_ n13_ n14_
               have hHeld : w122.cell? ⟨gb617, 0, none⟩ = some (.int .i64 t611) ∧ w122.cell? ⟨gb617, 1, none⟩ = some (.slice Ao114 t612.length co114) ∧ w122.cell? ⟨gb617, 2, none⟩ = some (.bool t615) := hS_
               obtain ⟨Ao124, co124, eo124⟩ := Kd.R_slice HO625.out
               (first | subst eo124 | (injection eo124 with f1_ f2_ f3_; have f4_ := f1_.symm; have f5_ := f3_.symm; clear f1_ f2_ f3_; subst f4_; subst f5_))
               refine norm_ (a' := ?_) ?_ ?_
               rotate_left
               ·simp only [putAll, Act.put, List.setIfInBounds_toArray, List.set_cons_zero, List.set_cons_succ]
                rfl
               refine one_ (i := 9) (N := none) #[true, true, true, true, true, true, true, true, true, true, false] rfl rfl (one_of HT_.out (by kernel_rfl)) (by decide) (fun K hK => ?_)
               have hs123 : w122.cell? ⟨gb628, 0, none⟩ = some (.int .i64 0) := (blk_cell BK628.out 0).trans rfl
               have hfs123 := blk_frozen BK628.out 0
               have hns123_0 := NB598_628.out
               have hns123_1 := NB617_628.out
               have hms123_0 := NB628_598.out
               have hms123_1 := NB628_617.out
               have hs125 : w122.cell? ⟨gb628, 1, none⟩ = some (.slice none 0 0) := (blk_cell BK628.out 1).trans rfl
               have hfs125 := blk_frozen BK628.out 1
               have hns125_0 := NB598_628.out
               have hns125_1 := NB617_628.out
               have hms125_0 := NB628_598.out
               have hms125_1 := NB628_617.out
               have hs126 : w122.cell? ⟨gb628, 2, none⟩ = some (.bool false) := (blk_cell BK628.out 2).trans rfl
               have hfs126 := blk_frozen BK628.out 2
               have hns126_0 := NB598_628.out
               have hns126_1 := NB617_628.out
               have hms126_0 := NB628_598.out
               have hms126_1 := NB628_617.out
               refine skip_ (w1 := ?_) (by rfl) rfl ?_ ?_
               rotate_left
               ·go_simp
                rfl
               refine hK.out _ _ ⟨((cell_far (p := ⟨gb628, _, none⟩) NB617_628.out _).trans (((cell_far (p := ⟨gb628, _, none⟩) NB617_628.out _).trans (((cell_far (p := ⟨gb628, _, none⟩) NB617_628.out _).trans (hHeld.1)))))), ((cell_far (p := ⟨gb628, _, none⟩) NB617_628.out _).trans (((cell_far (p := ⟨gb628, _, none⟩) NB617_628.out _).trans (((cell_far (p := ⟨gb628, _, none⟩) NB617_628.out _).trans (hHeld.2.1)))))), ((cell_far (p := ⟨gb628, _, none⟩) NB617_628.out _).trans (((cell_far (p := ⟨gb628, _, none⟩) NB617_628.out _).trans (((cell_far (p := ⟨gb628, _, none⟩) NB617_628.out _).trans (hHeld.2.2))))))⟩ (fun hHeld => ?_)
               clear hK K
               refine pure_ (i := 10) (N := some 12) (v := ?_) (a' := ?_) #[true, true, true, true, true, true, true, true, true, true, true] rfl rfl (any_of HT_.out (by kernel_rfl)) (fun _ _ _ h => h) (Or.inl ⟨by rfl, ?_⟩) ?_ ?_
               rotate_left
               ·intro w'
                go_simp
                with_reducible rfl
               rotate_left
               ·simp only [Act.put, List.setIfInBounds_toArray, List.set_cons_zero, List.set_cons_succ, i64_w, i32_w]
                rfl
               refine done_ (done_of HT_.out (by kernel_rfl)) ?_
               have n0_ : Aside0 (Kd.R (Kd.int .u8) 5 (((w122.setCell ⟨gb628, 0, none⟩ (.int .i64 t622)).setCell ⟨gb628, 1, none⟩ (.slice Ao124 t623.length co124)).setCell ⟨gb628, 2, none⟩ (.bool t626)) w.heap.size (fun k_ => some k_ ≠ (.slice Ao101 t594.length co101 : Value).ownBlock ∧ some k_ ≠ (.slice Ao104 t601.length co104 : Value).ownBlock ∧ some k_ ≠ (.slice Ao114 t612.length co114 : Value).ownBlock ∧ some k_ ≠ (.slice Ao124 t623.length co124 : Value).ownBlock) (.slice Ao96 t587.length co96) t587) := ⟨by (with_reducible repeat (first | apply Kd.R_alloc | apply Kd.R_drewN | apply Kd.R_drew)); exact Kd.R_mono (Kd.R_far (p := ⟨gb628, 2, none⟩) (Kd.R_far (p := ⟨gb628, 1, none⟩) (Kd.R_far (p := ⟨gb628, 0, none⟩) (Kd.R_types HO589.out BK628.out (by decide)) (fun _ hk => hk.2) (.int .i64 t622)) (fun _ hk => hk.2) (.slice Ao124 t623.length co124)) (fun _ hk => hk.2) (.bool t626)) (fun _ hk => ⟨hk.1.1, ⟨hk.1.2.1, ⟨hk.1.2.2.1, hk.1.2.2.2⟩⟩⟩)⟩
               have n1_ : Aside0 (Kd.R (Kd.int .u8) 5 (((w122.setCell ⟨gb628, 0, none⟩ (.int .i64 t622)).setCell ⟨gb628, 1, none⟩ (.slice Ao124 t623.length co124)).setCell ⟨gb628, 2, none⟩ (.bool t626)) w.heap.size (fun k_ => some k_ ≠ (.slice Ao96 t587.length co96 : Value).ownBlock ∧ some k_ ≠ (.slice Ao104 t601.length co104 : Value).ownBlock ∧ some k_ ≠ (.slice Ao114 t612.length co114 : Value).ownBlock ∧ some k_ ≠ (.slice Ao124 t623.length co124 : Value).ownBlock) (.slice Ao101 t594.length co101) t594) := ⟨by (with_reducible repeat (first | apply Kd.R_alloc | apply Kd.R_drewN | apply Kd.R_drew)); exact Kd.R_mono (Kd.R_far (p := ⟨gb628, 2, none⟩) (Kd.R_far (p := ⟨gb628, 1, none⟩) (Kd.R_far (p := ⟨gb628, 0, none⟩) (Kd.R_types HO596.out BK628.out (by decide)) (fun _ hk => hk.2) (.int .i64 t622)) (fun _ hk => hk.2) (.slice Ao124 t623.length co124)) (fun _ hk => hk.2) (.bool t626)) (fun _ hk => ⟨hk.1.1, ⟨hk.1.2.1, ⟨hk.1.2.2.1, hk.1.2.2.2⟩⟩⟩)⟩
               have n2_ : Aside0 (Kd.R (Kd.int .u8) 5 (((w122.setCell ⟨gb628, 0, none⟩ (.int .i64 t622)).setCell ⟨gb628, 1, none⟩ (.slice Ao124 t623.length co124)).setCell ⟨gb628, 2, none⟩ (.bool t626)) w.heap.size (fun k_ => some k_ ≠ (.slice Ao96 t587.length co96 : Value).ownBlock ∧ some k_ ≠ (.slice Ao101 t594.length co101 : Value).ownBlock ∧ some k_ ≠ (.slice Ao114 t612.length co114 : Value).ownBlock ∧ some k_ ≠ (.slice Ao124 t623.length co124 : Value).ownBlock) (.slice Ao104 t601.length co104) t601) := ⟨by (with_reducible repeat (first | apply Kd.R_alloc | apply Kd.R_drewN | apply Kd.R_drew)); exact Kd.R_mono (Kd.R_far (p := ⟨gb628, 2, none⟩) (Kd.R_far (p := ⟨gb628, 1, none⟩) (Kd.R_far (p := ⟨gb628, 0, none⟩) (Kd.R_types HO603.out BK628.out (by decide)) (fun _ hk => hk.2) (.int .i64 t622)) (fun _ hk => hk.2) (.slice Ao124 t623.length co124)) (fun _ hk => hk.2) (.bool t626)) (fun _ hk => ⟨hk.1.1, ⟨hk.1.2.1, ⟨hk.1.2.2.1, hk.1.2.2.2⟩⟩⟩)⟩
               have n3_ : Aside0 (Kd.R (Kd.int .u8) 5 (((w122.setCell ⟨gb628, 0, none⟩ (.int .i64 t622)).setCell ⟨gb628, 1, none⟩ (.slice Ao124 t623.length co124)).setCell ⟨gb628, 2, none⟩ (.bool t626)) w.heap.size (fun k_ => some k_ ≠ (.slice Ao96 t587.length co96 : Value).ownBlock ∧ some k_ ≠ (.slice Ao101 t594.length co101 : Value).ownBlock ∧ some k_ ≠ (.slice Ao104 t601.length co104 : Value).ownBlock ∧ some k_ ≠ (.slice Ao124 t623.length co124 : Value).ownBlock) (.slice Ao114 t612.length co114) t612) := ⟨by (with_reducible repeat (first | apply Kd.R_alloc | apply Kd.R_drewN | apply Kd.R_drew)); exact Kd.R_mono (Kd.R_far (p := ⟨gb628, 2, none⟩) (Kd.R_far (p := ⟨gb628, 1, none⟩) (Kd.R_far (p := ⟨gb628, 0, none⟩) (Kd.R_types HO614.out BK628.out (by decide)) (fun _ hk => hk.2) (.int .i64 t622)) (fun _ hk => hk.2) (.slice Ao124 t623.length co124)) (fun _ hk => hk.2) (.bool t626)) (fun _ hk => ⟨hk.1.1, ⟨hk.1.2.1, ⟨hk.1.2.2.1, hk.1.2.2.2⟩⟩⟩)⟩
               have n4_ : Aside0 (Kd.R (Kd.int .u8) 5 (((w122.setCell ⟨gb628, 0, none⟩ (.int .i64 t622)).setCell ⟨gb628, 1, none⟩ (.slice Ao124 t623.length co124)).setCell ⟨gb628, 2, none⟩ (.bool t626)) w.heap.size (fun k_ => some k_ ≠ (.slice Ao96 t587.length co96 : Value).ownBlock ∧ some k_ ≠ (.slice Ao101 t594.length co101 : Value).ownBlock ∧ some k_ ≠ (.slice Ao104 t601.length co104 : Value).ownBlock ∧ some k_ ≠ (.slice Ao114 t612.length co114 : Value).ownBlock) (.slice Ao124 t623.length co124) t623) := ⟨by (with_reducible repeat (first | apply Kd.R_alloc | apply Kd.R_drewN | apply Kd.R_drew)); exact Kd.R_mono (Kd.R_far (p := ⟨gb628, 2, none⟩) (Kd.R_far (p := ⟨gb628, 1, none⟩) (Kd.R_far (p := ⟨gb628, 0, none⟩) (Kd.R_types HO625.out BK628.out (by decide)) (fun _ hk => hk.2) (.int .i64 t622)) (fun _ hk => hk.2) (.slice Ao124 t623.length co124)) (fun _ hk => hk.2) (.bool t626)) (fun _ hk => ⟨hk.1.1, ⟨hk.1.2.1, ⟨hk.1.2.2.1, hk.1.2.2.2⟩⟩⟩)⟩
               have n5_ : Aside0 ((((w122.setCell ⟨gb628, 0, none⟩ (.int .i64 t622)).setCell ⟨gb628, 1, none⟩ (.slice Ao124 t623.length co124)).setCell ⟨gb628, 2, none⟩ (.bool t626)).heap[gb598]? = some (.cells #[.int .i64 t593, .slice Ao101 t594.length co101, .bool t597] 46 (0, 0))) := ⟨by (with_reducible repeat (first | refine blk_drewN ?_ _ | refine blk_drew ?_ | refine blk_alloc ?_ _)); refine blk_far ?_ NB598_628.out _; (with_reducible repeat (first | refine blk_drewN ?_ _ | refine blk_drew ?_ | refine blk_alloc ?_ _)); refine blk_far ?_ NB598_628.out _; (with_reducible repeat (first | refine blk_drewN ?_ _ | refine blk_drew ?_ | refine blk_alloc ?_ _)); refine blk_far ?_ NB598_628.out _; (with_reducible repeat (first | refine blk_drewN ?_ _ | refine blk_drew ?_ | refine blk_alloc ?_ _)); exact BK598.out⟩
               have n6_ : Aside0 ((((w122.setCell ⟨gb628, 0, none⟩ (.int .i64 t622)).setCell ⟨gb628, 1, none⟩ (.slice Ao124 t623.length co124)).setCell ⟨gb628, 2, none⟩ (.bool t626)).heap[gb617]? = some (.cells #[.int .i64 t611, .slice Ao114 t612.length co114, .bool t615] 46 (0, 0))) := ⟨by (with_reducible repeat (first | refine blk_drewN ?_ _ | refine blk_drew ?_ | refine blk_alloc ?_ _)); refine blk_far ?_ NB617_628.out _; (with_reducible repeat (first | refine blk_drewN ?_ _ | refine blk_drew ?_ | refine blk_alloc ?_ _)); refine blk_far ?_ NB617_628.out _; (with_reducible repeat (first | refine blk_drewN ?_ _ | refine blk_drew ?_ | refine blk_alloc ?_ _)); refine blk_far ?_ NB617_628.out _; (with_reducible repeat (first | refine blk_drewN ?_ _ | refine blk_drew ?_ | refine blk_alloc ?_ _)); exact BK617.out⟩
               have n7_ : Aside0 ((((w122.setCell ⟨gb628, 0, none⟩ (.int .i64 t622)).setCell ⟨gb628, 1, none⟩ (.slice Ao124 t623.length co124)).setCell ⟨gb628, 2, none⟩ (.bool t626)).heap[gb628]? = some (.cells #[.int .i64 t622, .slice Ao124 t623.length co124, .bool t626] 46 (0, 0))) := ⟨by (with_reducible repeat (first | refine blk_drewN ?_ _ | refine blk_drew ?_ | refine blk_alloc ?_ _)); refine blk_put (cs := #[.int .i64 t622, .slice Ao124 t623.length co124, .bool false]) ?_ 2 _ rfl; (with_reducible repeat (first | refine blk_drewN ?_ _ | refine blk_drew ?_ | refine blk_alloc ?_ _)); refine blk_put (cs := #[.int .i64 t622, .slice none 0 0, .bool false]) ?_ 1 _ rfl; (with_reducible repeat (first | refine blk_drewN ?_ _ | refine blk_drew ?_ | refine blk_alloc ?_ _)); refine blk_put (cs := #[.int .i64 0, .slice none 0 0, .bool false]) ?_ 0 _ rfl; (with_reducible repeat (first | refine blk_drewN ?_ _ | refine blk_drew ?_ | refine blk_alloc ?_ _)); exact BK628.out⟩
               have n8_ : Aside0 (Below w.heap.size w (((w122.setCell ⟨gb628, 0, none⟩ (.int .i64 t622)).setCell ⟨gb628, 1, none⟩ (.slice Ao124 t623.length co124)).setCell ⟨gb628, 2, none⟩ (.bool t626))) := ⟨by repeat (first | (with_reducible first | exact HB.out | apply below_alloc | apply pw_below_drewN | apply below_drew1 | refine below_set ?_ GE598.out | refine below_set ?_ GE617.out | refine below_set ?_ GE628.out) | exact HB.out)⟩
               (try clear HO589)
               (try clear HO596)
               (try clear HO603)
               (try clear HO614)
               (try clear HO625)
               (try clear BK598)
               (try clear BK617)
               (try clear BK628)
               (try clear HB)
               generalize (((w122.setCell ⟨gb628, 0, none⟩ (.int .i64 t622)).setCell ⟨gb628, 1, none⟩ (.slice Ao124 t623.length co124)).setCell ⟨gb628, 2, none⟩ (.bool t626)) = w127 at n0_ n1_ n2_ n3_ n4_ n5_ n6_ n7_ n8_ ⊢
               have HO589 := n0_
               have HO596 := n1_
               have HO603 := n2_
               have HO614 := n3_
               have HO625 := n4_
               have BK598 := n5_
               have BK617 := n6_
               have BK628 := n7_
               have HB := n8_
               clear n0_ n1_ n2_ n3_ n4_ n5_ n6_ n7_ n8_
               have hnb128 := NB598_617.out
               have hnc128 := NB617_598.out
               have hnb129 := NB598_628.out
               have hnc129 := NB628_598.out
               have hcz130_0 : w127.cell? ⟨gb598, 0, none⟩ = some (.int .i64 t593) := (blk_cell BK598.out 0).trans rfl
               have hcz130_1 : w127.cell? ⟨gb598, 1, none⟩ = some (.slice Ao101 t594.length co101) := (blk_cell BK598.out 1).trans rfl
               have hcz130_2 : w127.cell? ⟨gb598, 2, none⟩ = some (.bool t597) := (blk_cell BK598.out 2).trans rfl
               have hfz130_0 := blk_frozen BK598.out 0
               have hfz130_1 := blk_frozen BK598.out 1
               have hfz130_2 := blk_frozen BK598.out 2
               try go_wp2_with (first | ((with_reducible refine gate_callee (f := 36) rfl ?_); refine goesL_ (some 66) rfl rfl Tryd.func36 (by kernel_rfl) rfl #[.agg #[.int .i64 t593, .slice Ao101 t594.length co101, .bool t597], .slice Ao96 t587.length co96] rfl ka_ ?_; (with_reducible refine (impl_Feed.calls (hT := ?sideT) k t593 (fun k_ => some k_ = (.slice Ao101 t594.length co101 : Value).ownBlock) _ _ t594 t597 (fun k_ => some k_ = (.slice Ao96 t587.length co96 : Value).ownBlock) _ _ t587 t629 t630 t633 t634 _ ?side1 ?side2 A33.out).mono ?_); (case sideT => first | exact HT.out | exact HT.out.below hs_ | exact HT.out.drawn (by repeat (first | exact Drawn0.refl _ | apply Drawn0.step | assumption))); (case side1 => exact Kd.R_V (Kd.R_tight rfl (Kd.R_types (Kd.R_types (Kd.R_types (HO596.out) BK598.out (by decide)) BK617.out (by decide)) BK628.out (by decide)))); (case side2 => exact Kd.R_V (Kd.R_tight rfl (Kd.R_types (Kd.R_types (Kd.R_types (HO589.out) BK598.out (by decide)) BK617.out (by decide)) BK628.out (by decide)))); rintro e w131 ⟨v631, rfl, ho0, hb⟩; refine ⟨_, rfl, ?_⟩; have n0_ := Aside0.mk (Kd.R_elder' (kr_ HO589) (Kd.R_base ho0) hb); have n1_ := Aside0.mk (Kd.R_elder' (kr_ HO596) (Kd.R_base ho0) hb); have n2_ := Aside0.mk (Kd.R_elder' (kr_ HO603) (Kd.R_base ho0) hb); have n3_ := Aside0.mk (Kd.R_elder' (kr_ HO614) (Kd.R_base ho0) hb); have n4_ := Aside0.mk (Kd.R_elder' (kr_ HO625) (Kd.R_base ho0) hb); have n5_ := Aside0.mk (Kd.R_lower (Kd.R_new' (Kd.R_new' (Kd.R_new' (Kd.R_new' (Kd.R_new' (Kd.R_mono (ok' := fun k_ => True) ho0 (fun _ hk_ => trivial)) (Kd.R_lt (kr_ HO589))) (Kd.R_lt (kr_ HO596))) (Kd.R_lt (kr_ HO603))) (Kd.R_lt (kr_ HO614))) (Kd.R_lt (kr_ HO625))) (below_size hs_)); have n6_ := Aside0.mk (blk_below (g := gb598) (o := .cells #[.int .i64 t593, .slice Ao101 t594.length co101, .bool t597] 46 (0, 0)) (kb_ BK598) hb); have n7_ := Aside0.mk (blk_below (g := gb617) (o := .cells #[.int .i64 t611, .slice Ao114 t612.length co114, .bool t615] 46 (0, 0)) (kb_ BK617) hb); have n8_ := Aside0.mk (blk_below (g := gb628) (o := .cells #[.int .i64 t622, .slice Ao124 t623.length co124, .bool t626] 46 (0, 0)) (kb_ BK628) hb); have n9_ := Aside0.mk (below_step hs_ hb); clear HO589; clear HO596; clear HO603; clear HO614; clear HO625; clear BK598; clear BK617; clear BK628; clear HB; have HO589 := n0_; have HO596 := n1_; have HO603 := n2_; have HO614 := n3_; have HO625 := n4_; have HO632 := n5_; have BK598 := n6_; have BK617 := n7_; have BK628 := n8_; have HB := n9_; clear n0_ n1_ n2_ n3_ n4_ n5_ n6_ n7_ n8_ n9_; try clear hb; (try clear ho0)) | ((with_reducible refine gate_dst (N := 13) rfl ?_); refine box_event ?hg (N := 13) ?hd (cs := #[.int .i64 0, .slice none 0 0, .bool false]) (t := 46) ?hr ?_; (case hd => rfl); (case hg => rfl); (case hr => first | (go_simp; done) | (go_simp; rfl)); intro gb635 hg w132 hbox hb; have n0_ := Aside0.mk (Kd.R_below (kr_ HO589) hb); have n1_ := Aside0.mk (Kd.R_below (kr_ HO596) hb); have n2_ := Aside0.mk (Kd.R_below (kr_ HO603) hb); have n3_ := Aside0.mk (Kd.R_below (kr_ HO614) hb); have n4_ := Aside0.mk (Kd.R_below (kr_ HO625) hb); have n5_ := Aside0.mk (Kd.R_below (kr_ HO632) hb); have n6_ := Aside0.mk (blk_below (g := gb598) (o := .cells #[.int .i64 t593, .slice Ao101 t594.length co101, .bool t597] 46 (0, 0)) (kb_ BK598) hb); have n7_ := Aside0.mk (blk_below (g := gb617) (o := .cells #[.int .i64 t611, .slice Ao114 t612.length co114, .bool t615] 46 (0, 0)) (kb_ BK617) hb); have n8_ := Aside0.mk (blk_below (g := gb628) (o := .cells #[.int .i64 t622, .slice Ao124 t623.length co124, .bool t626] 46 (0, 0)) (kb_ BK628) hb); have n9_ := Aside0.mk (below_step hs_ hb); have n10_ := Aside0.mk (hbox); have n11_ := Aside0.mk ((by rw [hg]; exact (below_size hs_) : w.heap.size ≤ gb635)); have n12_ := Aside0.mk ((by rw [hg]; exact (below_size hs_) : w.heap.size ≤ gb635)); have n13_ := Aside0.mk ((by rw [hg]; exact Nat.ne_of_lt (blk_lt (g := gb598) (o := .cells #[.int .i64 t593, .slice Ao101 t594.length co101, .bool t597] 46 (0, 0)) (kb_ BK598)) : gb598 ≠ gb635)); have n14_ := Aside0.mk ((by rw [hg]; exact Nat.ne_of_gt (blk_lt (g := gb598) (o := .cells #[.int .i64 t593, .slice Ao101 t594.length co101, .bool t597] 46 (0, 0)) (kb_ BK598)) : gb635 ≠ gb598)); have n15_ := Aside0.mk ((by rw [hg]; exact Nat.ne_of_lt (blk_lt (g := gb617) (o := .cells #[.int .i64 t611, .slice Ao114 t612.length co114, .bool t615] 46 (0, 0)) (kb_ BK617)) : gb617 ≠ gb635)); have n16_ := Aside0.mk ((by rw [hg]; exact Nat.ne_of_gt (blk_lt (g := gb617) (o := .cells #[.int .i64 t611, .slice Ao114 t612.length co114, .bool t615] 46 (0, 0)) (kb_ BK617)) : gb635 ≠ gb617)); have n17_ := Aside0.mk ((by rw [hg]; exact Nat.ne_of_lt (blk_lt (g := gb628) (o := .cells #[.int .i64 t622, .slice Ao124 t623.length co124, .bool t626] 46 (0, 0)) (kb_ BK628)) : gb628 ≠ gb635)); have n18_ := Aside0.mk ((by rw [hg]; exact Nat.ne_of_gt (blk_lt (g := gb628) (o := .cells #[.int .i64 t622, .slice Ao124 t623.length co124, .bool t626] 46 (0, 0)) (kb_ BK628)) : gb635 ≠ gb628)); clear HO589; clear HO596; clear HO603; clear HO614; clear HO625; clear HO632; clear BK598; clear BK617; clear BK628; clear HB; have HO589 := n0_; have HO596 := n1_; have HO603 := n2_; have HO614 := n3_; have HO625 := n4_; have HO632 := n5_; have BK598 := n6_; have BK617 := n7_; have BK628 := n8_; have HB := n9_; have BK635 := n10_; have GW635 := n11_; have GE635 := n12_; have NB598_635 := n13_; have NB635_598 := n14_; have NB617_635 := n15_; have NB635_617 := n16_; have NB628_635 := n17_; have NB635_628 := n18_; clear n0_ n1_ n2_ n3_ n4_ n5_ n6_ n7_ n8_ n9_ n10_ n11_ n12_ n13_ n14_ n15_ n16_ n17_ n18_; clear hb hbox hg; have hnb133 := NB635_598.out; have hnc133 := NB598_635.out; have hnb134 := NB635_617.out; have hnc134 := NB617_635.out; have hnb135 := NB635_628.out; have hnc135 := NB628_635.out; have hcz136_0 : w132.cell? ⟨gb635, 0, none⟩ = some (.int .i64 0) := (blk_cell BK635.out 0).trans rfl; have hcz136_1 : w132.cell? ⟨gb635, 1, none⟩ = some (.slice none 0 0) := (blk_cell BK635.out 1).trans rfl; have hcz136_2 : w132.cell? ⟨gb635, 2, none⟩ = some (.bool false) := (blk_cell BK635.out 2).trans rfl; have hfz136_0 := blk_frozen BK635.out 0; have hfz136_1 := blk_frozen BK635.out 1; have hfz136_2 := blk_frozen BK635.out 2; obtain ⟨Ao137, co137, eo137⟩ := Kd.R_slice HO632.out; subst eo137; have hnb138 := NB617_628.out; have hnc138 := NB628_617.out; have hcz139_0 : w132.cell? ⟨gb617, 0, none⟩ = some (.int .i64 t611) := (blk_cell BK617.out 0).trans rfl; have hcz139_1 : w132.cell? ⟨gb617, 1, none⟩ = some (.slice Ao114 t612.length co114) := (blk_cell BK617.out 1).trans rfl; have hcz139_2 : w132.cell? ⟨gb617, 2, none⟩ = some (.bool t615) := (blk_cell BK617.out 2).trans rfl; have hfz139_0 := blk_frozen BK617.out 0; have hfz139_1 := blk_frozen BK617.out 1; have hfz139_2 := blk_frozen BK617.out 2) | ((with_reducible refine gate_callee (f := 47) rfl ?_); refine goesL_ (some 70) rfl rfl Tryd.func47 (by kernel_rfl) rfl #[.agg #[.int .i64 t611, .slice Ao114 t612.length co114, .bool t615]] rfl ka_ ?_; (with_reducible refine (impl_DecOk.calls (hT := ?sideT) t611 _ _ t612 t615 true _ ?side1 ?side2 A34.out).mono ?_); (case sideT => first | exact HT.out | exact HT.out.below hs_ | exact HT.out.drawn (by repeat (first | exact Drawn0.refl _ | apply Drawn0.step | assumption))); (case side1 => refine (Kd.R_reads' (e := 5) (base := w.heap.size) (ok := fun k_ => ((some k_ ≠ (.slice Ao96 t587.length co96 : Value).ownBlock ∧ (some k_ ≠ (.slice Ao101 t594.length co101 : Value).ownBlock ∧ (some k_ ≠ (.slice Ao104 t601.length co104 : Value).ownBlock ∧ some k_ ≠ (.slice Ao124 t623.length co124 : Value).ownBlock))) ∧ some k_ ≠ (.slice Ao137 t630.length co137 : Value).ownBlock)) (n := t612.length) (c := co114) ?_).2.2; exact (by (with_reducible repeat (first | apply Kd.R_alloc | apply Kd.R_drewN | apply Kd.R_drew)); exact (Kd.R_mono (Kd.R_far (p := ⟨gb635, 2, none⟩) (Kd.R_far (p := ⟨gb635, 1, none⟩) (Kd.R_far (p := ⟨gb635, 0, none⟩) (Kd.R_types HO614.out BK635.out (by decide)) (fun _ hk => hk.2) (.int .i64 t629)) (fun _ hk => hk.2) (.slice Ao137 t630.length co137)) (fun _ hk => hk.2) (.bool t633)) (fun _ h_ => h_.1)))); (case side2 => exact (Kd.R_reads' HO614.out).2.1); rintro e w140 ⟨rfl, hb⟩; refine ⟨_, rfl, ?_⟩; have n0_ := Aside0.mk (Kd.R_below (by (with_reducible repeat (first | apply Kd.R_alloc | apply Kd.R_drewN | apply Kd.R_drew)); exact (Kd.R_mono (Kd.R_far (p := ⟨gb635, 2, none⟩) (Kd.R_far (p := ⟨gb635, 1, none⟩) (Kd.R_far (p := ⟨gb635, 0, none⟩) (Kd.R_types HO589.out BK635.out (by decide)) (fun _ hk => hk.2) (.int .i64 t629)) (fun _ hk => hk.2) (.slice Ao137 t630.length co137)) (fun _ hk => hk.2) (.bool t633)) (fun _ h_ => h_.1))) hb); have n1_ := Aside0.mk (Kd.R_below (by (with_reducible repeat (first | apply Kd.R_alloc | apply Kd.R_drewN | apply Kd.R_drew)); exact (Kd.R_mono (Kd.R_far (p := ⟨gb635, 2, none⟩) (Kd.R_far (p := ⟨gb635, 1, none⟩) (Kd.R_far (p := ⟨gb635, 0, none⟩) (Kd.R_types HO596.out BK635.out (by decide)) (fun _ hk => hk.2) (.int .i64 t629)) (fun _ hk => hk.2) (.slice Ao137 t630.length co137)) (fun _ hk => hk.2) (.bool t633)) (fun _ h_ => h_.1))) hb); have n2_ := Aside0.mk (Kd.R_below (by (with_reducible repeat (first | apply Kd.R_alloc | apply Kd.R_drewN | apply Kd.R_drew)); exact (Kd.R_mono (Kd.R_far (p := ⟨gb635, 2, none⟩) (Kd.R_far (p := ⟨gb635, 1, none⟩) (Kd.R_far (p := ⟨gb635, 0, none⟩) (Kd.R_types HO603.out BK635.out (by decide)) (fun _ hk => hk.2) (.int .i64 t629)) (fun _ hk => hk.2) (.slice Ao137 t630.length co137)) (fun _ hk => hk.2) (.bool t633)) (fun _ h_ => h_.1))) hb); have n3_ := Aside0.mk (Kd.R_below (by (with_reducible repeat (first | apply Kd.R_alloc | apply Kd.R_drewN | apply Kd.R_drew)); exact (Kd.R_mono (Kd.R_far (p := ⟨gb635, 2, none⟩) (Kd.R_far (p := ⟨gb635, 1, none⟩) (Kd.R_far (p := ⟨gb635, 0, none⟩) (Kd.R_types HO614.out BK635.out (by decide)) (fun _ hk => hk.2) (.int .i64 t629)) (fun _ hk => hk.2) (.slice Ao137 t630.length co137)) (fun _ hk => hk.2) (.bool t633)) (fun _ h_ => h_.1))) hb); have n4_ := Aside0.mk (Kd.R_below (by (with_reducible repeat (first | apply Kd.R_alloc | apply Kd.R_drewN | apply Kd.R_drew)); exact (Kd.R_mono (Kd.R_far (p := ⟨gb635, 2, none⟩) (Kd.R_far (p := ⟨gb635, 1, none⟩) (Kd.R_far (p := ⟨gb635, 0, none⟩) (Kd.R_types HO625.out BK635.out (by decide)) (fun _ hk => hk.2) (.int .i64 t629)) (fun _ hk => hk.2) (.slice Ao137 t630.length co137)) (fun _ hk => hk.2) (.bool t633)) (fun _ h_ => h_.1))) hb); have n5_ := Aside0.mk (Kd.R_below (by (with_reducible repeat (first | apply Kd.R_alloc | apply Kd.R_drewN | apply Kd.R_drew)); exact (Kd.R_mono (Kd.R_far (p := ⟨gb635, 2, none⟩) (Kd.R_far (p := ⟨gb635, 1, none⟩) (Kd.R_far (p := ⟨gb635, 0, none⟩) (Kd.R_types HO632.out BK635.out (by decide)) (fun _ hk => hk.2) (.int .i64 t629)) (fun _ hk => hk.2) (.slice Ao137 t630.length co137)) (fun _ hk => hk.2) (.bool t633)) (fun _ h_ => h_.1))) hb); have n6_ := Aside0.mk (blk_below (g := gb598) (o := .cells #[.int .i64 t593, .slice Ao101 t594.length co101, .bool t597] 46 (0, 0)) (by (with_reducible repeat (first | refine blk_drewN ?_ _ | refine blk_drew ?_ | refine blk_alloc ?_ _)); refine blk_far ?_ NB598_635.out _; (with_reducible repeat (first | refine blk_drewN ?_ _ | refine blk_drew ?_ | refine blk_alloc ?_ _)); refine blk_far ?_ NB598_635.out _; (with_reducible repeat (first | refine blk_drewN ?_ _ | refine blk_drew ?_ | refine blk_alloc ?_ _)); refine blk_far ?_ NB598_635.out _; (with_reducible repeat (first | refine blk_drewN ?_ _ | refine blk_drew ?_ | refine blk_alloc ?_ _)); exact BK598.out) hb); have n7_ := Aside0.mk (blk_below (g := gb617) (o := .cells #[.int .i64 t611, .slice Ao114 t612.length co114, .bool t615] 46 (0, 0)) (by (with_reducible repeat (first | refine blk_drewN ?_ _ | refine blk_drew ?_ | refine blk_alloc ?_ _)); refine blk_far ?_ NB617_635.out _; (with_reducible repeat (first | refine blk_drewN ?_ _ | refine blk_drew ?_ | refine blk_alloc ?_ _)); refine blk_far ?_ NB617_635.out _; (with_reducible repeat (first | refine blk_drewN ?_ _ | refine blk_drew ?_ | refine blk_alloc ?_ _)); refine blk_far ?_ NB617_635.out _; (with_reducible repeat (first | refine blk_drewN ?_ _ | refine blk_drew ?_ | refine blk_alloc ?_ _)); exact BK617.out) hb); have n8_ := Aside0.mk (blk_below (g := gb628) (o := .cells #[.int .i64 t622, .slice Ao124 t623.length co124, .bool t626] 46 (0, 0)) (by (with_reducible repeat (first | refine blk_drewN ?_ _ | refine blk_drew ?_ | refine blk_alloc ?_ _)); refine blk_far ?_ NB628_635.out _; (with_reducible repeat (first | refine blk_drewN ?_ _ | refine blk_drew ?_ | refine blk_alloc ?_ _)); refine blk_far ?_ NB628_635.out _; (with_reducible repeat (first | refine blk_drewN ?_ _ | refine blk_drew ?_ | refine blk_alloc ?_ _)); refine blk_far ?_ NB628_635.out _; (with_reducible repeat (first | refine blk_drewN ?_ _ | refine blk_drew ?_ | refine blk_alloc ?_ _)); exact BK628.out) hb); have n9_ := Aside0.mk (blk_below (g := gb635) (o := .cells #[.int .i64 t629, .slice Ao137 t630.length co137, .bool t633] 46 (0, 0)) (by (with_reducible repeat (first | refine blk_drewN ?_ _ | refine blk_drew ?_ | refine blk_alloc ?_ _)); refine blk_put (cs := #[.int .i64 t629, .slice Ao137 t630.length co137, .bool false]) ?_ 2 _ rfl; (with_reducible repeat (first | refine blk_drewN ?_ _ | refine blk_drew ?_ | refine blk_alloc ?_ _)); refine blk_put (cs := #[.int .i64 t629, .slice none 0 0, .bool false]) ?_ 1 _ rfl; (with_reducible repeat (first | refine blk_drewN ?_ _ | refine blk_drew ?_ | refine blk_alloc ?_ _)); refine blk_put (cs := #[.int .i64 0, .slice none 0 0, .bool false]) ?_ 0 _ rfl; (with_reducible repeat (first | refine blk_drewN ?_ _ | refine blk_drew ?_ | refine blk_alloc ?_ _)); exact BK635.out) hb); have n10_ := Aside0.mk (below_step hs_ hb); clear HO589; clear HO596; clear HO603; clear HO614; clear HO625; clear HO632; clear BK598; clear BK617; clear BK628; clear BK635; clear HB; have HO589 := n0_; have HO596 := n1_; have HO603 := n2_; have HO614 := n3_; have HO625 := n4_; have HO632 := n5_; have BK598 := n6_; have BK617 := n7_; have BK628 := n8_; have BK635 := n9_; have HB := n10_; clear n0_ n1_ n2_ n3_ n4_ n5_ n6_ n7_ n8_ n9_ n10_; try clear hb; have hcz141_0 : w140.cell? ⟨gb628, 0, none⟩ = some (.int .i64 t622) := (blk_cell BK628.out 0).trans rfl; have hcz141_1 : w140.cell? ⟨gb628, 1, none⟩ = some (.slice Ao124 t623.length co124) := (blk_cell BK628.out 1).trans rfl; have hcz141_2 : w140.cell? ⟨gb628, 2, none⟩ = some (.bool t626) := (blk_cell BK628.out 2).trans rfl; have hfz141_0 := blk_frozen BK628.out 0; have hfz141_1 := blk_frozen BK628.out 1; have hfz141_2 := blk_frozen BK628.out 2) | (go_at_call 47; (with_reducible refine (impl_DecOk.calls (hT := ?sideT) t622 _ _ t623 t626 true _ ?side1 ?side2 A36.out).mono ?_); (case sideT => first | exact HT.out | exact HT.out.below hs_ | exact HT.out.drawn (by repeat (first | exact Drawn0.refl _ | apply Drawn0.step | assumption))); (case side1 => exact kc_ (Kd.R_reads' HO625.out).2.2); (case side2 => exact (Kd.R_reads' HO625.out).2.1); rintro e w142 ⟨rfl, hb⟩; have n0_ := Aside0.mk (Kd.R_below (kr_ HO589) hb); have n1_ := Aside0.mk (Kd.R_below (kr_ HO596) hb); have n2_ := Aside0.mk (Kd.R_below (kr_ HO603) hb); have n3_ := Aside0.mk (Kd.R_below (kr_ HO614) hb); have n4_ := Aside0.mk (Kd.R_below (kr_ HO625) hb); have n5_ := Aside0.mk (Kd.R_below (kr_ HO632) hb); have n6_ := Aside0.mk (blk_below (g := gb598) (o := .cells #[.int .i64 t593, .slice Ao101 t594.length co101, .bool t597] 46 (0, 0)) (kb_ BK598) hb); have n7_ := Aside0.mk (blk_below (g := gb617) (o := .cells #[.int .i64 t611, .slice Ao114 t612.length co114, .bool t615] 46 (0, 0)) (kb_ BK617) hb); have n8_ := Aside0.mk (blk_below (g := gb628) (o := .cells #[.int .i64 t622, .slice Ao124 t623.length co124, .bool t626] 46 (0, 0)) (kb_ BK628) hb); have n9_ := Aside0.mk (blk_below (g := gb635) (o := .cells #[.int .i64 t629, .slice Ao137 t630.length co137, .bool t633] 46 (0, 0)) (kb_ BK635) hb); have n10_ := Aside0.mk (below_step hs_ hb); clear HO589; clear HO596; clear HO603; clear HO614; clear HO625; clear HO632; clear BK598; clear BK617; clear BK628; clear BK635; clear HB; have HO589 := n0_; have HO596 := n1_; have HO603 := n2_; have HO614 := n3_; have HO625 := n4_; have HO632 := n5_; have BK598 := n6_; have BK617 := n7_; have BK628 := n8_; have BK635 := n9_; have HB := n10_; clear n0_ n1_ n2_ n3_ n4_ n5_ n6_ n7_ n8_ n9_ n10_; try clear hb; have hcz143_0 : w142.cell? ⟨gb628, 0, none⟩ = some (.int .i64 t622) := (blk_cell BK628.out 0).trans rfl; have hcz143_1 : w142.cell? ⟨gb628, 1, none⟩ = some (.slice Ao124 t623.length co124) := (blk_cell BK628.out 1).trans rfl; have hcz143_2 : w142.cell? ⟨gb628, 2, none⟩ = some (.bool t626) := (blk_cell BK628.out 2).trans rfl; have hfz143_0 := blk_frozen BK628.out 0; have hfz143_1 := blk_frozen BK628.out 1; have hfz143_2 := blk_frozen BK628.out 2; have hcz144_0 : w142.cell? ⟨gb635, 0, none⟩ = some (.int .i64 t629) := (blk_cell BK635.out 0).trans rfl; have hcz144_1 : w142.cell? ⟨gb635, 1, none⟩ = some (.slice Ao137 t630.length co137) := (blk_cell BK635.out 1).trans rfl; have hcz144_2 : w142.cell? ⟨gb635, 2, none⟩ = some (.bool t633) := (blk_cell BK635.out 2).trans rfl; have hfz144_0 := blk_frozen BK635.out 0; have hfz144_1 := blk_frozen BK635.out 1; have hfz144_2 := blk_frozen BK635.out 2; have hcv145 := own_string (P := Tryd.prog) Tryd.underlying23 Tryd.underlying5 Tryd.underlying9 (Kd.own_of_R HO625.out); try have hcn145 := fun n_ : Nat => own_string (P := Tryd.prog) Tryd.underlying23 Tryd.underlying5 Tryd.underlying9 (Kd.own_of_R (Kd.R_drewN HO625.out n_)); have hcv146 := own_string (P := Tryd.prog) Tryd.underlying23 Tryd.underlying5 Tryd.underlying9 (Kd.own_of_R HO632.out); try have hcn146 := fun n_ : Nat => own_string (P := Tryd.prog) Tryd.underlying23 Tryd.underlying5 Tryd.underlying9 (Kd.own_of_R (Kd.R_drewN HO632.out n_))) | ((with_reducible refine gate_callee (f := 50) rfl ?_); refine goesL_ (some 101) rfl rfl Tryd.func50 (by kernel_rfl) rfl #[.agg #[.int .i64 t622, .slice Ao124 t623.length co124, .bool t626]] rfl ka_ ?_; (with_reducible refine (impl_DecEnd.calls (hT := ?sideT) t622 _ _ t623 t626 t638 _ ?side1 ?side2 A92.out).mono ?_); (case sideT => first | exact HT.out | exact HT.out.below hs_ | exact HT.out.drawn (by repeat (first | exact Drawn0.refl _ | apply Drawn0.step | assumption))); (case side1 => exact kc_ (Kd.R_reads' HO625.out).2.2); (case side2 => exact (Kd.R_reads' HO625.out).2.1); rintro e w147 ⟨rfl, hb⟩; refine ⟨_, rfl, ?_⟩; have n0_ := Aside0.mk (Kd.R_below (kr_ HO589) hb); have n1_ := Aside0.mk (Kd.R_below (kr_ HO596) hb); have n2_ := Aside0.mk (Kd.R_below (kr_ HO603) hb); have n3_ := Aside0.mk (Kd.R_below (kr_ HO614) hb); have n4_ := Aside0.mk (Kd.R_below (kr_ HO625) hb); have n5_ := Aside0.mk (Kd.R_below (kr_ HO632) hb); have n6_ := Aside0.mk (blk_below (g := gb598) (o := .cells #[.int .i64 t593, .slice Ao101 t594.length co101, .bool t597] 46 (0, 0)) (kb_ BK598) hb); have n7_ := Aside0.mk (blk_below (g := gb617) (o := .cells #[.int .i64 t611, .slice Ao114 t612.length co114, .bool t615] 46 (0, 0)) (kb_ BK617) hb); have n8_ := Aside0.mk (blk_below (g := gb628) (o := .cells #[.int .i64 t622, .slice Ao124 t623.length co124, .bool t626] 46 (0, 0)) (kb_ BK628) hb); have n9_ := Aside0.mk (blk_below (g := gb635) (o := .cells #[.int .i64 t629, .slice Ao137 t630.length co137, .bool t633] 46 (0, 0)) (kb_ BK635) hb); have n10_ := Aside0.mk (below_step hs_ hb); clear HO589; clear HO596; clear HO603; clear HO614; clear HO625; clear HO632; clear BK598; clear BK617; clear BK628; clear BK635; clear HB; have HO589 := n0_; have HO596 := n1_; have HO603 := n2_; have HO614 := n3_; have HO625 := n4_; have HO632 := n5_; have BK598 := n6_; have BK617 := n7_; have BK628 := n8_; have BK635 := n9_; have HB := n10_; clear n0_ n1_ n2_ n3_ n4_ n5_ n6_ n7_ n8_ n9_ n10_; try clear hb))
               go_ret
               exact ⟨by first | rfl | (simp [errW_none, errW_some] <;> rfl) | (simp only [← hji26]; first | rfl | (simp [errW_none, errW_some] <;> rfl)) | (simp [*, errW_none, errW_some] <;> rfl), hs_⟩
             ·rw [if_neg c93] at H
              have c93b0 : (t638 == t591) = false := by simpa using c93
              (try (have c93b1 : decide (t638 = t591) = false := by simpa using c93))
              (try (have c93b2 : (t638 == t591) = false := by simpa using c93))
              (try (have c93b3 : ¬ (t638 = t591) := by simpa using c93))
              clear c93
              obtain rfl := Option.some.inj H
              cases hr_
            ·rw [if_neg c91] at H
             have c91b0 : ((strOfNums t623).toList == (strOfNums t630).toList) = false := beq_eq_false_iff_ne.mpr c91
             have c91b1 : ((strOfNums t623).toList != (strOfNums t630).toList) = true := bne_iff_ne.mpr c91
             obtain rfl := Option.some.inj H
             cases hr_
          ·rw [if_neg c39] at H
           have c39b0 : ((t616 ++ t627).toList == t634.toList) = false := beq_eq_false_iff_ne.mpr c39
           have c39b1 : ((t616 ++ t627).toList != t634.toList) = true := bne_iff_ne.mpr c39
           obtain rfl := Option.some.inj H
           cases hr_
         ·rw [if_neg c38] at H
          exact absurd H (by simp)
        ·replace c37 := Bool.eq_false_iff.mpr c37
         subst c37
         rw [if_neg (show ¬ (false = true) by decide)] at H
         obtain rfl := Option.some.inj H
         cases hr_
       ·replace c35 := Bool.eq_false_iff.mpr c35
        subst c35
        rw [if_neg (show ¬ (false = true) by decide)] at H
        obtain rfl := Option.some.inj H
        cases hr_
      ·rw [if_neg c28] at H
       exact absurd H (by simp)
     ·rw [if_neg c27] at H
      exact absurd H (by simp)
    ·replace c25 := Bool.eq_false_iff.mpr c25
     subst c25
     rw [if_neg (show ¬ (false = true) by decide)] at H
     obtain rfl := Option.some.inj H
     clear hr_
     go_enter Tryd.func10, Tryd.ntmps10
     go_wp2_with (first | ((with_reducible refine gate_callee (f := 42) rfl ?_); refine goesL_ (some 16) rfl rfl Tryd.func42 (by kernel_rfl) rfl #[.slice A0 l0.length c0] rfl ka_ ?_; (with_reducible refine (laws_big.calls _ _ l0 false _ ?side1 ?side2 A2.out).mono ?_); (case side1 => repeat (first | exact HR0.out | (with_reducible refine Kd.C_alloc ?_ _) | (with_reducible refine Kd.C_drewN ?_ _) | (with_reducible refine Kd.C_drew ?_))); (case side2 => exact HC0.out); rintro e w' ⟨rfl, ⟨nd, rfl⟩⟩; refine ⟨_, rfl, ?_⟩) | ((with_reducible refine gate_callee (f := 43) rfl ?_); refine goesL_ (some 19) rfl rfl Tryd.func43 (by kernel_rfl) rfl #[.slice A0 l0.length c0] rfl ka_ ?_; (with_reducible refine (spec_DrawDecode.calls k _ _ l0 t586 t587 _ ?side1 ?side2 A4.out).mono ?_); (case side1 => repeat (first | exact HR0.out | (with_reducible refine Kd.C_alloc ?_ _) | (with_reducible refine Kd.C_drewN ?_ _) | (with_reducible refine Kd.C_drew ?_))); (case side2 => exact HC0.out); rintro e w448 ⟨v588, rfl, ho0, hb⟩; refine ⟨_, rfl, ?_⟩; have n0_ := Aside0.mk (Kd.R_lower ho0 (below_size hb_)); have n1_ := Aside0.mk (below_step hb_ hb); clear HB; have HO589 := n0_; have HB := n1_; clear n0_ n1_; try clear hb; (try clear ho0); obtain ⟨Ao449, co449, eo449⟩ := Kd.R_slice HO589.out; subst eo449) | ((with_reducible refine gate_callee (f := 44) rfl ?_); refine goesL_ (some 25) rfl rfl Tryd.func44 (by kernel_rfl) rfl #[.int .i64 t586, .slice Ao449 t587.length co449] rfl ka_ ?_; (with_reducible refine (impl_Decode.calls (hT := ?sideT) k t586 _ _ t587 t590 t591 _ ?side1 ?side2 A5.out).mono ?_); (case sideT => first | exact HT.out | exact HT.out.below hs_ | exact HT.out.drawn (by repeat (first | exact Drawn0.refl _ | apply Drawn0.step | assumption))); (case side1 => exact kc_ (Kd.R_reads' HO589.out).2.2); (case side2 => exact (Kd.R_reads' HO589.out).2.1); rintro e w450 ⟨rfl, hb⟩; refine ⟨_, rfl, ?_⟩; have n0_ := Aside0.mk (Kd.R_below (kr_ HO589) hb); have n1_ := Aside0.mk (below_step hb_ hb); clear HO589; clear HB; have HO589 := n0_; have HB := n1_; clear n0_ n1_; try clear hb) | ((with_reducible refine gate_callee (f := 45) rfl ?_); refine goesL_ (some 29) rfl rfl Tryd.func45 (by kernel_rfl) rfl #[.slice A0 l0.length c0, .int .i64 2] rfl ka_ ?_; (with_reducible refine (laws_at.calls _ _ l0 2 t592 _ ?side1 ?side2 A6.out).mono ?_); (case side1 => repeat (first | exact (Kd.C_below HR0.out HB.out) | (with_reducible refine Kd.C_alloc ?_ _) | (with_reducible refine Kd.C_drewN ?_ _) | (with_reducible refine Kd.C_drew ?_))); (case side2 => exact HC0.out); rintro e w' ⟨rfl, ⟨nd, rfl⟩⟩; refine ⟨_, rfl, ?_⟩; (try (rw [drewN_self w450]; generalize hq_ : World.drewN w450 _ = w450; have n0_ : Aside0 (Kd.R (Kd.int .u8) 5 w450 w.heap.size (fun _ => True) (.slice Ao449 t587.length co449) t587) := ⟨by rw [← hq_]; exact (kr_ HO589)⟩; have n1_ : Aside0 (Below w.heap.size w w450) := ⟨by rw [← hq_]; exact hb_⟩; clear HO589 HB hq_; have HO589 := n0_; have HB := n1_; clear n0_ n1_))) | ((with_reducible refine gate_callee (f := 46) rfl ?_); refine goesL_ (some 35) rfl rfl Tryd.func46 (by kernel_rfl) rfl #[.int .i64 t586] rfl ka_ ?_; (with_reducible refine (impl_DecNew.calls t586 t593 t594 t597 _ A8.out).mono ?_); rintro e w451 ⟨v595, rfl, ho0, hb⟩; refine ⟨_, rfl, ?_⟩; have n0_ := Aside0.mk (Kd.R_elder' (kr_ HO589) (Kd.R_base ho0) hb); have n1_ := Aside0.mk (Kd.R_lower (Kd.R_new' ho0 (Kd.R_lt (kr_ HO589))) (below_size hb_)); have n2_ := Aside0.mk (below_step hb_ hb); clear HO589; clear HB; have HO589 := n0_; have HO596 := n1_; have HB := n2_; clear n0_ n1_ n2_; try clear hb; (try clear ho0)) | ((with_reducible refine gate_dst (N := 8) rfl ?_); refine box_event ?hg (N := 8) ?hd (cs := #[.int .i64 0, .slice none 0 0, .bool false]) (t := 46) ?hr ?_; (case hd => rfl); (case hg => rfl); (case hr => first | (go_simp; done) | (go_simp; rfl)); intro gb598 hg w452 hbox hb; have n0_ := Aside0.mk (Kd.R_below (kr_ HO589) hb); have n1_ := Aside0.mk (Kd.R_below (kr_ HO596) hb); have n2_ := Aside0.mk (below_step hb_ hb); have n3_ := Aside0.mk (hbox); have n4_ := Aside0.mk ((by rw [hg]; exact (below_size hb_) : w.heap.size ≤ gb598)); have n5_ := Aside0.mk ((by rw [hg]; exact (below_size hb_) : w.heap.size ≤ gb598)); clear HO589; clear HO596; clear HB; have HO589 := n0_; have HO596 := n1_; have HB := n2_; have BK598 := n3_; have GW598 := n4_; have GE598 := n5_; clear n0_ n1_ n2_ n3_ n4_ n5_; clear hb hbox hg; have hcz453_0 : w452.cell? ⟨gb598, 0, none⟩ = some (.int .i64 0) := (blk_cell BK598.out 0).trans rfl; have hcz453_1 : w452.cell? ⟨gb598, 1, none⟩ = some (.slice none 0 0) := (blk_cell BK598.out 1).trans rfl; have hcz453_2 : w452.cell? ⟨gb598, 2, none⟩ = some (.bool false) := (blk_cell BK598.out 2).trans rfl; have hfz453_0 := blk_frozen BK598.out 0; have hfz453_1 := blk_frozen BK598.out 1; have hfz453_2 := blk_frozen BK598.out 2; obtain ⟨Ao454, co454, eo454⟩ := Kd.R_slice HO596.out; subst eo454) | ((with_reducible refine gate_callee (f := 47) rfl ?_); refine goesL_ (some 37) rfl rfl Tryd.func47 (by kernel_rfl) rfl #[.agg #[.int .i64 t593, .slice Ao454 t594.length co454, .bool t597]] rfl ka_ ?_; (with_reducible refine (impl_DecOk.calls (hT := ?sideT) t593 _ _ t594 t597 t599 _ ?side1 ?side2 A9.out).mono ?_); (case sideT => first | exact HT.out | exact HT.out.below hs_ | exact HT.out.drawn (by repeat (first | exact Drawn0.refl _ | apply Drawn0.step | assumption))); (case side1 => refine (Kd.R_reads' (e := 5) (base := w.heap.size) (ok := fun k_ => (True ∧ some k_ ≠ (.slice Ao449 t587.length co449 : Value).ownBlock)) (n := t594.length) (c := co454) ?_).2.2; exact (by (with_reducible repeat (first | apply Kd.R_alloc | apply Kd.R_drewN | apply Kd.R_drew)); exact (Kd.R_mono (Kd.R_far (p := ⟨gb598, 2, none⟩) (Kd.R_far (p := ⟨gb598, 1, none⟩) (Kd.R_far (p := ⟨gb598, 0, none⟩) (Kd.R_types HO596.out BK598.out (by decide)) (fun _ hk => hk.2) (.int .i64 t593)) (fun _ hk => hk.2) (.slice Ao454 t594.length co454)) (fun _ hk => hk.2) (.bool t597)) (fun _ h_ => h_.1)))); (case side2 => exact (Kd.R_reads' HO596.out).2.1); rintro e w455 ⟨rfl, hb⟩; refine ⟨_, rfl, ?_⟩; have n0_ := Aside0.mk (Kd.R_below (by (with_reducible repeat (first | apply Kd.R_alloc | apply Kd.R_drewN | apply Kd.R_drew)); exact (Kd.R_mono (Kd.R_far (p := ⟨gb598, 2, none⟩) (Kd.R_far (p := ⟨gb598, 1, none⟩) (Kd.R_far (p := ⟨gb598, 0, none⟩) (Kd.R_types HO589.out BK598.out (by decide)) (fun _ hk => hk.2) (.int .i64 t593)) (fun _ hk => hk.2) (.slice Ao454 t594.length co454)) (fun _ hk => hk.2) (.bool t597)) (fun _ h_ => h_.1))) hb); have n1_ := Aside0.mk (Kd.R_below (by (with_reducible repeat (first | apply Kd.R_alloc | apply Kd.R_drewN | apply Kd.R_drew)); exact (Kd.R_mono (Kd.R_far (p := ⟨gb598, 2, none⟩) (Kd.R_far (p := ⟨gb598, 1, none⟩) (Kd.R_far (p := ⟨gb598, 0, none⟩) (Kd.R_types HO596.out BK598.out (by decide)) (fun _ hk => hk.2) (.int .i64 t593)) (fun _ hk => hk.2) (.slice Ao454 t594.length co454)) (fun _ hk => hk.2) (.bool t597)) (fun _ h_ => h_.1))) hb); have n2_ := Aside0.mk (blk_below (g := gb598) (o := .cells #[.int .i64 t593, .slice Ao454 t594.length co454, .bool t597] 46 (0, 0)) (by (with_reducible repeat (first | refine blk_drewN ?_ _ | refine blk_drew ?_ | refine blk_alloc ?_ _)); refine blk_put (cs := #[.int .i64 t593, .slice Ao454 t594.length co454, .bool false]) ?_ 2 _ rfl; (with_reducible repeat (first | refine blk_drewN ?_ _ | refine blk_drew ?_ | refine blk_alloc ?_ _)); refine blk_put (cs := #[.int .i64 t593, .slice none 0 0, .bool false]) ?_ 1 _ rfl; (with_reducible repeat (first | refine blk_drewN ?_ _ | refine blk_drew ?_ | refine blk_alloc ?_ _)); refine blk_put (cs := #[.int .i64 0, .slice none 0 0, .bool false]) ?_ 0 _ rfl; (with_reducible repeat (first | refine blk_drewN ?_ _ | refine blk_drew ?_ | refine blk_alloc ?_ _)); exact BK598.out) hb); have n3_ := Aside0.mk (below_step hs_ hb); clear HO589; clear HO596; clear BK598; clear HB; have HO589 := n0_; have HO596 := n1_; have BK598 := n2_; have HB := n3_; clear n0_ n1_ n2_ n3_; try clear hb) | ((with_reducible refine gate_callee (f := 49) rfl ?_); refine goesL_ (some 39) rfl rfl Tryd.func49 (by kernel_rfl) rfl #[.int .i64 t586] rfl ka_ ?_; (with_reducible refine (spec_DecNew.calls t586 t600 t601 t604 _ A10.out).mono ?_); rintro e w456 ⟨v602, rfl, ho0, hb⟩; refine ⟨_, rfl, ?_⟩; have n0_ := Aside0.mk (Kd.R_elder' (kr_ HO589) (Kd.R_base ho0) hb); have n1_ := Aside0.mk (Kd.R_elder' (kr_ HO596) (Kd.R_base ho0) hb); have n2_ := Aside0.mk (Kd.R_lower (Kd.R_new' (Kd.R_new' ho0 (Kd.R_lt (kr_ HO589))) (Kd.R_lt (kr_ HO596))) (below_size hs_)); have n3_ := Aside0.mk (blk_below (g := gb598) (o := .cells #[.int .i64 t593, .slice Ao454 t594.length co454, .bool t597] 46 (0, 0)) (kb_ BK598) hb); have n4_ := Aside0.mk (below_step hs_ hb); clear HO589; clear HO596; clear BK598; clear HB; have HO589 := n0_; have HO596 := n1_; have HO603 := n2_; have BK598 := n3_; have HB := n4_; clear n0_ n1_ n2_ n3_ n4_; try clear hb; (try clear ho0); obtain ⟨Ao457, co457, eo457⟩ := Kd.R_slice HO603.out; subst eo457) | ((with_reducible refine gate_callee (f := 48) rfl ?_); refine goesL_ (some 40) rfl rfl Tryd.func48 (by kernel_rfl) rfl #[.agg #[.int .i64 t600, .slice Ao457 t601.length co457, .bool t604]] rfl ka_ ?_; (with_reducible refine (spec_DecOk.calls k t600 _ _ t601 t604 t605 _ ?side1 ?side2 A11.out).mono ?_); (case side1 => exact kc_ (Kd.R_reads' HO603.out).2.2); (case side2 => exact (Kd.R_reads' HO603.out).2.1); rintro e w458 ⟨rfl, hb⟩; refine ⟨_, rfl, ?_⟩; have n0_ := Aside0.mk (Kd.R_below (kr_ HO589) hb); have n1_ := Aside0.mk (Kd.R_below (kr_ HO596) hb); have n2_ := Aside0.mk (Kd.R_below (kr_ HO603) hb); have n3_ := Aside0.mk (blk_below (g := gb598) (o := .cells #[.int .i64 t593, .slice Ao454 t594.length co454, .bool t597] 46 (0, 0)) (kb_ BK598) hb); have n4_ := Aside0.mk (below_step hs_ hb); clear HO589; clear HO596; clear HO603; clear BK598; clear HB; have HO589 := n0_; have HO596 := n1_; have HO603 := n2_; have BK598 := n3_; have HB := n4_; clear n0_ n1_ n2_ n3_ n4_; try clear hb; have hcz459_0 : w458.cell? ⟨gb598, 0, none⟩ = some (.int .i64 t593) := (blk_cell BK598.out 0).trans rfl; have hcz459_1 : w458.cell? ⟨gb598, 1, none⟩ = some (.slice Ao454 t594.length co454) := (blk_cell BK598.out 1).trans rfl; have hcz459_2 : w458.cell? ⟨gb598, 2, none⟩ = some (.bool t597) := (blk_cell BK598.out 2).trans rfl; have hfz459_0 := blk_frozen BK598.out 0; have hfz459_1 := blk_frozen BK598.out 1; have hfz459_2 := blk_frozen BK598.out 2) | ((with_reducible refine gate_callee (f := 47) rfl ?_); refine goesL_ (some 43) rfl rfl Tryd.func47 (by kernel_rfl) rfl #[.agg #[.int .i64 t593, .slice Ao454 t594.length co454, .bool t597]] rfl ka_ ?_; (with_reducible refine (impl_DecOk.calls (hT := ?sideT) t593 _ _ t594 t597 false _ ?side1 ?side2 A24.out).mono ?_); (case sideT => first | exact HT.out | exact HT.out.below hs_ | exact HT.out.drawn (by repeat (first | exact Drawn0.refl _ | apply Drawn0.step | assumption))); (case side1 => exact kc_ (Kd.R_reads' HO596.out).2.2); (case side2 => exact (Kd.R_reads' HO596.out).2.1); rintro e w460 ⟨rfl, hb⟩; refine ⟨_, rfl, ?_⟩; have n0_ := Aside0.mk (Kd.R_below (kr_ HO589) hb); have n1_ := Aside0.mk (Kd.R_below (kr_ HO596) hb); have n2_ := Aside0.mk (Kd.R_below (kr_ HO603) hb); have n3_ := Aside0.mk (blk_below (g := gb598) (o := .cells #[.int .i64 t593, .slice Ao454 t594.length co454, .bool t597] 46 (0, 0)) (kb_ BK598) hb); have n4_ := Aside0.mk (below_step hs_ hb); clear HO589; clear HO596; clear HO603; clear BK598; clear HB; have HO589 := n0_; have HO596 := n1_; have HO603 := n2_; have BK598 := n3_; have HB := n4_; clear n0_ n1_ n2_ n3_ n4_; try clear hb))
     go_ret
     exact ⟨rf_, hs_⟩
/-- THE ONE PURE STATEMENT of laws_FnStreams: yours. -/
def laws_FnStreams.Pure : Prop := ∀ (l0 : List Int), l0.length ≤ maxLen → l0.length * 1 ≤ 140737488351232 → (∀ x ∈ l0, (Lit.int .u8 x).wf = true) → ∃ k, laws_FnStreams.f k l0 = some true
theorem laws_FnStreams.walk (P : laws_FnStreams.Pure) (a0 : Option Addr) (len0 cap0 : Nat) (z0 : List Int) (w : World) (hT : TabsOk w) (w0 : (a0 = none ∧ len0 = 0 ∧ cap0 = 0 ∧ z0 = []) ∨ ∃ x, a0 = some x ∧ len0 ≤ cap0 ∧ cap0 ≤ maxLen ∧ z0.length = cap0 ∧ (∀ i, i < z0.length → w.cell? (x.add i) = some (.int .u8 (z0.getD i 0))) ∧ ∀ n ∈ z0, (Lit.int .u8 n).wf = true) (y0 : len0 * 1 ≤ 140737488351232) :
  Calls Tryd.prog 10 #[.slice a0 len0 cap0] w fun e w' => e = .returned (.bool true) ∧ Below w.heap.size w w' := by
 obtain ⟨l0, rfl, hr0, hm0, hw0, hc0⟩ := ReadsInt.ofRowC w0
 obtain ⟨k, h⟩ := P l0 hm0 y0 hw0
 refine (laws_FnStreams.calls (hT := hT) k _ _ l0 true w (Kd.C_of_reads (d := (0 : Int)) (h1 := fun _ => rfl) hr0) hc0 h rfl).mono ?_
 rintro e w' ⟨rfl, hd⟩
 exact ⟨rfl, hd⟩

end Go.Proofs.YtpmimhbnmjffpaaDoor.QFnStreams
