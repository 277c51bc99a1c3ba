/- The functions that a law reaches, each as a plain function, and that Go comes to just its answer: written by the session's program pp.py (the kit's print, with a few rows turned). -/
import Derived.Test.YtnmncgbegiegfaaQFnSetsx0
import Derived.Test.YtnmncgbegiegfaaQFnSetsx1
import Derived.Test.YtnmncgbegiegfaaQFnSetsx2
import Derived.Test.YtnmncgbegiegfaaQFnSetsx3
namespace Go.Proofs.Ytnmncgbegiegfaa.QFnSets
open Go.RowKit Go.Proofs.YtnmncgbegiegfaaW.PrintWords Go.Proofs.YtnmncgbegiegfaaW.PrintLast Go.Proofs.YtnmncgbegiegfaaW.PrintMore Go.Proofs.Ytnmncgbegiegfaa.Xw Go.Proofs.Ytnmncgbegiegfaa.Ext
attribute [local go_sem] max2_int min2_int max_two min_two max_three min_three max_four min_four   -- for this text's walks alone
set_option linter.unusedVariables false
set_option linter.unusedSimpArgs false

/-! ### laws_FnSets: function 7 -/
mutual
def laws_FnSets.j0 : Nat → List Int → Int → Int → Int → Bool → Bool → Option (Bool)
  | 0, _, _, _, _, _, _ => none
  | k + 1, x0, x3, x4, x5, x6, x100 => if x100 = true then (some false) else (if x6 = true then ((impl_SignByte.f k x3 x5).bind fun bt255 => ((impl_ByteSign.f k x3 bt255.1).bind fun bt257 => (if bt255.2 = true then (if bt257.2 = true then (if bt257.1 = x5 then (if bt255.1 = x4 then (laws_FnSets.j1 k x0) else (some false)) else (some false)) else (some false)) else (some false)))) else (laws_FnSets.j1 k x0))
def laws_FnSets.j1 : Nat → List Int → Option (Bool)
  | 0, _ => none
  | k + 1, x0 => (spec_DrawCsName.f k x0).bind fun t259 => ((spec_DrawCsOf.f k x0).bind fun t260 => ((impl_CsName.f t259).bind fun t261 => ((spec_CsName.f t259).bind fun t262 => (if t261.toList = t262.toList then ((impl_CsOf.f k t260).bind fun t263 => ((spec_CsOf.f k t260).bind fun t264 => (if t263 = t264 then ((impl_CsName.f t259).bind fun t265 => (if t265.toList = ([] : List UInt8) then (some true) else ((impl_CsName.f t259).bind fun t266 => ((impl_CsOf.f k t266).bind fun t267 => (some (t267 == t259)))))) else (some false)))) else (some false)))))
end
def laws_FnSets.f (k : Nat) (l0 : List Int) : Option (Bool) := (laws_big.f l0).bind fun t238 => (if t238 = true then (some true) else ((spec_DrawByteSign.f k l0).bind fun bt239 => ((impl_ByteSign.f k bt239.1 bt239.2).bind fun bt241 => ((spec_ByteSign.f k bt239.1 bt239.2).bind fun bt243 => ((spec_DrawSignByte.f k l0).bind fun bt245 => ((impl_SignByte.f k bt245.1 bt245.2).bind fun bt247 => ((spec_SignByte.f k bt245.1 bt245.2).bind fun bt249 => ((laws_at.f l0 2).bind fun t251 => ((laws_at.f l0 3).bind fun t252 => ((impl_ByteSign.f k (wrap64 (1 + (Int.tmod t252 4))) (Int.tmod t251 128)).bind fun bt253 => (if (bt241.2 != bt243.2) = true then (laws_FnSets.j0 k l0 bt239.1 bt239.2 bt241.1 bt241.2 true) else (if bt241.1 = bt243.1 then (if (bt247.2 != bt249.2) = true then (laws_FnSets.j0 k l0 bt239.1 bt239.2 bt241.1 bt241.2 true) else (if bt247.1 = bt249.1 then (if bt253.2 = true then (laws_FnSets.j0 k l0 bt239.1 bt239.2 bt241.1 bt241.2 (bt253.1 != (Int.tmod t251 128))) else (laws_FnSets.j0 k l0 bt239.1 bt239.2 bt241.1 bt241.2 true)) else (laws_FnSets.j0 k l0 bt239.1 bt239.2 bt241.1 bt241.2 true))) else (laws_FnSets.j0 k l0 bt239.1 bt239.2 bt241.1 bt241.2 true)))))))))))))
theorem laws_FnSets.mono_l : ∀ k, (∀ y0 y1 y2 y3 y4 y5, LeO (laws_FnSets.j0 k y0 y1 y2 y3 y4 y5) (laws_FnSets.j0 (k + 1) y0 y1 y2 y3 y4 y5)) ∧ (∀ y0, LeO (laws_FnSets.j1 k y0) (laws_FnSets.j1 (k + 1) y0))
  | 0 => ⟨fun _ _ _ _ _ _ r h => by simp [laws_FnSets.j0] at h, fun _ r h => by simp [laws_FnSets.j1] at h⟩
  | k + 1 => by
    obtain ⟨ih0, ih1⟩ := laws_FnSets.mono_l k
    refine ⟨?_, ?_⟩
    · intro y0 y1 y2 y3 y4 y5
      unfold laws_FnSets.j0
      repeat' first
      | (with_reducible exact ih0 _ _ _ _ _ _)
      | (with_reducible exact ih1 _)
      | (with_reducible exact impl_ByteSign.mono _ _ _)
      | (with_reducible exact impl_CsOf.mono _ _)
      | (with_reducible exact impl_SignByte.mono _ _ _)
      | (with_reducible exact spec_ByteSign.mono _ _ _)
      | (with_reducible exact spec_CsOf.mono _ _)
      | (with_reducible exact spec_DrawByteSign.mono _ _)
      | (with_reducible exact spec_DrawCsName.mono _ _)
      | (with_reducible exact spec_DrawCsOf.mono _ _)
      | (with_reducible exact spec_DrawSignByte.mono _ _)
      | (with_reducible exact spec_SignByte.mono _ _ _)
      | (with_reducible exact LeO.refl _)
      | (with_reducible exact LeO.none _)
      | (with_reducible refine LeO.ite ?_ ?_)
      | (with_reducible refine LeO.bind ?_ (fun _ => ?_))
      | exact ih0 _ _ _ _ _ _
      | exact ih1 _
      | exact impl_ByteSign.mono _ _ _
      | exact impl_CsOf.mono _ _
      | exact impl_SignByte.mono _ _ _
      | exact spec_ByteSign.mono _ _ _
      | exact spec_CsOf.mono _ _
      | exact spec_DrawByteSign.mono _ _
      | exact spec_DrawCsName.mono _ _
      | exact spec_DrawCsOf.mono _ _
      | exact spec_DrawSignByte.mono _ _
      | exact spec_SignByte.mono _ _ _
      | exact LeO.none _
      | refine LeO.ite ?_ ?_
      | refine LeO.bind ?_ (fun _ => ?_)
    · intro y0
      unfold laws_FnSets.j1
      repeat' first
      | (with_reducible exact ih0 _ _ _ _ _ _)
      | (with_reducible exact ih1 _)
      | (with_reducible exact impl_ByteSign.mono _ _ _)
      | (with_reducible exact impl_CsOf.mono _ _)
      | (with_reducible exact impl_SignByte.mono _ _ _)
      | (with_reducible exact spec_ByteSign.mono _ _ _)
      | (with_reducible exact spec_CsOf.mono _ _)
      | (with_reducible exact spec_DrawByteSign.mono _ _)
      | (with_reducible exact spec_DrawCsName.mono _ _)
      | (with_reducible exact spec_DrawCsOf.mono _ _)
      | (with_reducible exact spec_DrawSignByte.mono _ _)
      | (with_reducible exact spec_SignByte.mono _ _ _)
      | (with_reducible exact LeO.refl _)
      | (with_reducible exact LeO.none _)
      | (with_reducible refine LeO.ite ?_ ?_)
      | (with_reducible refine LeO.bind ?_ (fun _ => ?_))
      | exact ih0 _ _ _ _ _ _
      | exact ih1 _
      | exact impl_ByteSign.mono _ _ _
      | exact impl_CsOf.mono _ _
      | exact impl_SignByte.mono _ _ _
      | exact spec_ByteSign.mono _ _ _
      | exact spec_CsOf.mono _ _
      | exact spec_DrawByteSign.mono _ _
      | exact spec_DrawCsName.mono _ _
      | exact spec_DrawCsOf.mono _ _
      | exact spec_DrawSignByte.mono _ _
      | exact spec_SignByte.mono _ _ _
      | exact LeO.none _
      | refine LeO.ite ?_ ?_
      | refine LeO.bind ?_ (fun _ => ?_)
theorem laws_FnSets.mono : ∀ a0 k, LeO (laws_FnSets.f k a0) (laws_FnSets.f (k + 1) a0) := by
  intro a0 k
  obtain ⟨ih0, ih1⟩ := laws_FnSets.mono_l k
  unfold laws_FnSets.f
  repeat' first
      | (with_reducible exact ih0 _ _ _ _ _ _)
      | (with_reducible exact ih1 _)
      | (with_reducible exact impl_ByteSign.mono _ _ _)
      | (with_reducible exact impl_CsOf.mono _ _)
      | (with_reducible exact impl_SignByte.mono _ _ _)
      | (with_reducible exact spec_ByteSign.mono _ _ _)
      | (with_reducible exact spec_CsOf.mono _ _)
      | (with_reducible exact spec_DrawByteSign.mono _ _)
      | (with_reducible exact spec_DrawCsName.mono _ _)
      | (with_reducible exact spec_DrawCsOf.mono _ _)
      | (with_reducible exact spec_DrawSignByte.mono _ _)
      | (with_reducible exact spec_SignByte.mono _ _ _)
      | (with_reducible exact LeO.refl _)
      | (with_reducible exact LeO.none _)
      | (with_reducible refine LeO.ite ?_ ?_)
      | (with_reducible refine LeO.bind ?_ (fun _ => ?_))
      | exact ih0 _ _ _ _ _ _
      | exact ih1 _
      | exact impl_ByteSign.mono _ _ _
      | exact impl_CsOf.mono _ _
      | exact impl_SignByte.mono _ _ _
      | exact spec_ByteSign.mono _ _ _
      | exact spec_CsOf.mono _ _
      | exact spec_DrawByteSign.mono _ _
      | exact spec_DrawCsName.mono _ _
      | exact spec_DrawCsOf.mono _ _
      | exact spec_DrawSignByte.mono _ _
      | exact spec_SignByte.mono _ _ _
      | exact LeO.none _
      | refine LeO.ite ?_ ?_
      | refine LeO.bind ?_ (fun _ => ?_)
set_option maxHeartbeats 8000000 in
set_option maxRecDepth 100000 in
theorem laws_FnSets.calls (k : Nat) (A0 : Option Addr) (c0 : Nat) (l0 : List Int) (r : Bool) (w : World) (hr0 : Kd.C (Kd.int .u8) w A0 l0.length l0) (hc0 : l0.length ≤ c0) (h : laws_FnSets.f k l0 = some r) :
    Calls Try.prog 7 #[.slice A0 l0.length c0] w fun e w' => e = .returned (.bool r) ∧ Below w.heap.size w w' := by
  have HR0 := Aside0.mk hr0
  have HC0 := Aside0.mk hc0
  clear hr0 hc0
  have HB := Aside0.mk (Below.refl w.heap.size w)
  have H : ((laws_big.f l0).bind fun t238 => (if t238 = true then (some true) else ((spec_DrawByteSign.f k l0).bind fun bt239 => ((impl_ByteSign.f k bt239.1 bt239.2).bind fun bt241 => ((spec_ByteSign.f k bt239.1 bt239.2).bind fun bt243 => ((spec_DrawSignByte.f k l0).bind fun bt245 => ((impl_SignByte.f k bt245.1 bt245.2).bind fun bt247 => ((spec_SignByte.f k bt245.1 bt245.2).bind fun bt249 => ((laws_at.f l0 2).bind fun t251 => ((laws_at.f l0 3).bind fun t252 => ((impl_ByteSign.f k (wrap64 (1 + (Int.tmod t252 4))) (Int.tmod t251 128)).bind fun bt253 => (if (bt241.2 != bt243.2) = true then (laws_FnSets.j0 k l0 bt239.1 bt239.2 bt241.1 bt241.2 true) else (if bt241.1 = bt243.1 then (if (bt247.2 != bt249.2) = true then (laws_FnSets.j0 k l0 bt239.1 bt239.2 bt241.1 bt241.2 true) else (if bt247.1 = bt249.1 then (if bt253.2 = true then (laws_FnSets.j0 k l0 bt239.1 bt239.2 bt241.1 bt241.2 (bt253.1 != (Int.tmod t251 128))) else (laws_FnSets.j0 k l0 bt239.1 bt239.2 bt241.1 bt241.2 true)) else (laws_FnSets.j0 k l0 bt239.1 bt239.2 bt241.1 bt241.2 true))) else (laws_FnSets.j0 k l0 bt239.1 bt239.2 bt241.1 bt241.2 true)))))))))))))) = some r := h
  clear h
  replace H := Option.bind_eq_some_iff.mp H
  obtain ⟨t238, A20, H⟩ := H
  replace H : (if t238 = true then (some true) else ((spec_DrawByteSign.f k l0).bind fun bt239 => ((impl_ByteSign.f k bt239.1 bt239.2).bind fun bt241 => ((spec_ByteSign.f k bt239.1 bt239.2).bind fun bt243 => ((spec_DrawSignByte.f k l0).bind fun bt245 => ((impl_SignByte.f k bt245.1 bt245.2).bind fun bt247 => ((spec_SignByte.f k bt245.1 bt245.2).bind fun bt249 => ((laws_at.f l0 2).bind fun t251 => ((laws_at.f l0 3).bind fun t252 => ((impl_ByteSign.f k (wrap64 (1 + (Int.tmod t252 4))) (Int.tmod t251 128)).bind fun bt253 => (if (bt241.2 != bt243.2) = true then (laws_FnSets.j0 k l0 bt239.1 bt239.2 bt241.1 bt241.2 true) else (if bt241.1 = bt243.1 then (if (bt247.2 != bt249.2) = true then (laws_FnSets.j0 k l0 bt239.1 bt239.2 bt241.1 bt241.2 true) else (if bt247.1 = bt249.1 then (if bt253.2 = true then (laws_FnSets.j0 k l0 bt239.1 bt239.2 bt241.1 bt241.2 (bt253.1 != (Int.tmod t251 128))) else (laws_FnSets.j0 k l0 bt239.1 bt239.2 bt241.1 bt241.2 true)) else (laws_FnSets.j0 k l0 bt239.1 bt239.2 bt241.1 bt241.2 true))) else (laws_FnSets.j0 k l0 bt239.1 bt239.2 bt241.1 bt241.2 true))))))))))))) = some r := H
  have A2 := Aside0.mk A20
  clear A20
  by_cases c3 : t238 = true
  · subst c3
    have H1 : (some true) = some r := by rw [if_pos rfl] at H; exact H
    clear H
    have H := H1
    clear H1
    obtain rfl := Option.some.inj H
    go_enter Try.func7, Try.ntmps7
    go_wp2_with (first | ((with_reducible refine gate_callee (f := 8) rfl ?_); refine goesL_ (some 26) rfl rfl Try.func8 (by kernel_rfl) rfl #[.slice A0 l0.length c0] rfl (by (try simp only [List.map_toArray, List.map_cons, List.map_nil]); first | done | rfl | (simp only [List.length_drop, List.length_take]; rfl)) ?_; (with_reducible refine (laws_big.calls _ _ l0 true _ ?side1 ?side2 A2.out).mono ?_); (case side1 => repeat (first | exact HR0.out | (with_reducible refine Kd.C_alloc ?_ _) | (with_reducible refine Kd.C_drewN ?_ _) | (with_reducible refine Kd.C_drew ?_))); (case side2 => exact HC0.out); rintro e w' ⟨rfl, ⟨nd, rfl⟩⟩; refine ⟨_, rfl, ?_⟩))
    go_ret
    exact ⟨by first | rfl | (simp [errW_none, errW_some] <;> rfl) | (simp [*, errW_none, errW_some] <;> rfl), by repeat (first | (with_reducible first | exact HB.out | apply below_alloc | apply pw_below_drewN | apply below_drew1) | exact HB.out)⟩
  · replace c3 := Bool.eq_false_iff.mpr c3
    subst c3
    have H1 : ((spec_DrawByteSign.f k l0).bind fun bt239 => ((impl_ByteSign.f k bt239.1 bt239.2).bind fun bt241 => ((spec_ByteSign.f k bt239.1 bt239.2).bind fun bt243 => ((spec_DrawSignByte.f k l0).bind fun bt245 => ((impl_SignByte.f k bt245.1 bt245.2).bind fun bt247 => ((spec_SignByte.f k bt245.1 bt245.2).bind fun bt249 => ((laws_at.f l0 2).bind fun t251 => ((laws_at.f l0 3).bind fun t252 => ((impl_ByteSign.f k (wrap64 (1 + (Int.tmod t252 4))) (Int.tmod t251 128)).bind fun bt253 => (if (bt241.2 != bt243.2) = true then (laws_FnSets.j0 k l0 bt239.1 bt239.2 bt241.1 bt241.2 true) else (if bt241.1 = bt243.1 then (if (bt247.2 != bt249.2) = true then (laws_FnSets.j0 k l0 bt239.1 bt239.2 bt241.1 bt241.2 true) else (if bt247.1 = bt249.1 then (if bt253.2 = true then (laws_FnSets.j0 k l0 bt239.1 bt239.2 bt241.1 bt241.2 (bt253.1 != (Int.tmod t251 128))) else (laws_FnSets.j0 k l0 bt239.1 bt239.2 bt241.1 bt241.2 true)) else (laws_FnSets.j0 k l0 bt239.1 bt239.2 bt241.1 bt241.2 true))) else (laws_FnSets.j0 k l0 bt239.1 bt239.2 bt241.1 bt241.2 true)))))))))))) = some r := by rw [if_neg (show ¬ (false = true) by decide)] at H; exact H
    clear H
    have H := H1
    clear H1
    replace H := Option.bind_eq_some_iff.mp H
    obtain ⟨⟨t239, t240⟩, A40, H⟩ := H
    replace H : ((impl_ByteSign.f k t239 t240).bind fun bt241 => ((spec_ByteSign.f k t239 t240).bind fun bt243 => ((spec_DrawSignByte.f k l0).bind fun bt245 => ((impl_SignByte.f k bt245.1 bt245.2).bind fun bt247 => ((spec_SignByte.f k bt245.1 bt245.2).bind fun bt249 => ((laws_at.f l0 2).bind fun t251 => ((laws_at.f l0 3).bind fun t252 => ((impl_ByteSign.f k (wrap64 (1 + (Int.tmod t252 4))) (Int.tmod t251 128)).bind fun bt253 => (if (bt241.2 != bt243.2) = true then (laws_FnSets.j0 k l0 t239 t240 bt241.1 bt241.2 true) else (if bt241.1 = bt243.1 then (if (bt247.2 != bt249.2) = true then (laws_FnSets.j0 k l0 t239 t240 bt241.1 bt241.2 true) else (if bt247.1 = bt249.1 then (if bt253.2 = true then (laws_FnSets.j0 k l0 t239 t240 bt241.1 bt241.2 (bt253.1 != (Int.tmod t251 128))) else (laws_FnSets.j0 k l0 t239 t240 bt241.1 bt241.2 true)) else (laws_FnSets.j0 k l0 t239 t240 bt241.1 bt241.2 true))) else (laws_FnSets.j0 k l0 t239 t240 bt241.1 bt241.2 true))))))))))) = some r := H
    have A4 := Aside0.mk A40
    clear A40
    replace H := Option.bind_eq_some_iff.mp H
    obtain ⟨⟨t241, t242⟩, A50, H⟩ := H
    replace H : ((spec_ByteSign.f k t239 t240).bind fun bt243 => ((spec_DrawSignByte.f k l0).bind fun bt245 => ((impl_SignByte.f k bt245.1 bt245.2).bind fun bt247 => ((spec_SignByte.f k bt245.1 bt245.2).bind fun bt249 => ((laws_at.f l0 2).bind fun t251 => ((laws_at.f l0 3).bind fun t252 => ((impl_ByteSign.f k (wrap64 (1 + (Int.tmod t252 4))) (Int.tmod t251 128)).bind fun bt253 => (if (t242 != bt243.2) = true then (laws_FnSets.j0 k l0 t239 t240 t241 t242 true) else (if t241 = bt243.1 then (if (bt247.2 != bt249.2) = true then (laws_FnSets.j0 k l0 t239 t240 t241 t242 true) else (if bt247.1 = bt249.1 then (if bt253.2 = true then (laws_FnSets.j0 k l0 t239 t240 t241 t242 (bt253.1 != (Int.tmod t251 128))) else (laws_FnSets.j0 k l0 t239 t240 t241 t242 true)) else (laws_FnSets.j0 k l0 t239 t240 t241 t242 true))) else (laws_FnSets.j0 k l0 t239 t240 t241 t242 true)))))))))) = some r := H
    have A5 := Aside0.mk A50
    clear A50
    replace H := Option.bind_eq_some_iff.mp H
    obtain ⟨⟨t243, t244⟩, A60, H⟩ := H
    replace H : ((spec_DrawSignByte.f k l0).bind fun bt245 => ((impl_SignByte.f k bt245.1 bt245.2).bind fun bt247 => ((spec_SignByte.f k bt245.1 bt245.2).bind fun bt249 => ((laws_at.f l0 2).bind fun t251 => ((laws_at.f l0 3).bind fun t252 => ((impl_ByteSign.f k (wrap64 (1 + (Int.tmod t252 4))) (Int.tmod t251 128)).bind fun bt253 => (if (t242 != t244) = true then (laws_FnSets.j0 k l0 t239 t240 t241 t242 true) else (if t241 = t243 then (if (bt247.2 != bt249.2) = true then (laws_FnSets.j0 k l0 t239 t240 t241 t242 true) else (if bt247.1 = bt249.1 then (if bt253.2 = true then (laws_FnSets.j0 k l0 t239 t240 t241 t242 (bt253.1 != (Int.tmod t251 128))) else (laws_FnSets.j0 k l0 t239 t240 t241 t242 true)) else (laws_FnSets.j0 k l0 t239 t240 t241 t242 true))) else (laws_FnSets.j0 k l0 t239 t240 t241 t242 true))))))))) = some r := H
    have A6 := Aside0.mk A60
    clear A60
    replace H := Option.bind_eq_some_iff.mp H
    obtain ⟨⟨t245, t246⟩, A70, H⟩ := H
    replace H : ((impl_SignByte.f k t245 t246).bind fun bt247 => ((spec_SignByte.f k t245 t246).bind fun bt249 => ((laws_at.f l0 2).bind fun t251 => ((laws_at.f l0 3).bind fun t252 => ((impl_ByteSign.f k (wrap64 (1 + (Int.tmod t252 4))) (Int.tmod t251 128)).bind fun bt253 => (if (t242 != t244) = true then (laws_FnSets.j0 k l0 t239 t240 t241 t242 true) else (if t241 = t243 then (if (bt247.2 != bt249.2) = true then (laws_FnSets.j0 k l0 t239 t240 t241 t242 true) else (if bt247.1 = bt249.1 then (if bt253.2 = true then (laws_FnSets.j0 k l0 t239 t240 t241 t242 (bt253.1 != (Int.tmod t251 128))) else (laws_FnSets.j0 k l0 t239 t240 t241 t242 true)) else (laws_FnSets.j0 k l0 t239 t240 t241 t242 true))) else (laws_FnSets.j0 k l0 t239 t240 t241 t242 true)))))))) = some r := H
    have A7 := Aside0.mk A70
    clear A70
    replace H := Option.bind_eq_some_iff.mp H
    obtain ⟨⟨t247, t248⟩, A80, H⟩ := H
    replace H : ((spec_SignByte.f k t245 t246).bind fun bt249 => ((laws_at.f l0 2).bind fun t251 => ((laws_at.f l0 3).bind fun t252 => ((impl_ByteSign.f k (wrap64 (1 + (Int.tmod t252 4))) (Int.tmod t251 128)).bind fun bt253 => (if (t242 != t244) = true then (laws_FnSets.j0 k l0 t239 t240 t241 t242 true) else (if t241 = t243 then (if (t248 != bt249.2) = true then (laws_FnSets.j0 k l0 t239 t240 t241 t242 true) else (if t247 = bt249.1 then (if bt253.2 = true then (laws_FnSets.j0 k l0 t239 t240 t241 t242 (bt253.1 != (Int.tmod t251 128))) else (laws_FnSets.j0 k l0 t239 t240 t241 t242 true)) else (laws_FnSets.j0 k l0 t239 t240 t241 t242 true))) else (laws_FnSets.j0 k l0 t239 t240 t241 t242 true))))))) = some r := H
    have A8 := Aside0.mk A80
    clear A80
    replace H := Option.bind_eq_some_iff.mp H
    obtain ⟨⟨t249, t250⟩, A90, H⟩ := H
    replace H : ((laws_at.f l0 2).bind fun t251 => ((laws_at.f l0 3).bind fun t252 => ((impl_ByteSign.f k (wrap64 (1 + (Int.tmod t252 4))) (Int.tmod t251 128)).bind fun bt253 => (if (t242 != t244) = true then (laws_FnSets.j0 k l0 t239 t240 t241 t242 true) else (if t241 = t243 then (if (t248 != t250) = true then (laws_FnSets.j0 k l0 t239 t240 t241 t242 true) else (if t247 = t249 then (if bt253.2 = true then (laws_FnSets.j0 k l0 t239 t240 t241 t242 (bt253.1 != (Int.tmod t251 128))) else (laws_FnSets.j0 k l0 t239 t240 t241 t242 true)) else (laws_FnSets.j0 k l0 t239 t240 t241 t242 true))) else (laws_FnSets.j0 k l0 t239 t240 t241 t242 true)))))) = some r := H
    have A9 := Aside0.mk A90
    clear A90
    replace H := Option.bind_eq_some_iff.mp H
    obtain ⟨t251, A100, H⟩ := H
    replace H : ((laws_at.f l0 3).bind fun t252 => ((impl_ByteSign.f k (wrap64 (1 + (Int.tmod t252 4))) (Int.tmod t251 128)).bind fun bt253 => (if (t242 != t244) = true then (laws_FnSets.j0 k l0 t239 t240 t241 t242 true) else (if t241 = t243 then (if (t248 != t250) = true then (laws_FnSets.j0 k l0 t239 t240 t241 t242 true) else (if t247 = t249 then (if bt253.2 = true then (laws_FnSets.j0 k l0 t239 t240 t241 t242 (bt253.1 != (Int.tmod t251 128))) else (laws_FnSets.j0 k l0 t239 t240 t241 t242 true)) else (laws_FnSets.j0 k l0 t239 t240 t241 t242 true))) else (laws_FnSets.j0 k l0 t239 t240 t241 t242 true))))) = some r := H
    have A10 := Aside0.mk A100
    clear A100
    replace H := Option.bind_eq_some_iff.mp H
    obtain ⟨t252, A110, H⟩ := H
    replace H : ((impl_ByteSign.f k (wrap64 (1 + (Int.tmod t252 4))) (Int.tmod t251 128)).bind fun bt253 => (if (t242 != t244) = true then (laws_FnSets.j0 k l0 t239 t240 t241 t242 true) else (if t241 = t243 then (if (t248 != t250) = true then (laws_FnSets.j0 k l0 t239 t240 t241 t242 true) else (if t247 = t249 then (if bt253.2 = true then (laws_FnSets.j0 k l0 t239 t240 t241 t242 (bt253.1 != (Int.tmod t251 128))) else (laws_FnSets.j0 k l0 t239 t240 t241 t242 true)) else (laws_FnSets.j0 k l0 t239 t240 t241 t242 true))) else (laws_FnSets.j0 k l0 t239 t240 t241 t242 true)))) = some r := H
    have A11 := Aside0.mk A110
    clear A110
    replace H := Option.bind_eq_some_iff.mp H
    obtain ⟨⟨t253, t254⟩, A120, H⟩ := H
    replace H : (if (t242 != t244) = true then (laws_FnSets.j0 k l0 t239 t240 t241 t242 true) else (if t241 = t243 then (if (t248 != t250) = true then (laws_FnSets.j0 k l0 t239 t240 t241 t242 true) else (if t247 = t249 then (if t254 = true then (laws_FnSets.j0 k l0 t239 t240 t241 t242 (t253 != (Int.tmod t251 128))) else (laws_FnSets.j0 k l0 t239 t240 t241 t242 true)) else (laws_FnSets.j0 k l0 t239 t240 t241 t242 true))) else (laws_FnSets.j0 k l0 t239 t240 t241 t242 true))) = some r := H
    have A12 := Aside0.mk A120
    clear A120
    have HC13 := Aside0.mk H
    clear H
    go_enter Try.func7, Try.ntmps7
    go_upto_region 12 with (first | ((with_reducible refine gate_callee (f := 8) rfl ?_); refine goesL_ (some 26) rfl rfl Try.func8 (by kernel_rfl) rfl #[.slice A0 l0.length c0] rfl (by (try simp only [List.map_toArray, List.map_cons, List.map_nil]); first | done | rfl | (simp only [List.length_drop, List.length_take]; rfl)) ?_; (with_reducible refine (laws_big.calls _ _ l0 false _ ?side1 ?side2 A2.out).mono ?_); (case side1 => repeat (first | exact HR0.out | (with_reducible refine Kd.C_alloc ?_ _) | (with_reducible refine Kd.C_drewN ?_ _) | (with_reducible refine Kd.C_drew ?_))); (case side2 => exact HC0.out); rintro e w' ⟨rfl, ⟨nd, rfl⟩⟩; refine ⟨_, rfl, ?_⟩) | ((with_reducible refine gate_callee (f := 31) rfl ?_); refine goesL_ (some 29) rfl rfl Try.func31 (by kernel_rfl) rfl #[.slice A0 l0.length c0] rfl (by (try simp only [List.map_toArray, List.map_cons, List.map_nil]); first | done | rfl | (simp only [List.length_drop, List.length_take]; rfl)) ?_; (with_reducible refine (spec_DrawByteSign.calls k _ _ l0 t239 t240 _ ?side1 ?side2 A4.out).mono ?_); (case side1 => repeat (first | exact HR0.out | (with_reducible refine Kd.C_alloc ?_ _) | (with_reducible refine Kd.C_drewN ?_ _) | (with_reducible refine Kd.C_drew ?_))); (case side2 => exact HC0.out); rintro e w14 ⟨rfl, hb⟩; refine ⟨_, rfl, ?_⟩; have n0_ := Aside0.mk (below_step (by repeat (first | (with_reducible first | exact HB.out | apply below_alloc | apply pw_below_drewN | apply below_drew1) | exact HB.out)) hb); clear HB; have HB := n0_; clear n0_; (try clear hb); (try clear hb2); (try clear hk); (try clear hi)) | ((with_reducible refine gate_callee (f := 32) rfl ?_); refine goesL_ (some 35) rfl rfl Try.func32 (by kernel_rfl) rfl #[.int .i64 t239, .int .i64 t240] rfl (by (try simp only [List.map_toArray, List.map_cons, List.map_nil]); first | done | rfl | (simp only [List.length_drop, List.length_take]; rfl)) ?_; (with_reducible refine (impl_ByteSign.calls k t239 t240 t241 t242 _ A5.out).mono ?_); rintro e w15 ⟨rfl, hb⟩; refine ⟨_, rfl, ?_⟩; have n0_ := Aside0.mk (below_step (by repeat (first | (with_reducible first | exact HB.out | apply below_alloc | apply pw_below_drewN | apply below_drew1) | exact HB.out)) hb); clear HB; have HB := n0_; clear n0_; (try clear hb); (try clear hb2); (try clear hk); (try clear hi)) | ((with_reducible refine gate_callee (f := 33) rfl ?_); refine goesL_ (some 41) rfl rfl Try.func33 (by kernel_rfl) rfl #[.int .i64 t239, .int .i64 t240] rfl (by (try simp only [List.map_toArray, List.map_cons, List.map_nil]); first | done | rfl | (simp only [List.length_drop, List.length_take]; rfl)) ?_; (with_reducible refine (spec_ByteSign.calls k t239 t240 t243 t244 _ A6.out).mono ?_); rintro e w16 ⟨rfl, hb⟩; refine ⟨_, rfl, ?_⟩; have n0_ := Aside0.mk (below_step (by repeat (first | (with_reducible first | exact HB.out | apply below_alloc | apply pw_below_drewN | apply below_drew1) | exact HB.out)) hb); clear HB; have HB := n0_; clear n0_; (try clear hb); (try clear hb2); (try clear hk); (try clear hi)) | ((with_reducible refine gate_callee (f := 34) rfl ?_); refine goesL_ (some 46) rfl rfl Try.func34 (by kernel_rfl) rfl #[.slice A0 l0.length c0] rfl (by (try simp only [List.map_toArray, List.map_cons, List.map_nil]); first | done | rfl | (simp only [List.length_drop, List.length_take]; rfl)) ?_; (with_reducible refine (spec_DrawSignByte.calls k _ _ l0 t245 t246 _ ?side1 ?side2 A7.out).mono ?_); (case side1 => repeat (first | exact (Kd.C_below HR0.out HB.out) | (with_reducible refine Kd.C_alloc ?_ _) | (with_reducible refine Kd.C_drewN ?_ _) | (with_reducible refine Kd.C_drew ?_))); (case side2 => exact HC0.out); rintro e w17 ⟨rfl, hb⟩; refine ⟨_, rfl, ?_⟩; have n0_ := Aside0.mk (below_step (by repeat (first | (with_reducible first | exact HB.out | apply below_alloc | apply pw_below_drewN | apply below_drew1) | exact HB.out)) hb); clear HB; have HB := n0_; clear n0_; (try clear hb); (try clear hb2); (try clear hk); (try clear hi)) | ((with_reducible refine gate_callee (f := 18) rfl ?_); refine goesL_ (some 52) rfl rfl Try.func18 (by kernel_rfl) rfl #[.int .i64 t245, .int .i64 t246] rfl (by (try simp only [List.map_toArray, List.map_cons, List.map_nil]); first | done | rfl | (simp only [List.length_drop, List.length_take]; rfl)) ?_; (with_reducible refine (impl_SignByte.calls k t245 t246 t247 t248 _ A8.out).mono ?_); rintro e w18 ⟨rfl, hb⟩; refine ⟨_, rfl, ?_⟩; have n0_ := Aside0.mk (below_step (by repeat (first | (with_reducible first | exact HB.out | apply below_alloc | apply pw_below_drewN | apply below_drew1) | exact HB.out)) hb); clear HB; have HB := n0_; clear n0_; (try clear hb); (try clear hb2); (try clear hk); (try clear hi)) | ((with_reducible refine gate_callee (f := 17) rfl ?_); refine goesL_ (some 58) rfl rfl Try.func17 (by kernel_rfl) rfl #[.int .i64 t245, .int .i64 t246] rfl (by (try simp only [List.map_toArray, List.map_cons, List.map_nil]); first | done | rfl | (simp only [List.length_drop, List.length_take]; rfl)) ?_; (with_reducible refine (spec_SignByte.calls k t245 t246 t249 t250 _ A9.out).mono ?_); rintro e w19 ⟨rfl, hb⟩; refine ⟨_, rfl, ?_⟩; have n0_ := Aside0.mk (below_step (by repeat (first | (with_reducible first | exact HB.out | apply below_alloc | apply pw_below_drewN | apply below_drew1) | exact HB.out)) hb); clear HB; have HB := n0_; clear n0_; (try clear hb); (try clear hb2); (try clear hk); (try clear hi)) | ((with_reducible refine gate_callee (f := 12) rfl ?_); refine goesL_ (some 62) rfl rfl Try.func12 (by kernel_rfl) rfl #[.slice A0 l0.length c0, .int .i64 2] rfl (by (try simp only [List.map_toArray, List.map_cons, List.map_nil]); first | done | rfl | (simp only [List.length_drop, List.length_take]; rfl)) ?_; (with_reducible refine (laws_at.calls _ _ l0 2 t251 _ ?side1 ?side2 A10.out).mono ?_); (case side1 => repeat (first | exact (Kd.C_below HR0.out HB.out) | (with_reducible refine Kd.C_alloc ?_ _) | (with_reducible refine Kd.C_drewN ?_ _) | (with_reducible refine Kd.C_drew ?_))); (case side2 => exact HC0.out); rintro e w' ⟨rfl, ⟨nd, rfl⟩⟩; refine ⟨_, rfl, ?_⟩) | ((with_reducible refine gate_callee (f := 12) rfl ?_); refine goesL_ (some 65) rfl rfl Try.func12 (by kernel_rfl) rfl #[.slice A0 l0.length c0, .int .i64 3] rfl (by (try simp only [List.map_toArray, List.map_cons, List.map_nil]); first | done | rfl | (simp only [List.length_drop, List.length_take]; rfl)) ?_; (with_reducible refine (laws_at.calls _ _ l0 3 t252 _ ?side1 ?side2 A11.out).mono ?_); (case side1 => repeat (first | exact (Kd.C_below HR0.out (by repeat (first | (with_reducible first | exact HB.out | apply below_alloc | apply pw_below_drewN | apply below_drew1) | exact HB.out))) | (with_reducible refine Kd.C_alloc ?_ _) | (with_reducible refine Kd.C_drewN ?_ _) | (with_reducible refine Kd.C_drew ?_))); (case side2 => exact HC0.out); rintro e w' ⟨rfl, ⟨nd, rfl⟩⟩; refine ⟨_, rfl, ?_⟩) | ((with_reducible refine gate_callee (f := 32) rfl ?_); refine goesL_ (some 71) rfl rfl Try.func32 (by kernel_rfl) rfl #[.int .i64 (wrap64 (1 + (Int.tmod t252 4))), .int .i64 (Int.tmod t251 128)] rfl (by (try simp only [List.map_toArray, List.map_cons, List.map_nil]); first | done | rfl | (simp only [List.length_drop, List.length_take]; rfl)) ?_; (with_reducible refine (impl_ByteSign.calls k (wrap64 (1 + (Int.tmod t252 4))) (Int.tmod t251 128) t253 t254 _ A12.out).mono ?_); rintro e w20 ⟨rfl, hb⟩; refine ⟨_, rfl, ?_⟩; have n0_ := Aside0.mk (below_step (by repeat (first | (with_reducible first | exact HB.out | apply below_alloc | apply pw_below_drewN | apply below_drew1) | exact HB.out)) hb); clear HB; have HB := n0_; clear n0_; (try clear hb); (try clear hb2); (try clear hk); (try clear hi)))
    (try simp only [Act.put, List.setIfInBounds_toArray, List.set_cons_zero, List.set_cons_succ])
    go_cut [100] (fun v100 wc => ∃ (kq : Nat) (x100_12 : Bool), v100 = .bool x100_12 ∧ Aside0 (laws_FnSets.j0 kq l0 t239 t240 t241 t242 x100_12 = some r) ∧ Aside0 (kq ≤ k) ∧ Aside0 (Below w.heap.size w wc))
    case first =>
      have H := HC13.out
      clear HC13
      by_cases c21 : (t242 != t244) = true
      · rw [if_pos c21] at H
        have c21b0 : (t242 != t244) = true := c21
        (try (have c21b1 : decide (t242 = t244) = false := by simpa using c21))
        (try (have c21b2 : (t242 == t244) = false := by simpa using c21))
        (try (have c21b3 : ¬ (t242 = t244) := by simpa using c21))
        clear c21
        (first | rw [c21b0] | (simp only [i64_w, i32_w]; rw [c21b0]) | skip)
        have H' := Aside0.mk H
        clear H
        go_wp2
        go_meet
        case rel => exact ⟨_, (true), (by first | rfl | (simp; done) | (simp [*]; done)), H', ⟨by first | omega | exact Nat.le_refl _⟩, ⟨by repeat (first | (with_reducible first | exact HB.out | apply below_alloc | apply pw_below_drewN | apply below_drew1) | exact HB.out)⟩⟩
      · rw [if_neg c21] at H
        have c21b0 : (t242 != t244) = false := by simpa using c21
        (try (have c21b1 : decide (t242 = t244) = true := by simpa using c21))
        (try (have c21b2 : (t242 == t244) = true := by simpa using c21))
        clear c21
        (first | rw [c21b0] | (simp only [i64_w, i32_w]; rw [c21b0]) | skip)
        by_cases c22 : t241 = t243
        · rw [if_pos c22] at H
          have c22b0 : (t241 == t243) = true := beq_iff_eq.mpr c22
          have c22b1 : (t241 != t243) = false := bne_eq_false_iff_eq.mpr c22
          clear c22
          by_cases c23 : (t248 != t250) = true
          · rw [if_pos c23] at H
            have c23b0 : (t248 != t250) = true := c23
            (try (have c23b1 : decide (t248 = t250) = false := by simpa using c23))
            (try (have c23b2 : (t248 == t250) = false := by simpa using c23))
            (try (have c23b3 : ¬ (t248 = t250) := by simpa using c23))
            clear c23
            have H' := Aside0.mk H
            clear H
            go_wp2
            go_meet
            case rel => exact ⟨_, (true), (by first | rfl | (simp; done) | (simp [*]; done)), H', ⟨by first | omega | exact Nat.le_refl _⟩, ⟨by repeat (first | (with_reducible first | exact HB.out | apply below_alloc | apply pw_below_drewN | apply below_drew1) | exact HB.out)⟩⟩
          · rw [if_neg c23] at H
            have c23b0 : (t248 != t250) = false := by simpa using c23
            (try (have c23b1 : decide (t248 = t250) = true := by simpa using c23))
            (try (have c23b2 : (t248 == t250) = true := by simpa using c23))
            clear c23
            by_cases c24 : t247 = t249
            · rw [if_pos c24] at H
              have c24b0 : (t247 == t249) = true := beq_iff_eq.mpr c24
              have c24b1 : (t247 != t249) = false := bne_eq_false_iff_eq.mpr c24
              clear c24
              by_cases c25 : t254 = true
              · subst c25
                have H1 : (laws_FnSets.j0 k l0 t239 t240 t241 t242 (t253 != (Int.tmod t251 128))) = some r := by rw [if_pos rfl] at H; exact H
                clear H
                have H := H1
                clear H1
                have H' := Aside0.mk H
                clear H
                go_wp2
                go_meet
                case rel => exact ⟨_, ((t253 != (Int.tmod t251 128))), (by first | rfl | (simp; done) | (simp [*]; done)), H', ⟨by first | omega | exact Nat.le_refl _⟩, ⟨by repeat (first | (with_reducible first | exact HB.out | apply below_alloc | apply pw_below_drewN | apply below_drew1) | exact HB.out)⟩⟩
              · replace c25 := Bool.eq_false_iff.mpr c25
                subst c25
                have H1 : (laws_FnSets.j0 k l0 t239 t240 t241 t242 true) = some r := by rw [if_neg (show ¬ (false = true) by decide)] at H; exact H
                clear H
                have H := H1
                clear H1
                have H' := Aside0.mk H
                clear H
                go_wp2
                go_meet
                case rel => exact ⟨_, (true), (by first | rfl | (simp; done) | (simp [*]; done)), H', ⟨by first | omega | exact Nat.le_refl _⟩, ⟨by repeat (first | (with_reducible first | exact HB.out | apply below_alloc | apply pw_below_drewN | apply below_drew1) | exact HB.out)⟩⟩
            · rw [if_neg c24] at H
              have c24b0 : (t247 == t249) = false := beq_eq_false_iff_ne.mpr c24
              have c24b1 : (t247 != t249) = true := bne_iff_ne.mpr c24
              have H' := Aside0.mk H
              clear H
              go_wp2
              go_meet
              case rel => exact ⟨_, (true), (by first | rfl | (simp; done) | (simp [*]; done)), H', ⟨by first | omega | exact Nat.le_refl _⟩, ⟨by repeat (first | (with_reducible first | exact HB.out | apply below_alloc | apply pw_below_drewN | apply below_drew1) | exact HB.out)⟩⟩
        · rw [if_neg c22] at H
          have c22b0 : (t241 == t243) = false := beq_eq_false_iff_ne.mpr c22
          have c22b1 : (t241 != t243) = true := bne_iff_ne.mpr c22
          have H' := Aside0.mk H
          clear H
          go_wp2
          go_meet
          case rel => exact ⟨_, (true), (by first | rfl | (simp; done) | (simp [*]; done)), H', ⟨by first | omega | exact Nat.le_refl _⟩, ⟨by repeat (first | (with_reducible first | exact HB.out | apply below_alloc | apply pw_below_drewN | apply below_drew1) | exact HB.out)⟩⟩
    case rest =>
      clear HC13
      try clear c1
      try clear c2
      try clear p2
      try clear c3
      try clear p6
      try clear c7
      try clear c8
      try clear c12
      try clear c17
      try clear c18
      try clear c21
      try clear c21b0
      try clear c21b1
      try clear c21b2
      try clear c22
      try clear c22b0
      try clear c22b1
      try clear c23
      try clear c23b0
      try clear c23b1
      try clear c23b2
      try clear c24
      try clear c24b0
      try clear c24b1
      try clear c25
      obtain ⟨kq, x100_12, rfl, HA, HJ12, HB⟩ := hcut
      cases kq with
      | zero => exact absurd HA.out (by simp [laws_FnSets.j0])
      | succ kj12 =>
        have H := HA.out
        clear HA
        simp only [laws_FnSets.j0] at H
        by_cases c26 : x100_12 = true
        · subst c26
          have H1 : (some false) = some r := by rw [if_pos rfl] at H; exact H
          clear H
          have H := H1
          clear H1
          obtain rfl := Option.some.inj H
          go_wp2
          go_ret
          exact ⟨by first | rfl | (simp [errW_none, errW_some] <;> rfl) | (simp [*, errW_none, errW_some] <;> rfl), by repeat (first | (with_reducible first | exact HB.out | apply below_alloc | apply pw_below_drewN | apply below_drew1) | exact HB.out)⟩
        · replace c26 := Bool.eq_false_iff.mpr c26
          subst c26
          have H1 : (if t242 = true then ((impl_SignByte.f kj12 t239 t241).bind fun bt255 => ((impl_ByteSign.f kj12 t239 bt255.1).bind fun bt257 => (if bt255.2 = true then (if bt257.2 = true then (if bt257.1 = t241 then (if bt255.1 = t240 then (laws_FnSets.j1 kj12 l0) else (some false)) else (some false)) else (some false)) else (some false)))) else (laws_FnSets.j1 kj12 l0)) = some r := by rw [if_neg (show ¬ (false = true) by decide)] at H; exact H
          clear H
          have H := H1
          clear H1
          have HC27 := Aside0.mk H
          clear H
          go_upto_if 101 with (fail)
          go_cut [] (fun wc => ∃ (kq : Nat), Aside0 (laws_FnSets.j1 kq l0 = some r) ∧ Aside0 (kq ≤ kj12) ∧ Aside0 (Below w.heap.size w wc))
          case first =>
            have H := HC27.out
            clear HC27
            by_cases c28 : t242 = true
            · subst c28
              have H1 : ((impl_SignByte.f kj12 t239 t241).bind fun bt255 => ((impl_ByteSign.f kj12 t239 bt255.1).bind fun bt257 => (if bt255.2 = true then (if bt257.2 = true then (if bt257.1 = t241 then (if bt255.1 = t240 then (laws_FnSets.j1 kj12 l0) else (some false)) else (some false)) else (some false)) else (some false)))) = some r := by rw [if_pos rfl] at H; exact H
              clear H
              have H := H1
              clear H1
              replace H := Option.bind_eq_some_iff.mp H
              obtain ⟨⟨t255, t256⟩, A290, H⟩ := H
              replace H : ((impl_ByteSign.f kj12 t239 t255).bind fun bt257 => (if t256 = true then (if bt257.2 = true then (if bt257.1 = t241 then (if t255 = t240 then (laws_FnSets.j1 kj12 l0) else (some false)) else (some false)) else (some false)) else (some false))) = some r := H
              have A29 := Aside0.mk A290
              clear A290
              replace H := Option.bind_eq_some_iff.mp H
              obtain ⟨⟨t257, t258⟩, A300, H⟩ := H
              replace H : (if t256 = true then (if t258 = true then (if t257 = t241 then (if t255 = t240 then (laws_FnSets.j1 kj12 l0) else (some false)) else (some false)) else (some false)) else (some false)) = some r := H
              have A30 := Aside0.mk A300
              clear A300
              by_cases c31 : t256 = true
              · subst c31
                have H1 : (if t258 = true then (if t257 = t241 then (if t255 = t240 then (laws_FnSets.j1 kj12 l0) else (some false)) else (some false)) else (some false)) = some r := by rw [if_pos rfl] at H; exact H
                clear H
                have H := H1
                clear H1
                by_cases c32 : t258 = true
                · subst c32
                  have H1 : (if t257 = t241 then (if t255 = t240 then (laws_FnSets.j1 kj12 l0) else (some false)) else (some false)) = some r := by rw [if_pos rfl] at H; exact H
                  clear H
                  have H := H1
                  clear H1
                  by_cases c33 : t257 = t241
                  · rw [if_pos c33] at H
                    have c33b0 : (t257 == t241) = true := beq_iff_eq.mpr c33
                    have c33b1 : (t257 != t241) = false := bne_eq_false_iff_eq.mpr c33
                    clear c33
                    (first | rw [c33b0] | (simp only [i64_w, i32_w]; rw [c33b0]) | skip)
                    by_cases c34 : t255 = t240
                    · rw [if_pos c34] at H
                      have c34b0 : (t255 == t240) = true := beq_iff_eq.mpr c34
                      have c34b1 : (t255 != t240) = false := bne_eq_false_iff_eq.mpr c34
                      clear c34
                      have H' := Aside0.mk H
                      clear H
                      go_wp2_with (first | ((with_reducible refine gate_callee (f := 18) rfl ?_); refine goesL_ (some 105) rfl rfl Try.func18 (by kernel_rfl) rfl #[.int .i64 t239, .int .i64 t241] rfl (by (try simp only [List.map_toArray, List.map_cons, List.map_nil]); first | done | rfl | (simp only [List.length_drop, List.length_take]; rfl)) ?_; (with_reducible refine (impl_SignByte.calls kj12 t239 t241 t255 true _ A29.out).mono ?_); rintro e w35 ⟨rfl, hb⟩; refine ⟨_, rfl, ?_⟩; have n0_ := Aside0.mk (below_step (by repeat (first | (with_reducible first | exact HB.out | apply below_alloc | apply pw_below_drewN | apply below_drew1) | exact HB.out)) hb); clear HB; have HB := n0_; clear n0_; (try clear hb); (try clear hb2); (try clear hk); (try clear hi)) | ((with_reducible refine gate_callee (f := 32) rfl ?_); refine goesL_ (some 111) rfl rfl Try.func32 (by kernel_rfl) rfl #[.int .i64 t239, .int .i64 t255] rfl (by (try simp only [List.map_toArray, List.map_cons, List.map_nil]); first | done | rfl | (simp only [List.length_drop, List.length_take]; rfl)) ?_; (with_reducible refine (impl_ByteSign.calls kj12 t239 t255 t257 true _ A30.out).mono ?_); rintro e w36 ⟨rfl, hb⟩; refine ⟨_, rfl, ?_⟩; have n0_ := Aside0.mk (below_step (by repeat (first | (with_reducible first | exact HB.out | apply below_alloc | apply pw_below_drewN | apply below_drew1) | exact HB.out)) hb); clear HB; have HB := n0_; clear n0_; (try clear hb); (try clear hb2); (try clear hk); (try clear hi)))
                      go_meet
                      case rel => exact ⟨_, H', ⟨by have := HJ12.out; first | omega | exact Nat.le_refl _⟩, ⟨by repeat (first | (with_reducible first | exact HB.out | apply below_alloc | apply pw_below_drewN | apply below_drew1) | exact HB.out)⟩⟩
                    · rw [if_neg c34] at H
                      have c34b0 : (t255 == t240) = false := beq_eq_false_iff_ne.mpr c34
                      have c34b1 : (t255 != t240) = true := bne_iff_ne.mpr c34
                      obtain rfl := Option.some.inj H
                      go_wp2_with (first | ((with_reducible refine gate_callee (f := 18) rfl ?_); refine goesL_ (some 105) rfl rfl Try.func18 (by kernel_rfl) rfl #[.int .i64 t239, .int .i64 t241] rfl (by (try simp only [List.map_toArray, List.map_cons, List.map_nil]); first | done | rfl | (simp only [List.length_drop, List.length_take]; rfl)) ?_; (with_reducible refine (impl_SignByte.calls kj12 t239 t241 t255 true _ A29.out).mono ?_); rintro e w37 ⟨rfl, hb⟩; refine ⟨_, rfl, ?_⟩; have n0_ := Aside0.mk (below_step (by repeat (first | (with_reducible first | exact HB.out | apply below_alloc | apply pw_below_drewN | apply below_drew1) | exact HB.out)) hb); clear HB; have HB := n0_; clear n0_; (try clear hb); (try clear hb2); (try clear hk); (try clear hi)) | ((with_reducible refine gate_callee (f := 32) rfl ?_); refine goesL_ (some 111) rfl rfl Try.func32 (by kernel_rfl) rfl #[.int .i64 t239, .int .i64 t255] rfl (by (try simp only [List.map_toArray, List.map_cons, List.map_nil]); first | done | rfl | (simp only [List.length_drop, List.length_take]; rfl)) ?_; (with_reducible refine (impl_ByteSign.calls kj12 t239 t255 t257 true _ A30.out).mono ?_); rintro e w38 ⟨rfl, hb⟩; refine ⟨_, rfl, ?_⟩; have n0_ := Aside0.mk (below_step (by repeat (first | (with_reducible first | exact HB.out | apply below_alloc | apply pw_below_drewN | apply below_drew1) | exact HB.out)) hb); clear HB; have HB := n0_; clear n0_; (try clear hb); (try clear hb2); (try clear hk); (try clear hi)))
                      go_ret
                      exact ⟨by first | rfl | (simp [errW_none, errW_some] <;> rfl) | (simp [*, errW_none, errW_some] <;> rfl), by repeat (first | (with_reducible first | exact HB.out | apply below_alloc | apply pw_below_drewN | apply below_drew1) | exact HB.out)⟩
                  · rw [if_neg c33] at H
                    have c33b0 : (t257 == t241) = false := beq_eq_false_iff_ne.mpr c33
                    have c33b1 : (t257 != t241) = true := bne_iff_ne.mpr c33
                    (first | rw [c33b0] | (simp only [i64_w, i32_w]; rw [c33b0]) | skip)
                    obtain rfl := Option.some.inj H
                    go_wp2_with (first | ((with_reducible refine gate_callee (f := 18) rfl ?_); refine goesL_ (some 105) rfl rfl Try.func18 (by kernel_rfl) rfl #[.int .i64 t239, .int .i64 t241] rfl (by (try simp only [List.map_toArray, List.map_cons, List.map_nil]); first | done | rfl | (simp only [List.length_drop, List.length_take]; rfl)) ?_; (with_reducible refine (impl_SignByte.calls kj12 t239 t241 t255 true _ A29.out).mono ?_); rintro e w39 ⟨rfl, hb⟩; refine ⟨_, rfl, ?_⟩; have n0_ := Aside0.mk (below_step (by repeat (first | (with_reducible first | exact HB.out | apply below_alloc | apply pw_below_drewN | apply below_drew1) | exact HB.out)) hb); clear HB; have HB := n0_; clear n0_; (try clear hb); (try clear hb2); (try clear hk); (try clear hi)) | ((with_reducible refine gate_callee (f := 32) rfl ?_); refine goesL_ (some 111) rfl rfl Try.func32 (by kernel_rfl) rfl #[.int .i64 t239, .int .i64 t255] rfl (by (try simp only [List.map_toArray, List.map_cons, List.map_nil]); first | done | rfl | (simp only [List.length_drop, List.length_take]; rfl)) ?_; (with_reducible refine (impl_ByteSign.calls kj12 t239 t255 t257 true _ A30.out).mono ?_); rintro e w40 ⟨rfl, hb⟩; refine ⟨_, rfl, ?_⟩; have n0_ := Aside0.mk (below_step (by repeat (first | (with_reducible first | exact HB.out | apply below_alloc | apply pw_below_drewN | apply below_drew1) | exact HB.out)) hb); clear HB; have HB := n0_; clear n0_; (try clear hb); (try clear hb2); (try clear hk); (try clear hi)))
                    go_ret
                    exact ⟨by first | rfl | (simp [errW_none, errW_some] <;> rfl) | (simp [*, errW_none, errW_some] <;> rfl), by repeat (first | (with_reducible first | exact HB.out | apply below_alloc | apply pw_below_drewN | apply below_drew1) | exact HB.out)⟩
                · replace c32 := Bool.eq_false_iff.mpr c32
                  subst c32
                  have H1 : (some false) = some r := by rw [if_neg (show ¬ (false = true) by decide)] at H; exact H
                  clear H
                  have H := H1
                  clear H1
                  obtain rfl := Option.some.inj H
                  go_wp2_with (first | ((with_reducible refine gate_callee (f := 18) rfl ?_); refine goesL_ (some 105) rfl rfl Try.func18 (by kernel_rfl) rfl #[.int .i64 t239, .int .i64 t241] rfl (by (try simp only [List.map_toArray, List.map_cons, List.map_nil]); first | done | rfl | (simp only [List.length_drop, List.length_take]; rfl)) ?_; (with_reducible refine (impl_SignByte.calls kj12 t239 t241 t255 true _ A29.out).mono ?_); rintro e w41 ⟨rfl, hb⟩; refine ⟨_, rfl, ?_⟩; have n0_ := Aside0.mk (below_step (by repeat (first | (with_reducible first | exact HB.out | apply below_alloc | apply pw_below_drewN | apply below_drew1) | exact HB.out)) hb); clear HB; have HB := n0_; clear n0_; (try clear hb); (try clear hb2); (try clear hk); (try clear hi)) | ((with_reducible refine gate_callee (f := 32) rfl ?_); refine goesL_ (some 111) rfl rfl Try.func32 (by kernel_rfl) rfl #[.int .i64 t239, .int .i64 t255] rfl (by (try simp only [List.map_toArray, List.map_cons, List.map_nil]); first | done | rfl | (simp only [List.length_drop, List.length_take]; rfl)) ?_; (with_reducible refine (impl_ByteSign.calls kj12 t239 t255 t257 false _ A30.out).mono ?_); rintro e w42 ⟨rfl, hb⟩; refine ⟨_, rfl, ?_⟩; have n0_ := Aside0.mk (below_step (by repeat (first | (with_reducible first | exact HB.out | apply below_alloc | apply pw_below_drewN | apply below_drew1) | exact HB.out)) hb); clear HB; have HB := n0_; clear n0_; (try clear hb); (try clear hb2); (try clear hk); (try clear hi)))
                  go_ret
                  exact ⟨by first | rfl | (simp [errW_none, errW_some] <;> rfl) | (simp [*, errW_none, errW_some] <;> rfl), by repeat (first | (with_reducible first | exact HB.out | apply below_alloc | apply pw_below_drewN | apply below_drew1) | exact HB.out)⟩
              · replace c31 := Bool.eq_false_iff.mpr c31
                subst c31
                have H1 : (some false) = some r := by rw [if_neg (show ¬ (false = true) by decide)] at H; exact H
                clear H
                have H := H1
                clear H1
                obtain rfl := Option.some.inj H
                go_wp2_with (first | ((with_reducible refine gate_callee (f := 18) rfl ?_); refine goesL_ (some 105) rfl rfl Try.func18 (by kernel_rfl) rfl #[.int .i64 t239, .int .i64 t241] rfl (by (try simp only [List.map_toArray, List.map_cons, List.map_nil]); first | done | rfl | (simp only [List.length_drop, List.length_take]; rfl)) ?_; (with_reducible refine (impl_SignByte.calls kj12 t239 t241 t255 false _ A29.out).mono ?_); rintro e w43 ⟨rfl, hb⟩; refine ⟨_, rfl, ?_⟩; have n0_ := Aside0.mk (below_step (by repeat (first | (with_reducible first | exact HB.out | apply below_alloc | apply pw_below_drewN | apply below_drew1) | exact HB.out)) hb); clear HB; have HB := n0_; clear n0_; (try clear hb); (try clear hb2); (try clear hk); (try clear hi)) | ((with_reducible refine gate_callee (f := 32) rfl ?_); refine goesL_ (some 111) rfl rfl Try.func32 (by kernel_rfl) rfl #[.int .i64 t239, .int .i64 t255] rfl (by (try simp only [List.map_toArray, List.map_cons, List.map_nil]); first | done | rfl | (simp only [List.length_drop, List.length_take]; rfl)) ?_; (with_reducible refine (impl_ByteSign.calls kj12 t239 t255 t257 t258 _ A30.out).mono ?_); rintro e w44 ⟨rfl, hb⟩; refine ⟨_, rfl, ?_⟩; have n0_ := Aside0.mk (below_step (by repeat (first | (with_reducible first | exact HB.out | apply below_alloc | apply pw_below_drewN | apply below_drew1) | exact HB.out)) hb); clear HB; have HB := n0_; clear n0_; (try clear hb); (try clear hb2); (try clear hk); (try clear hi)))
                go_ret
                exact ⟨by first | rfl | (simp [errW_none, errW_some] <;> rfl) | (simp [*, errW_none, errW_some] <;> rfl), by repeat (first | (with_reducible first | exact HB.out | apply below_alloc | apply pw_below_drewN | apply below_drew1) | exact HB.out)⟩
            · replace c28 := Bool.eq_false_iff.mpr c28
              subst c28
              have H1 : (laws_FnSets.j1 kj12 l0) = some r := by rw [if_neg (show ¬ (false = true) by decide)] at H; exact H
              clear H
              have H := H1
              clear H1
              have H' := Aside0.mk H
              clear H
              go_wp2
              go_meet
              case rel => exact ⟨_, H', ⟨by have := HJ12.out; first | omega | exact Nat.le_refl _⟩, ⟨by repeat (first | (with_reducible first | exact HB.out | apply below_alloc | apply pw_below_drewN | apply below_drew1) | exact HB.out)⟩⟩
          case rest =>
            clear HC27
            try clear c1
            try clear c2
            try clear p2
            try clear c3
            try clear p6
            try clear c7
            try clear c8
            try clear c12
            try clear c17
            try clear c18
            try clear c21
            try clear c21b0
            try clear c21b1
            try clear c21b2
            try clear c22
            try clear c22b0
            try clear c22b1
            try clear c23
            try clear c23b0
            try clear c23b1
            try clear c23b2
            try clear c24
            try clear c24b0
            try clear c24b1
            try clear c25
            try clear c26
            try clear c28
            try clear c31
            try clear c32
            try clear c33
            try clear c33b0
            try clear c33b1
            try clear c34
            try clear c34b0
            try clear c34b1
            try clear p2
            try clear p6
            obtain ⟨kq, HA, HJ26, HB⟩ := hcut
            cases kq with
            | zero => exact absurd HA.out (by simp [laws_FnSets.j1])
            | succ kj26 =>
              have H := HA.out
              clear HA
              simp only [laws_FnSets.j1] at H
              replace H := Option.bind_eq_some_iff.mp H
              obtain ⟨t259, A450, H⟩ := H
              replace H : ((spec_DrawCsOf.f kj26 l0).bind fun t260 => ((impl_CsName.f t259).bind fun t261 => ((spec_CsName.f t259).bind fun t262 => (if t261.toList = t262.toList then ((impl_CsOf.f kj26 t260).bind fun t263 => ((spec_CsOf.f kj26 t260).bind fun t264 => (if t263 = t264 then ((impl_CsName.f t259).bind fun t265 => (if t265.toList = ([] : List UInt8) then (some true) else ((impl_CsName.f t259).bind fun t266 => ((impl_CsOf.f kj26 t266).bind fun t267 => (some (t267 == t259)))))) else (some false)))) else (some false))))) = some r := H
              have A45 := Aside0.mk A450
              clear A450
              replace H := Option.bind_eq_some_iff.mp H
              obtain ⟨t260, A460, H⟩ := H
              replace H : ((impl_CsName.f t259).bind fun t261 => ((spec_CsName.f t259).bind fun t262 => (if t261.toList = t262.toList then ((impl_CsOf.f kj26 t260).bind fun t263 => ((spec_CsOf.f kj26 t260).bind fun t264 => (if t263 = t264 then ((impl_CsName.f t259).bind fun t265 => (if t265.toList = ([] : List UInt8) then (some true) else ((impl_CsName.f t259).bind fun t266 => ((impl_CsOf.f kj26 t266).bind fun t267 => (some (t267 == t259)))))) else (some false)))) else (some false)))) = some r := H
              have A46 := Aside0.mk A460
              clear A460
              replace H := Option.bind_eq_some_iff.mp H
              obtain ⟨t261, A470, H⟩ := H
              replace H : ((spec_CsName.f t259).bind fun t262 => (if t261.toList = t262.toList then ((impl_CsOf.f kj26 t260).bind fun t263 => ((spec_CsOf.f kj26 t260).bind fun t264 => (if t263 = t264 then ((impl_CsName.f t259).bind fun t265 => (if t265.toList = ([] : List UInt8) then (some true) else ((impl_CsName.f t259).bind fun t266 => ((impl_CsOf.f kj26 t266).bind fun t267 => (some (t267 == t259)))))) else (some false)))) else (some false))) = some r := H
              have A47 := Aside0.mk A470
              clear A470
              replace H := Option.bind_eq_some_iff.mp H
              obtain ⟨t262, A480, H⟩ := H
              replace H : (if t261.toList = t262.toList then ((impl_CsOf.f kj26 t260).bind fun t263 => ((spec_CsOf.f kj26 t260).bind fun t264 => (if t263 = t264 then ((impl_CsName.f t259).bind fun t265 => (if t265.toList = ([] : List UInt8) then (some true) else ((impl_CsName.f t259).bind fun t266 => ((impl_CsOf.f kj26 t266).bind fun t267 => (some (t267 == t259)))))) else (some false)))) else (some false)) = some r := H
              have A48 := Aside0.mk A480
              clear A480
              by_cases c49 : t261.toList = t262.toList
              · rw [if_pos c49] at H
                have c49b0 : (t261.toList == t262.toList) = true := beq_iff_eq.mpr c49
                have c49b1 : (t261.toList != t262.toList) = false := bne_eq_false_iff_eq.mpr c49
                clear c49
                replace H := Option.bind_eq_some_iff.mp H
                obtain ⟨t263, A500, H⟩ := H
                replace H : ((spec_CsOf.f kj26 t260).bind fun t264 => (if t263 = t264 then ((impl_CsName.f t259).bind fun t265 => (if t265.toList = ([] : List UInt8) then (some true) else ((impl_CsName.f t259).bind fun t266 => ((impl_CsOf.f kj26 t266).bind fun t267 => (some (t267 == t259)))))) else (some false))) = some r := H
                have A50 := Aside0.mk A500
                clear A500
                replace H := Option.bind_eq_some_iff.mp H
                obtain ⟨t264, A510, H⟩ := H
                replace H : (if t263 = t264 then ((impl_CsName.f t259).bind fun t265 => (if t265.toList = ([] : List UInt8) then (some true) else ((impl_CsName.f t259).bind fun t266 => ((impl_CsOf.f kj26 t266).bind fun t267 => (some (t267 == t259)))))) else (some false)) = some r := H
                have A51 := Aside0.mk A510
                clear A510
                by_cases c52 : t263 = t264
                · rw [if_pos c52] at H
                  have c52b0 : (t263 == t264) = true := beq_iff_eq.mpr c52
                  have c52b1 : (t263 != t264) = false := bne_eq_false_iff_eq.mpr c52
                  clear c52
                  replace H := Option.bind_eq_some_iff.mp H
                  obtain ⟨t265, A530, H⟩ := H
                  replace H : (if t265.toList = ([] : List UInt8) then (some true) else ((impl_CsName.f t259).bind fun t266 => ((impl_CsOf.f kj26 t266).bind fun t267 => (some (t267 == t259))))) = some r := H
                  have A53 := Aside0.mk A530
                  clear A530
                  by_cases c54 : t265.toList = ([] : List UInt8)
                  · rw [if_pos c54] at H
                    have c54b0 : (t265.toList == ([] : List UInt8)) = true := beq_iff_eq.mpr c54
                    have c54b1 : (t265.toList != ([] : List UInt8)) = false := bne_eq_false_iff_eq.mpr c54
                    clear c54
                    obtain rfl := Option.some.inj H
                    go_wp2_with (first | ((with_reducible refine gate_callee (f := 35) rfl ?_); refine goesL_ (some 131) rfl rfl Try.func35 (by kernel_rfl) rfl #[.slice A0 l0.length c0] rfl (by (try simp only [List.map_toArray, List.map_cons, List.map_nil]); first | done | rfl | (simp only [List.length_drop, List.length_take]; rfl)) ?_; (with_reducible refine (spec_DrawCsName.calls kj26 _ _ l0 t259 _ ?side1 ?side2 A45.out).mono ?_); (case side1 => repeat (first | exact (Kd.C_below HR0.out HB.out) | (with_reducible refine Kd.C_alloc ?_ _) | (with_reducible refine Kd.C_drewN ?_ _) | (with_reducible refine Kd.C_drew ?_))); (case side2 => exact HC0.out); rintro e w55 ⟨rfl, hb⟩; refine ⟨_, rfl, ?_⟩; have n0_ := Aside0.mk (below_step (by repeat (first | (with_reducible first | exact HB.out | apply below_alloc | apply pw_below_drewN | apply below_drew1) | exact HB.out)) hb); clear HB; have HB := n0_; clear n0_; (try clear hb); (try clear hb2); (try clear hk); (try clear hi)) | ((with_reducible refine gate_callee (f := 36) rfl ?_); refine goesL_ (some 133) rfl rfl Try.func36 (by kernel_rfl) rfl #[.slice A0 l0.length c0] rfl (by (try simp only [List.map_toArray, List.map_cons, List.map_nil]); first | done | rfl | (simp only [List.length_drop, List.length_take]; rfl)) ?_; (with_reducible refine (spec_DrawCsOf.calls kj26 _ _ l0 t260 _ ?side1 ?side2 A46.out).mono ?_); (case side1 => repeat (first | exact (Kd.C_below HR0.out HB.out) | (with_reducible refine Kd.C_alloc ?_ _) | (with_reducible refine Kd.C_drewN ?_ _) | (with_reducible refine Kd.C_drew ?_))); (case side2 => exact HC0.out); rintro e w56 ⟨rfl, hb⟩; refine ⟨_, rfl, ?_⟩; have n0_ := Aside0.mk (below_step (by repeat (first | (with_reducible first | exact HB.out | apply below_alloc | apply pw_below_drewN | apply below_drew1) | exact HB.out)) hb); clear HB; have HB := n0_; clear n0_; (try clear hb); (try clear hb2); (try clear hk); (try clear hi)) | ((with_reducible refine gate_callee (f := 37) rfl ?_); refine goesL_ (some 135) rfl rfl Try.func37 (by kernel_rfl) rfl #[.int .i64 t259] rfl (by (try simp only [List.map_toArray, List.map_cons, List.map_nil]); first | done | rfl | (simp only [List.length_drop, List.length_take]; rfl)) ?_; (with_reducible refine (impl_CsName.calls t259 t261 _ A47.out).mono ?_); rintro e w57 ⟨rfl, hb⟩; refine ⟨_, rfl, ?_⟩; have n0_ := Aside0.mk (below_step (by repeat (first | (with_reducible first | exact HB.out | apply below_alloc | apply pw_below_drewN | apply below_drew1) | exact HB.out)) hb); clear HB; have HB := n0_; clear n0_; (try clear hb); (try clear hb2); (try clear hk); (try clear hi)) | ((with_reducible refine gate_callee (f := 38) rfl ?_); refine goesL_ (some 137) rfl rfl Try.func38 (by kernel_rfl) rfl #[.int .i64 t259] rfl (by (try simp only [List.map_toArray, List.map_cons, List.map_nil]); first | done | rfl | (simp only [List.length_drop, List.length_take]; rfl)) ?_; (with_reducible refine (spec_CsName.calls t259 t262 _ A48.out).mono ?_); rintro e w58 ⟨rfl, hb⟩; refine ⟨_, rfl, ?_⟩; have n0_ := Aside0.mk (below_step (by repeat (first | (with_reducible first | exact HB.out | apply below_alloc | apply pw_below_drewN | apply below_drew1) | exact HB.out)) hb); clear HB; have HB := n0_; clear n0_; (try clear hb); (try clear hb2); (try clear hk); (try clear hi)) | (go_at_call 39; (with_reducible refine (impl_CsOf.calls kj26 t260 t263 _ A50.out).mono ?_); rintro e w59 ⟨rfl, hb⟩; have n0_ := Aside0.mk (below_step (by repeat (first | (with_reducible first | exact HB.out | apply below_alloc | apply pw_below_drewN | apply below_drew1) | exact HB.out)) hb); clear HB; have HB := n0_; clear n0_; (try clear hb); (try clear hb2); (try clear hk); (try clear hi)) | (go_at_call 40; (with_reducible refine (spec_CsOf.calls kj26 t260 t264 _ A51.out).mono ?_); rintro e w60 ⟨rfl, hb⟩; have n0_ := Aside0.mk (below_step (by repeat (first | (with_reducible first | exact HB.out | apply below_alloc | apply pw_below_drewN | apply below_drew1) | exact HB.out)) hb); clear HB; have HB := n0_; clear n0_; (try clear hb); (try clear hb2); (try clear hk); (try clear hi)) | (go_at_call 37; (with_reducible refine (impl_CsName.calls t259 t265 _ A53.out).mono ?_); rintro e w61 ⟨rfl, hb⟩; have n0_ := Aside0.mk (below_step (by repeat (first | (with_reducible first | exact HB.out | apply below_alloc | apply pw_below_drewN | apply below_drew1) | exact HB.out)) hb); clear HB; have HB := n0_; clear n0_; (try clear hb); (try clear hb2); (try clear hk); (try clear hi)))
                    go_ret
                    exact ⟨by first | rfl | (simp [errW_none, errW_some] <;> rfl) | (simp [*, errW_none, errW_some] <;> rfl), by repeat (first | (with_reducible first | exact HB.out | apply below_alloc | apply pw_below_drewN | apply below_drew1) | exact HB.out)⟩
                  · rw [if_neg c54] at H
                    have c54b0 : (t265.toList == ([] : List UInt8)) = false := beq_eq_false_iff_ne.mpr c54
                    have c54b1 : (t265.toList != ([] : List UInt8)) = true := bne_iff_ne.mpr c54
                    replace H := Option.bind_eq_some_iff.mp H
                    obtain ⟨t266, A620, H⟩ := H
                    replace H : ((impl_CsOf.f kj26 t266).bind fun t267 => (some (t267 == t259))) = some r := H
                    have A62 := Aside0.mk A620
                    clear A620
                    replace H := Option.bind_eq_some_iff.mp H
                    obtain ⟨t267, A630, H⟩ := H
                    replace H : (some (t267 == t259)) = some r := H
                    have A63 := Aside0.mk A630
                    clear A630
                    obtain rfl := Option.some.inj H
                    have e_ := Option.some.inj (A53.out.symm.trans A62.out)
                    subst e_
                    go_wp2_with (first | ((with_reducible refine gate_callee (f := 35) rfl ?_); refine goesL_ (some 131) rfl rfl Try.func35 (by kernel_rfl) rfl #[.slice A0 l0.length c0] rfl (by (try simp only [List.map_toArray, List.map_cons, List.map_nil]); first | done | rfl | (simp only [List.length_drop, List.length_take]; rfl)) ?_; (with_reducible refine (spec_DrawCsName.calls kj26 _ _ l0 t259 _ ?side1 ?side2 A45.out).mono ?_); (case side1 => repeat (first | exact (Kd.C_below HR0.out HB.out) | (with_reducible refine Kd.C_alloc ?_ _) | (with_reducible refine Kd.C_drewN ?_ _) | (with_reducible refine Kd.C_drew ?_))); (case side2 => exact HC0.out); rintro e w64 ⟨rfl, hb⟩; refine ⟨_, rfl, ?_⟩; have n0_ := Aside0.mk (below_step (by repeat (first | (with_reducible first | exact HB.out | apply below_alloc | apply pw_below_drewN | apply below_drew1) | exact HB.out)) hb); clear HB; have HB := n0_; clear n0_; (try clear hb); (try clear hb2); (try clear hk); (try clear hi)) | ((with_reducible refine gate_callee (f := 36) rfl ?_); refine goesL_ (some 133) rfl rfl Try.func36 (by kernel_rfl) rfl #[.slice A0 l0.length c0] rfl (by (try simp only [List.map_toArray, List.map_cons, List.map_nil]); first | done | rfl | (simp only [List.length_drop, List.length_take]; rfl)) ?_; (with_reducible refine (spec_DrawCsOf.calls kj26 _ _ l0 t260 _ ?side1 ?side2 A46.out).mono ?_); (case side1 => repeat (first | exact (Kd.C_below HR0.out HB.out) | (with_reducible refine Kd.C_alloc ?_ _) | (with_reducible refine Kd.C_drewN ?_ _) | (with_reducible refine Kd.C_drew ?_))); (case side2 => exact HC0.out); rintro e w65 ⟨rfl, hb⟩; refine ⟨_, rfl, ?_⟩; have n0_ := Aside0.mk (below_step (by repeat (first | (with_reducible first | exact HB.out | apply below_alloc | apply pw_below_drewN | apply below_drew1) | exact HB.out)) hb); clear HB; have HB := n0_; clear n0_; (try clear hb); (try clear hb2); (try clear hk); (try clear hi)) | ((with_reducible refine gate_callee (f := 37) rfl ?_); refine goesL_ (some 135) rfl rfl Try.func37 (by kernel_rfl) rfl #[.int .i64 t259] rfl (by (try simp only [List.map_toArray, List.map_cons, List.map_nil]); first | done | rfl | (simp only [List.length_drop, List.length_take]; rfl)) ?_; (with_reducible refine (impl_CsName.calls t259 t261 _ A47.out).mono ?_); rintro e w66 ⟨rfl, hb⟩; refine ⟨_, rfl, ?_⟩; have n0_ := Aside0.mk (below_step (by repeat (first | (with_reducible first | exact HB.out | apply below_alloc | apply pw_below_drewN | apply below_drew1) | exact HB.out)) hb); clear HB; have HB := n0_; clear n0_; (try clear hb); (try clear hb2); (try clear hk); (try clear hi)) | ((with_reducible refine gate_callee (f := 38) rfl ?_); refine goesL_ (some 137) rfl rfl Try.func38 (by kernel_rfl) rfl #[.int .i64 t259] rfl (by (try simp only [List.map_toArray, List.map_cons, List.map_nil]); first | done | rfl | (simp only [List.length_drop, List.length_take]; rfl)) ?_; (with_reducible refine (spec_CsName.calls t259 t262 _ A48.out).mono ?_); rintro e w67 ⟨rfl, hb⟩; refine ⟨_, rfl, ?_⟩; have n0_ := Aside0.mk (below_step (by repeat (first | (with_reducible first | exact HB.out | apply below_alloc | apply pw_below_drewN | apply below_drew1) | exact HB.out)) hb); clear HB; have HB := n0_; clear n0_; (try clear hb); (try clear hb2); (try clear hk); (try clear hi)) | (go_at_call 39; (with_reducible refine (impl_CsOf.calls kj26 t260 t263 _ A50.out).mono ?_); rintro e w68 ⟨rfl, hb⟩; have n0_ := Aside0.mk (below_step (by repeat (first | (with_reducible first | exact HB.out | apply below_alloc | apply pw_below_drewN | apply below_drew1) | exact HB.out)) hb); clear HB; have HB := n0_; clear n0_; (try clear hb); (try clear hb2); (try clear hk); (try clear hi)) | (go_at_call 40; (with_reducible refine (spec_CsOf.calls kj26 t260 t264 _ A51.out).mono ?_); rintro e w69 ⟨rfl, hb⟩; have n0_ := Aside0.mk (below_step (by repeat (first | (with_reducible first | exact HB.out | apply below_alloc | apply pw_below_drewN | apply below_drew1) | exact HB.out)) hb); clear HB; have HB := n0_; clear n0_; (try clear hb); (try clear hb2); (try clear hk); (try clear hi)) | (go_at_call 37; (with_reducible refine (impl_CsName.calls t259 t265 _ A53.out).mono ?_); rintro e w70 ⟨rfl, hb⟩; have n0_ := Aside0.mk (below_step (by repeat (first | (with_reducible first | exact HB.out | apply below_alloc | apply pw_below_drewN | apply below_drew1) | exact HB.out)) hb); clear HB; have HB := n0_; clear n0_; (try clear hb); (try clear hb2); (try clear hk); (try clear hi)) | (go_at_call 37; (with_reducible refine (impl_CsName.calls t259 t265 _ A62.out).mono ?_); rintro e w71 ⟨rfl, hb⟩; have n0_ := Aside0.mk (below_step (by repeat (first | (with_reducible first | exact HB.out | apply below_alloc | apply pw_below_drewN | apply below_drew1) | exact HB.out)) hb); clear HB; have HB := n0_; clear n0_; (try clear hb); (try clear hb2); (try clear hk); (try clear hi)) | (go_at_call 39; (with_reducible refine (impl_CsOf.calls kj26 t265 t267 _ A63.out).mono ?_); rintro e w72 ⟨rfl, hb⟩; have n0_ := Aside0.mk (below_step (by repeat (first | (with_reducible first | exact HB.out | apply below_alloc | apply pw_below_drewN | apply below_drew1) | exact HB.out)) hb); clear HB; have HB := n0_; clear n0_; (try clear hb); (try clear hb2); (try clear hk); (try clear hi)))
                    go_ret
                    exact ⟨by first | rfl | (simp [errW_none, errW_some] <;> rfl) | (simp [*, errW_none, errW_some] <;> rfl), by repeat (first | (with_reducible first | exact HB.out | apply below_alloc | apply pw_below_drewN | apply below_drew1) | exact HB.out)⟩
                · rw [if_neg c52] at H
                  have c52b0 : (t263 == t264) = false := beq_eq_false_iff_ne.mpr c52
                  have c52b1 : (t263 != t264) = true := bne_iff_ne.mpr c52
                  obtain rfl := Option.some.inj H
                  go_wp2_with (first | ((with_reducible refine gate_callee (f := 35) rfl ?_); refine goesL_ (some 131) rfl rfl Try.func35 (by kernel_rfl) rfl #[.slice A0 l0.length c0] rfl (by (try simp only [List.map_toArray, List.map_cons, List.map_nil]); first | done | rfl | (simp only [List.length_drop, List.length_take]; rfl)) ?_; (with_reducible refine (spec_DrawCsName.calls kj26 _ _ l0 t259 _ ?side1 ?side2 A45.out).mono ?_); (case side1 => repeat (first | exact (Kd.C_below HR0.out HB.out) | (with_reducible refine Kd.C_alloc ?_ _) | (with_reducible refine Kd.C_drewN ?_ _) | (with_reducible refine Kd.C_drew ?_))); (case side2 => exact HC0.out); rintro e w73 ⟨rfl, hb⟩; refine ⟨_, rfl, ?_⟩; have n0_ := Aside0.mk (below_step (by repeat (first | (with_reducible first | exact HB.out | apply below_alloc | apply pw_below_drewN | apply below_drew1) | exact HB.out)) hb); clear HB; have HB := n0_; clear n0_; (try clear hb); (try clear hb2); (try clear hk); (try clear hi)) | ((with_reducible refine gate_callee (f := 36) rfl ?_); refine goesL_ (some 133) rfl rfl Try.func36 (by kernel_rfl) rfl #[.slice A0 l0.length c0] rfl (by (try simp only [List.map_toArray, List.map_cons, List.map_nil]); first | done | rfl | (simp only [List.length_drop, List.length_take]; rfl)) ?_; (with_reducible refine (spec_DrawCsOf.calls kj26 _ _ l0 t260 _ ?side1 ?side2 A46.out).mono ?_); (case side1 => repeat (first | exact (Kd.C_below HR0.out HB.out) | (with_reducible refine Kd.C_alloc ?_ _) | (with_reducible refine Kd.C_drewN ?_ _) | (with_reducible refine Kd.C_drew ?_))); (case side2 => exact HC0.out); rintro e w74 ⟨rfl, hb⟩; refine ⟨_, rfl, ?_⟩; have n0_ := Aside0.mk (below_step (by repeat (first | (with_reducible first | exact HB.out | apply below_alloc | apply pw_below_drewN | apply below_drew1) | exact HB.out)) hb); clear HB; have HB := n0_; clear n0_; (try clear hb); (try clear hb2); (try clear hk); (try clear hi)) | ((with_reducible refine gate_callee (f := 37) rfl ?_); refine goesL_ (some 135) rfl rfl Try.func37 (by kernel_rfl) rfl #[.int .i64 t259] rfl (by (try simp only [List.map_toArray, List.map_cons, List.map_nil]); first | done | rfl | (simp only [List.length_drop, List.length_take]; rfl)) ?_; (with_reducible refine (impl_CsName.calls t259 t261 _ A47.out).mono ?_); rintro e w75 ⟨rfl, hb⟩; refine ⟨_, rfl, ?_⟩; have n0_ := Aside0.mk (below_step (by repeat (first | (with_reducible first | exact HB.out | apply below_alloc | apply pw_below_drewN | apply below_drew1) | exact HB.out)) hb); clear HB; have HB := n0_; clear n0_; (try clear hb); (try clear hb2); (try clear hk); (try clear hi)) | ((with_reducible refine gate_callee (f := 38) rfl ?_); refine goesL_ (some 137) rfl rfl Try.func38 (by kernel_rfl) rfl #[.int .i64 t259] rfl (by (try simp only [List.map_toArray, List.map_cons, List.map_nil]); first | done | rfl | (simp only [List.length_drop, List.length_take]; rfl)) ?_; (with_reducible refine (spec_CsName.calls t259 t262 _ A48.out).mono ?_); rintro e w76 ⟨rfl, hb⟩; refine ⟨_, rfl, ?_⟩; have n0_ := Aside0.mk (below_step (by repeat (first | (with_reducible first | exact HB.out | apply below_alloc | apply pw_below_drewN | apply below_drew1) | exact HB.out)) hb); clear HB; have HB := n0_; clear n0_; (try clear hb); (try clear hb2); (try clear hk); (try clear hi)) | (go_at_call 39; (with_reducible refine (impl_CsOf.calls kj26 t260 t263 _ A50.out).mono ?_); rintro e w77 ⟨rfl, hb⟩; have n0_ := Aside0.mk (below_step (by repeat (first | (with_reducible first | exact HB.out | apply below_alloc | apply pw_below_drewN | apply below_drew1) | exact HB.out)) hb); clear HB; have HB := n0_; clear n0_; (try clear hb); (try clear hb2); (try clear hk); (try clear hi)) | (go_at_call 40; (with_reducible refine (spec_CsOf.calls kj26 t260 t264 _ A51.out).mono ?_); rintro e w78 ⟨rfl, hb⟩; have n0_ := Aside0.mk (below_step (by repeat (first | (with_reducible first | exact HB.out | apply below_alloc | apply pw_below_drewN | apply below_drew1) | exact HB.out)) hb); clear HB; have HB := n0_; clear n0_; (try clear hb); (try clear hb2); (try clear hk); (try clear hi)))
                  go_ret
                  exact ⟨by first | rfl | (simp [errW_none, errW_some] <;> rfl) | (simp [*, errW_none, errW_some] <;> rfl), by repeat (first | (with_reducible first | exact HB.out | apply below_alloc | apply pw_below_drewN | apply below_drew1) | exact HB.out)⟩
              · rw [if_neg c49] at H
                have c49b0 : (t261.toList == t262.toList) = false := beq_eq_false_iff_ne.mpr c49
                have c49b1 : (t261.toList != t262.toList) = true := bne_iff_ne.mpr c49
                obtain rfl := Option.some.inj H
                go_wp2_with (first | ((with_reducible refine gate_callee (f := 35) rfl ?_); refine goesL_ (some 131) rfl rfl Try.func35 (by kernel_rfl) rfl #[.slice A0 l0.length c0] rfl (by (try simp only [List.map_toArray, List.map_cons, List.map_nil]); first | done | rfl | (simp only [List.length_drop, List.length_take]; rfl)) ?_; (with_reducible refine (spec_DrawCsName.calls kj26 _ _ l0 t259 _ ?side1 ?side2 A45.out).mono ?_); (case side1 => repeat (first | exact (Kd.C_below HR0.out HB.out) | (with_reducible refine Kd.C_alloc ?_ _) | (with_reducible refine Kd.C_drewN ?_ _) | (with_reducible refine Kd.C_drew ?_))); (case side2 => exact HC0.out); rintro e w79 ⟨rfl, hb⟩; refine ⟨_, rfl, ?_⟩; have n0_ := Aside0.mk (below_step (by repeat (first | (with_reducible first | exact HB.out | apply below_alloc | apply pw_below_drewN | apply below_drew1) | exact HB.out)) hb); clear HB; have HB := n0_; clear n0_; (try clear hb); (try clear hb2); (try clear hk); (try clear hi)) | ((with_reducible refine gate_callee (f := 36) rfl ?_); refine goesL_ (some 133) rfl rfl Try.func36 (by kernel_rfl) rfl #[.slice A0 l0.length c0] rfl (by (try simp only [List.map_toArray, List.map_cons, List.map_nil]); first | done | rfl | (simp only [List.length_drop, List.length_take]; rfl)) ?_; (with_reducible refine (spec_DrawCsOf.calls kj26 _ _ l0 t260 _ ?side1 ?side2 A46.out).mono ?_); (case side1 => repeat (first | exact (Kd.C_below HR0.out HB.out) | (with_reducible refine Kd.C_alloc ?_ _) | (with_reducible refine Kd.C_drewN ?_ _) | (with_reducible refine Kd.C_drew ?_))); (case side2 => exact HC0.out); rintro e w80 ⟨rfl, hb⟩; refine ⟨_, rfl, ?_⟩; have n0_ := Aside0.mk (below_step (by repeat (first | (with_reducible first | exact HB.out | apply below_alloc | apply pw_below_drewN | apply below_drew1) | exact HB.out)) hb); clear HB; have HB := n0_; clear n0_; (try clear hb); (try clear hb2); (try clear hk); (try clear hi)) | ((with_reducible refine gate_callee (f := 37) rfl ?_); refine goesL_ (some 135) rfl rfl Try.func37 (by kernel_rfl) rfl #[.int .i64 t259] rfl (by (try simp only [List.map_toArray, List.map_cons, List.map_nil]); first | done | rfl | (simp only [List.length_drop, List.length_take]; rfl)) ?_; (with_reducible refine (impl_CsName.calls t259 t261 _ A47.out).mono ?_); rintro e w81 ⟨rfl, hb⟩; refine ⟨_, rfl, ?_⟩; have n0_ := Aside0.mk (below_step (by repeat (first | (with_reducible first | exact HB.out | apply below_alloc | apply pw_below_drewN | apply below_drew1) | exact HB.out)) hb); clear HB; have HB := n0_; clear n0_; (try clear hb); (try clear hb2); (try clear hk); (try clear hi)) | ((with_reducible refine gate_callee (f := 38) rfl ?_); refine goesL_ (some 137) rfl rfl Try.func38 (by kernel_rfl) rfl #[.int .i64 t259] rfl (by (try simp only [List.map_toArray, List.map_cons, List.map_nil]); first | done | rfl | (simp only [List.length_drop, List.length_take]; rfl)) ?_; (with_reducible refine (spec_CsName.calls t259 t262 _ A48.out).mono ?_); rintro e w82 ⟨rfl, hb⟩; refine ⟨_, rfl, ?_⟩; have n0_ := Aside0.mk (below_step (by repeat (first | (with_reducible first | exact HB.out | apply below_alloc | apply pw_below_drewN | apply below_drew1) | exact HB.out)) hb); clear HB; have HB := n0_; clear n0_; (try clear hb); (try clear hb2); (try clear hk); (try clear hi)))
                go_ret
                exact ⟨by first | rfl | (simp [errW_none, errW_some] <;> rfl) | (simp [*, errW_none, errW_some] <;> rfl), by repeat (first | (with_reducible first | exact HB.out | apply below_alloc | apply pw_below_drewN | apply below_drew1) | exact HB.out)⟩

/-- THE ONE PURE STATEMENT of laws_FnSets: yours. -/
def laws_FnSets.Pure : Prop := ∀ (l0 : List Int), l0.length ≤ maxLen → l0.length * 1 ≤ 140737488351232 → (∀ x ∈ l0, (Lit.int .u8 x).wf = true) → ∃ k, laws_FnSets.f k l0 = some true
theorem laws_FnSets.walk (P : laws_FnSets.Pure) (a0 : Option Addr) (len0 cap0 : Nat) (z0 : List Int) (w : World) (w0 : (a0 = none ∧ len0 = 0 ∧ cap0 = 0 ∧ z0 = []) ∨ ∃ x, a0 = some x ∧ len0 ≤ cap0 ∧ cap0 ≤ maxLen ∧ z0.length = cap0 ∧ (∀ i, i < z0.length → w.cell? (x.add i) = some (.int .u8 (z0.getD i 0))) ∧ ∀ n ∈ z0, (Lit.int .u8 n).wf = true) (y0 : len0 * 1 ≤ 140737488351232) :
    Calls Try.prog 7 #[.slice a0 len0 cap0] w fun e w' => e = .returned (.bool true) ∧ Below w.heap.size w w' := by
  obtain ⟨l0, rfl, hr0, hm0, hw0, hc0⟩ := ReadsInt.ofRowC w0
  obtain ⟨k, h⟩ := P l0 hm0 y0 hw0
  refine (laws_FnSets.calls k _ _ l0 true w (Kd.C_of_reads (d := (0 : Int)) (h1 := fun _ => rfl) hr0) hc0 h).mono ?_
  rintro e w' ⟨rfl, hd⟩
  exact ⟨rfl, hd⟩

end Go.Proofs.Ytnmncgbegiegfaa.QFnSets
