/- The functions that a law reaches, each as a plain function, and that Go comes to just its answer: written by the session's program pp.py (the kit's print, with a few rows turned). -/
import Derived.Test.YtpmimhbnmjffpaaDoorQFnDetectsx11
import Derived.Test.YtpmimhbnmjffpaaDoorXd
namespace Go.Proofs.YtpmimhbnmjffpaaDoor.QFnDetects
open Go.RowKit Go.Proofs.YtpmimhbnmjffpaaDoorW.PrintWords Go.Proofs.YtpmimhbnmjffpaaDoorW.PrintLast Go.Proofs.YtpmimhbnmjffpaaDoorW.PrintMore Go.Proofs.YtpmimhbnmjffpaaDoor.Xw Go.Proofs.YtpmimhbnmjffpaaDoor.Xs Go.Proofs.YtpmimhbnmjffpaaDoor.Ext
attribute [local go_sem] max2_int min2_int max_two min_two max_three min_three max_four min_four   -- for this text's walks alone
set_option linter.unusedVariables false
set_option linter.unusedSimpArgs false

/-! ### spec_DrawDetect: function 59 -/
def spec_DrawDetect.f (k : Nat) (l0 : List Int) : Option (List Int) := (spec_l1New.f k l0).bind fun bt522 => ((spec_l1Below.f bt522.1 bt522.2.1 bt522.2.2 6).bind fun bt526 => ((spec_l5Bytes.f k bt522.1 bt526.2.1 bt526.2.2 bt526.1).bind fun bt529 => ((spec_l1Once.f bt522.1 bt529.2.1 bt529.2.2 8).bind fun bt534 => (if bt534.1 = true then ((some (([239, 187, 191] : List Int) : List Int)).bind fun y537 => (if y537.length + bt529.1.length < 140737488355328 then (some (y537 ++ bt529.1)) else (none))) else (some bt529.1)))))
theorem spec_DrawDetect.mono : ∀ a0 k, LeO (spec_DrawDetect.f k a0) (spec_DrawDetect.f (k + 1) a0) := by
 intro a0 k
 unfold spec_DrawDetect.f
 repeat' first
   | (with_reducible exact spec_l1New.mono _ _)
   | (with_reducible exact spec_l5Bytes.mono _ _ _ _ _)
   | (with_reducible exact LeO.refl _)
   | (with_reducible exact LeO.none _)
   | (with_reducible refine LeO.ite ?_ ?_)
   | (with_reducible refine LeO.bind ?_ (fun _ => ?_))
   | exact spec_l1New.mono _ _
   | exact spec_l5Bytes.mono _ _ _ _ _
   | exact LeO.none _
   | refine LeO.ite ?_ ?_
   | refine LeO.bind ?_ (fun _ => ?_)
set_option maxHeartbeats 8000000 in
set_option maxRecDepth 100000 in
theorem spec_DrawDetect.calls (k : Nat) (A0 : Option Addr) (c0 : Nat) (l0 : List Int) (r : List Int) (w : World) (hr0 : Kd.C (Kd.int .u8) w A0 l0.length l0) (hc0 : l0.length ≤ c0) (h : spec_DrawDetect.f k l0 = some r) :
  Calls Tryd.prog 59 #[.slice A0 l0.length c0] w fun e w' => ∃ v0_ : Value, e = .returned (v0_) ∧ Kd.V (Kd.int .u8) 5 w' w.heap.size (fun k_ => (w.heap.size ≤ k_)) v0_ r ∧ Below w.heap.size w w' := by
 have HR0 := Aside0.mk hr0
 have HC0 := Aside0.mk hc0
 clear hr0 hc0
 have HB := Aside0.mk (Below.refl w.heap.size w)
 have H : ((spec_l1New.f k l0).bind fun bt522 => ((spec_l1Below.f bt522.1 bt522.2.1 bt522.2.2 6).bind fun bt526 => ((spec_l5Bytes.f k bt522.1 bt526.2.1 bt526.2.2 bt526.1).bind fun bt529 => ((spec_l1Once.f bt522.1 bt529.2.1 bt529.2.2 8).bind fun bt534 => (if bt534.1 = true then ((some (([239, 187, 191] : List Int) : List Int)).bind fun y537 => (if y537.length + bt529.1.length < 140737488355328 then (some (y537 ++ bt529.1)) else (none))) else (some bt529.1)))))) = some r := h
 clear h
 replace H := Option.bind_eq_some_iff.mp H
 obtain ⟨⟨t522, t523, t524⟩, A20, H⟩ := H
 try dsimp only at H
 have A2 := Aside0.mk A20
 clear A20
 replace H := Option.bind_eq_some_iff.mp H
 obtain ⟨⟨t526, t527, t528⟩, A30, H⟩ := H
 try dsimp only at H
 have A3 := Aside0.mk A30
 clear A30
 replace H := Option.bind_eq_some_iff.mp H
 obtain ⟨⟨t529, t532, t533⟩, A40, H⟩ := H
 try dsimp only at H
 have A4 := Aside0.mk A40
 clear A40
 replace H := Option.bind_eq_some_iff.mp H
 obtain ⟨⟨t534, t535, t536⟩, A50, H⟩ := H
 try dsimp only at H
 have A5 := Aside0.mk A50
 clear A50
 by_cases c6 : t534 = true
 ·subst c6
  rw [if_pos rfl] at H
  obtain ⟨y537, hy537⟩ : ∃ y_ : List Int, y_ = (([239, 187, 191] : List Int)) := ⟨_, rfl⟩
  replace H : (if y537.length + t529.length < 140737488355328 then (some (y537 ++ t529)) else (none)) = some r := by first | (rw [hy537]; with_reducible exact H) | (have H2_ := (Option.bind_some _ _).symm.trans H; rw [hy537]; with_reducible exact H2_) | (have H2_ := (Option.bind_some _ _).symm.trans H; with_reducible exact H2_) | with_reducible exact H | (rw [hy537]; exact H) | exact H
  have Ny537 := Aside0.mk hy537
  clear hy537
  by_cases c7 : y537.length + t529.length < 140737488355328
  ·rw [if_pos c7] at H
   have LMc7 := Aside0.mk c7
   clear c7
   obtain ⟨y540, hy540⟩ : ∃ y_ : List Int, y_ = (y537 ++ t529) := ⟨_, rfl⟩
   replace H : (some y540) = some r := by first | (rw [hy540]; with_reducible exact H) | (have H2_ := (Option.bind_some _ _).symm.trans H; rw [hy540]; with_reducible exact H2_) | (have H2_ := (Option.bind_some _ _).symm.trans H; with_reducible exact H2_) | with_reducible exact H | (rw [hy540]; exact H) | exact H
   have Ny540 := Aside0.mk hy540
   clear hy540
   obtain rfl := Option.some.inj H
   go_enter Tryd.func59, Tryd.ntmps59
   go_wp2_with (first | ((with_reducible refine gate_callee (f := 85) rfl ?_); refine goesL_ (some 6) rfl rfl Tryd.func85 (by kernel_rfl) rfl #[.slice A0 l0.length c0] rfl ka_ ?_; (with_reducible refine (spec_l1New.calls k _ _ l0 t522 t523 t524 w _ ?side1 ?side2 ?side3 A2.out).mono ?_); (case side1 => exact hb_); (case side2 => exact HR0.out); (case side3 => exact HC0.out); rintro e w8 ⟨g525, rfl, hi, hb, hb2⟩; refine ⟨_, rfl, ?_⟩; have n0_ := Aside0.mk (hb); have n1_ := Aside0.mk (hi); clear HB; have HB := n0_; have HI525 := n1_; clear n0_ n1_; try clear hb) | ((with_reducible refine gate_callee (f := 90) rfl ?_); refine goesL_ (some 9) rfl rfl Tryd.func90 (by kernel_rfl) rfl #[.pointer (some ⟨g525, 0, none⟩), .int .i64 6] rfl ka_ ?_; (with_reducible refine (spec_l1Below.calls g525 t522 t523 t524 6 t526 t527 t528 w _ ?side1 ?side2 A3.out).mono ?_); (case side1 => repeat (first | (with_reducible first | exact HI525.out | apply IsS100.alloc | apply IsS100.drewN | apply IsS100.drew | apply IsS100.set_1 | apply IsS100.set_2) | exact HI525.out)); (case side2 => repeat (first | (with_reducible first | exact HB.out | apply below_alloc | apply pw_below_drewN | apply below_drew1 | refine below_set ?_ (IsS100.ge HI525.out)) | exact HB.out)); rintro e w9 ⟨rfl, hi, hb, hk⟩; refine ⟨_, rfl, ?_⟩; have n0_ := Aside0.mk (hb); have n1_ := Aside0.mk (hi); clear HB; clear HI525; have HB := n0_; have HI525 := n1_; clear n0_ n1_; try clear hb) | ((with_reducible refine gate_callee (f := 87) rfl ?_); refine goesL_ (some 10) rfl rfl Tryd.func87 (by kernel_rfl) rfl #[.pointer (some ⟨g525, 0, none⟩), .int .i64 t526] rfl ka_ ?_; (with_reducible refine (spec_l5Bytes.calls k g525 t522 t527 t528 t526 t529 t532 t533 w _ ?side1 ?side2 A4.out).mono ?_); (case side1 => repeat (first | (with_reducible first | exact HI525.out | apply IsS100.alloc | apply IsS100.drewN | apply IsS100.drew | apply IsS100.set_1 | apply IsS100.set_2) | exact HI525.out)); (case side2 => repeat (first | (with_reducible first | exact HB.out | apply below_alloc | apply pw_below_drewN | apply below_drew1 | refine below_set ?_ (IsS100.ge HI525.out)) | exact HB.out)); rintro e w10 ⟨v530, rfl, ho0, hi, hb, hk⟩; refine ⟨_, rfl, ?_⟩; have n0_ := Aside0.mk (Kd.R_lower ho0 (below_size (by repeat (first | (with_reducible first | exact HB.out | apply below_alloc | apply pw_below_drewN | apply below_drew1 | refine below_set ?_ (IsS100.ge HI525.out)) | exact HB.out)))); have n1_ := Aside0.mk (hb); have n2_ := Aside0.mk (hi); clear HB; clear HI525; have HO531 := n0_; have HB := n1_; have HI525 := n2_; clear n0_ n1_ n2_; try clear hb; (try clear ho0)) | ((with_reducible refine gate_callee (f := 93) rfl ?_); refine goesL_ (some 12) rfl rfl Tryd.func93 (by kernel_rfl) rfl #[.pointer (some ⟨g525, 0, none⟩), .int .i64 8] rfl ka_ ?_; (with_reducible refine (spec_l1Once.calls g525 t522 t532 t533 8 true t535 t536 w _ ?side1 ?side2 A5.out).mono ?_); (case side1 => repeat (first | (with_reducible first | exact HI525.out | apply IsS100.alloc | apply IsS100.drewN | apply IsS100.drew | apply IsS100.set_1 | apply IsS100.set_2) | exact HI525.out)); (case side2 => repeat (first | (with_reducible first | exact HB.out | apply below_alloc | apply pw_below_drewN | apply below_drew1 | refine below_set ?_ (IsS100.ge HI525.out)) | exact HB.out)); rintro e w11 ⟨rfl, hi, hb, hk⟩; refine ⟨_, rfl, ?_⟩; have n0_ := Aside0.mk (Kd.R_mono (Kd.R_keep (IsS100.apart (show IsS100 w _ g525 t522 t532 t533 from by repeat (first | (with_reducible first | exact HI525.out | apply IsS100.alloc | apply IsS100.drewN | apply IsS100.drew | apply IsS100.set_1 | apply IsS100.set_2) | exact HI525.out)) (kr_ HO531) (by decide)) hk (fun _ h => h.2)) (fun _ h => h.1)); have n1_ := Aside0.mk (hb); have n2_ := Aside0.mk (hi); clear HO531; clear HB; clear HI525; have HO531 := n0_; have HB := n1_; have HI525 := n2_; clear n0_ n1_ n2_; try clear hb) | ((with_reducible refine gate_dst (N := 14) rfl ?_); refine Kd.conv_new (.tmp 13) 23 5 [239, 187, 191] 3 _ ?hcs rfl rfl Tryd.underlying23 Tryd.underlying5 ?hx (by decide) (by decide) ?_; (case hcs => rfl); (case hx => rfl); intro w12 hb hv_; have n0_ := Aside0.mk (Kd.R_below (kr_ HO531) hb); have n1_ := Aside0.mk (Kd.V_mono hv_ (fun k_ hk_ => Nat.le_trans (below_size (by repeat (first | (with_reducible first | exact HB.out | apply below_alloc | apply pw_below_drewN | apply below_drew1 | refine below_set ?_ (IsS100.ge HI525.out)) | exact HB.out))) hk_)); have n3_ := Aside0.mk (below_step (by repeat (first | (with_reducible first | exact HB.out | apply below_alloc | apply pw_below_drewN | apply below_drew1 | refine below_set ?_ (IsS100.ge HI525.out)) | exact HB.out)) hb); clear HO531; clear HB; have HO531 := n0_; have HV_ := n1_; have HB := n3_; clear n0_ n1_ n3_; clear hb hv_; obtain ⟨Ao15, co15, eo15⟩ := Kd.R_slice HO531.out; subst eo15) | ((with_reducible refine gate_builtin (b := .append) (xs := #[.tmp 14, .tmp 15]) rfl ?_); at_builtin; refine Kd.app_full (w0 := w) (.tmp 14) (.tmp 15) 23 5 _ 3 t529.length co15 _ [239, 187, 191] t529 0 (fun k_ => w.heap.size ≤ k_) rfl rfl Tryd.underlying23 info5 rfl rfl ?aV ?ak ?aR ?aB ?aL ?_; (case aV => exact HV_.out); (case ak => exact fun _ hk => hk); (case aR => exact kc_ (Kd.R_reads' HO531.out).2.2); (case aB => exact (by repeat (first | (with_reducible first | exact HB.out | apply below_alloc | apply pw_below_drewN | apply below_drew1 | refine below_set ?_ (IsS100.ge HI525.out)) | exact HB.out))); (case aL => have h_ := LMc7.out; rw [Ny537.out] at h_; exact Nat.le_of_lt h_); intro v541 w14 ho hb; clear HB; have HB := Aside0.mk hb; rw [← Ny537.out, ← Ny540.out] at ho; have HO542 := Aside0.mk ho; clear ho hb))
   go_ret
   exact ⟨_, by first | rfl | (simp [errW_none, errW_some] <;> rfl) | (simp [*, errW_none, errW_some] <;> rfl), HO542.out, by repeat (first | (with_reducible first | exact HB.out | apply below_alloc | apply pw_below_drewN | apply below_drew1 | refine below_set ?_ (IsS100.ge HI525.out)) | exact HB.out)⟩
  ·rw [if_neg c7] at H
   exact absurd H (by simp)
 ·replace c6 := Bool.eq_false_iff.mpr c6
  subst c6
  rw [if_neg (show ¬ (false = true) by decide)] at H
  obtain rfl := Option.some.inj H
  go_enter Tryd.func59, Tryd.ntmps59
  go_wp2_with (first | ((with_reducible refine gate_callee (f := 85) rfl ?_); refine goesL_ (some 6) rfl rfl Tryd.func85 (by kernel_rfl) rfl #[.slice A0 l0.length c0] rfl ka_ ?_; (with_reducible refine (spec_l1New.calls k _ _ l0 t522 t523 t524 w _ ?side1 ?side2 ?side3 A2.out).mono ?_); (case side1 => exact hb_); (case side2 => exact HR0.out); (case side3 => exact HC0.out); rintro e w16 ⟨g525, rfl, hi, hb, hb2⟩; refine ⟨_, rfl, ?_⟩; have n0_ := Aside0.mk (hb); have n1_ := Aside0.mk (hi); clear HB; have HB := n0_; have HI525 := n1_; clear n0_ n1_; try clear hb) | ((with_reducible refine gate_callee (f := 90) rfl ?_); refine goesL_ (some 9) rfl rfl Tryd.func90 (by kernel_rfl) rfl #[.pointer (some ⟨g525, 0, none⟩), .int .i64 6] rfl ka_ ?_; (with_reducible refine (spec_l1Below.calls g525 t522 t523 t524 6 t526 t527 t528 w _ ?side1 ?side2 A3.out).mono ?_); (case side1 => repeat (first | (with_reducible first | exact HI525.out | apply IsS100.alloc | apply IsS100.drewN | apply IsS100.drew | apply IsS100.set_1 | apply IsS100.set_2) | exact HI525.out)); (case side2 => repeat (first | (with_reducible first | exact HB.out | apply below_alloc | apply pw_below_drewN | apply below_drew1 | refine below_set ?_ (IsS100.ge HI525.out)) | exact HB.out)); rintro e w17 ⟨rfl, hi, hb, hk⟩; refine ⟨_, rfl, ?_⟩; have n0_ := Aside0.mk (hb); have n1_ := Aside0.mk (hi); clear HB; clear HI525; have HB := n0_; have HI525 := n1_; clear n0_ n1_; try clear hb) | ((with_reducible refine gate_callee (f := 87) rfl ?_); refine goesL_ (some 10) rfl rfl Tryd.func87 (by kernel_rfl) rfl #[.pointer (some ⟨g525, 0, none⟩), .int .i64 t526] rfl ka_ ?_; (with_reducible refine (spec_l5Bytes.calls k g525 t522 t527 t528 t526 t529 t532 t533 w _ ?side1 ?side2 A4.out).mono ?_); (case side1 => repeat (first | (with_reducible first | exact HI525.out | apply IsS100.alloc | apply IsS100.drewN | apply IsS100.drew | apply IsS100.set_1 | apply IsS100.set_2) | exact HI525.out)); (case side2 => repeat (first | (with_reducible first | exact HB.out | apply below_alloc | apply pw_below_drewN | apply below_drew1 | refine below_set ?_ (IsS100.ge HI525.out)) | exact HB.out)); rintro e w18 ⟨v530, rfl, ho0, hi, hb, hk⟩; refine ⟨_, rfl, ?_⟩; have n0_ := Aside0.mk (Kd.R_lower ho0 (below_size (by repeat (first | (with_reducible first | exact HB.out | apply below_alloc | apply pw_below_drewN | apply below_drew1 | refine below_set ?_ (IsS100.ge HI525.out)) | exact HB.out)))); have n1_ := Aside0.mk (hb); have n2_ := Aside0.mk (hi); clear HB; clear HI525; have HO531 := n0_; have HB := n1_; have HI525 := n2_; clear n0_ n1_ n2_; try clear hb; (try clear ho0)) | ((with_reducible refine gate_callee (f := 93) rfl ?_); refine goesL_ (some 12) rfl rfl Tryd.func93 (by kernel_rfl) rfl #[.pointer (some ⟨g525, 0, none⟩), .int .i64 8] rfl ka_ ?_; (with_reducible refine (spec_l1Once.calls g525 t522 t532 t533 8 false t535 t536 w _ ?side1 ?side2 A5.out).mono ?_); (case side1 => repeat (first | (with_reducible first | exact HI525.out | apply IsS100.alloc | apply IsS100.drewN | apply IsS100.drew | apply IsS100.set_1 | apply IsS100.set_2) | exact HI525.out)); (case side2 => repeat (first | (with_reducible first | exact HB.out | apply below_alloc | apply pw_below_drewN | apply below_drew1 | refine below_set ?_ (IsS100.ge HI525.out)) | exact HB.out)); rintro e w19 ⟨rfl, hi, hb, hk⟩; refine ⟨_, rfl, ?_⟩; have n0_ := Aside0.mk (Kd.R_mono (Kd.R_keep (IsS100.apart (show IsS100 w _ g525 t522 t532 t533 from by repeat (first | (with_reducible first | exact HI525.out | apply IsS100.alloc | apply IsS100.drewN | apply IsS100.drew | apply IsS100.set_1 | apply IsS100.set_2) | exact HI525.out)) (kr_ HO531) (by decide)) hk (fun _ h => h.2)) (fun _ h => h.1)); have n1_ := Aside0.mk (hb); have n2_ := Aside0.mk (hi); clear HO531; clear HB; clear HI525; have HO531 := n0_; have HB := n1_; have HI525 := n2_; clear n0_ n1_ n2_; try clear hb))
  go_ret
  exact ⟨_, by first | rfl | (simp [errW_none, errW_some] <;> rfl) | (simp [*, errW_none, errW_some] <;> rfl), Kd.R_V (Kd.R_mono (Kd.R_bound (kr_ HO531)) (fun _ hk => hk.2.1)), by repeat (first | (with_reducible first | exact HB.out | apply below_alloc | apply pw_below_drewN | apply below_drew1 | refine below_set ?_ (IsS100.ge HI525.out)) | exact HB.out)⟩
/-! ### laws_FnDetects: function 13 -/
mutual
def laws_FnDetects.j0 : Nat → List Int → Int → Bool → Bool → Option (Bool)
 | 0, _, _, _, _ => none
 | k + 1, x3, x4, x5, x80 => if x80 = true then (some false) else (if x5 = true then (if x4 = 0 then (some true) else ((impl_Score.f k x4 x3).bind fun bt578 => (laws_FnDetects.l1 k x3 x4 bt578.1 bt578.2 1))) else (laws_FnDetects.l0 k x3 x4 0))
def laws_FnDetects.l1 : Nat → List Int → Int → Int → Bool → Int → Option (Bool)
 | 0, _, _, _, _, _ => none
 | k + 1, x3, x4, x18, x19, x20 => if x20 < 6 then ((impl_Score.f k x20 x3).bind fun bt580 => (if bt580.2 = true then (if bt580.1 > x18 then (some false) else (if bt580.1 = x18 then (if x20 < x4 then (some false) else (laws_FnDetects.l1 k x3 x4 x18 x19 (wrap64 (x20 + 1)))) else (laws_FnDetects.l1 k x3 x4 x18 x19 (wrap64 (x20 + 1))))) else (laws_FnDetects.l1 k x3 x4 x18 x19 (wrap64 (x20 + 1))))) else (some x19)
def laws_FnDetects.l0 : Nat → List Int → Int → Int → Option (Bool)
 | 0, _, _, _ => none
 | k + 1, x3, x4, x15 => if x15 < 6 then ((impl_Decode.f k x15 x3).bind fun bt576 => (if bt576.2 = true then (some false) else (laws_FnDetects.l0 k x3 x4 (wrap64 (x15 + 1))))) else (some (x4 == 0))
end
def laws_FnDetects.f (k : Nat) (l0 : List Int) : Option (Bool) := (laws_big.f l0).bind fun t557 => (if t557 = true then (some true) else ((spec_DrawDetect.f k l0).bind fun t558 => ((impl_Detect.f k t558).bind fun bt561 => ((spec_Detect.f k t558).bind fun bt563 => ((spec_DrawWeight.f k l0).bind fun t565 => ((spec_DrawScore.f k l0).bind fun bt566 => ((impl_Score.f k bt566.1 bt566.2).bind fun bt570 => ((spec_Score.f k bt566.1 bt566.2).bind fun bt572 => (if (bt561.2 != bt563.2) = true then (laws_FnDetects.j0 k t558 bt561.1 bt561.2 true) else (if bt561.1 = bt563.1 then ((impl_Weight.f k t565).bind fun t574 => ((spec_Weight.f k t565).bind fun t575 => (if t574 = t575 then (if bt570.1 = bt572.1 then (laws_FnDetects.j0 k t558 bt561.1 bt561.2 (bt570.2 != bt572.2)) else (laws_FnDetects.j0 k t558 bt561.1 bt561.2 true)) else (laws_FnDetects.j0 k t558 bt561.1 bt561.2 true)))) else (laws_FnDetects.j0 k t558 bt561.1 bt561.2 true)))))))))))
theorem laws_FnDetects.mono_l : ∀ k, (∀ y0 y1 y2 y3, LeO (laws_FnDetects.j0 k y0 y1 y2 y3) (laws_FnDetects.j0 (k + 1) y0 y1 y2 y3)) ∧ (∀ y0 y1 y2 y3 y4, LeO (laws_FnDetects.l1 k y0 y1 y2 y3 y4) (laws_FnDetects.l1 (k + 1) y0 y1 y2 y3 y4)) ∧ (∀ y0 y1 y2, LeO (laws_FnDetects.l0 k y0 y1 y2) (laws_FnDetects.l0 (k + 1) y0 y1 y2))
 | 0 => ⟨fun _ _ _ _ r h => by simp [laws_FnDetects.j0] at h, fun _ _ _ _ _ r h => by simp [laws_FnDetects.l1] at h, fun _ _ _ r h => by simp [laws_FnDetects.l0] at h⟩
 | k + 1 => by
  obtain ⟨ih0, ih1, ih2⟩ := laws_FnDetects.mono_l k
  refine ⟨?_, ?_, ?_⟩
  ·intro y0 y1 y2 y3
   unfold laws_FnDetects.j0
   repeat' first
   | (with_reducible exact ih0 _ _ _ _)
   | (with_reducible exact ih1 _ _ _ _ _)
   | (with_reducible exact ih2 _ _ _)
   | (with_reducible exact impl_Decode.mono _ _ _)
   | (with_reducible exact impl_Detect.mono _ _)
   | (with_reducible exact impl_Score.mono _ _ _)
   | (with_reducible exact impl_Weight.mono _ _)
   | (with_reducible exact spec_Detect.mono _ _)
   | (with_reducible exact spec_DrawScore.mono _ _)
   | (with_reducible exact spec_DrawWeight.mono _ _)
   | (with_reducible exact spec_Score.mono _ _ _)
   | (with_reducible exact spec_Weight.mono _ _)
   | (with_reducible exact LeO.refl _)
   | (with_reducible exact LeO.none _)
   | (with_reducible refine LeO.ite ?_ ?_)
   | (with_reducible refine LeO.bind ?_ (fun _ => ?_))
   | exact ih0 _ _ _ _
   | exact ih1 _ _ _ _ _
   | exact ih2 _ _ _
   | exact impl_Decode.mono _ _ _
   | exact impl_Detect.mono _ _
   | exact impl_Score.mono _ _ _
   | exact impl_Weight.mono _ _
   | exact spec_Detect.mono _ _
   | exact spec_DrawScore.mono _ _
   | exact spec_DrawWeight.mono _ _
   | exact spec_Score.mono _ _ _
   | exact spec_Weight.mono _ _
   | exact spec_DrawDetect.mono _ _
   | exact LeO.none _
   | refine LeO.ite ?_ ?_
   | refine LeO.bind ?_ (fun _ => ?_)
  ·intro y0 y1 y2 y3 y4
   unfold laws_FnDetects.l1
   repeat' first
   | (with_reducible exact ih0 _ _ _ _)
   | (with_reducible exact ih1 _ _ _ _ _)
   | (with_reducible exact ih2 _ _ _)
   | (with_reducible exact impl_Decode.mono _ _ _)
   | (with_reducible exact impl_Detect.mono _ _)
   | (with_reducible exact impl_Score.mono _ _ _)
   | (with_reducible exact impl_Weight.mono _ _)
   | (with_reducible exact spec_Detect.mono _ _)
   | (with_reducible exact spec_DrawScore.mono _ _)
   | (with_reducible exact spec_DrawWeight.mono _ _)
   | (with_reducible exact spec_Score.mono _ _ _)
   | (with_reducible exact spec_Weight.mono _ _)
   | (with_reducible exact LeO.refl _)
   | (with_reducible exact LeO.none _)
   | (with_reducible refine LeO.ite ?_ ?_)
   | (with_reducible refine LeO.bind ?_ (fun _ => ?_))
   | exact ih0 _ _ _ _
   | exact ih1 _ _ _ _ _
   | exact ih2 _ _ _
   | exact impl_Decode.mono _ _ _
   | exact impl_Detect.mono _ _
   | exact impl_Score.mono _ _ _
   | exact impl_Weight.mono _ _
   | exact spec_Detect.mono _ _
   | exact spec_DrawScore.mono _ _
   | exact spec_DrawWeight.mono _ _
   | exact spec_Score.mono _ _ _
   | exact spec_Weight.mono _ _
   | exact spec_DrawDetect.mono _ _
   | exact LeO.none _
   | refine LeO.ite ?_ ?_
   | refine LeO.bind ?_ (fun _ => ?_)
  ·intro y0 y1 y2
   unfold laws_FnDetects.l0
   repeat' first
   | (with_reducible exact ih0 _ _ _ _)
   | (with_reducible exact ih1 _ _ _ _ _)
   | (with_reducible exact ih2 _ _ _)
   | (with_reducible exact impl_Decode.mono _ _ _)
   | (with_reducible exact impl_Detect.mono _ _)
   | (with_reducible exact impl_Score.mono _ _ _)
   | (with_reducible exact impl_Weight.mono _ _)
   | (with_reducible exact spec_Detect.mono _ _)
   | (with_reducible exact spec_DrawScore.mono _ _)
   | (with_reducible exact spec_DrawWeight.mono _ _)
   | (with_reducible exact spec_Score.mono _ _ _)
   | (with_reducible exact spec_Weight.mono _ _)
   | (with_reducible exact LeO.refl _)
   | (with_reducible exact LeO.none _)
   | (with_reducible refine LeO.ite ?_ ?_)
   | (with_reducible refine LeO.bind ?_ (fun _ => ?_))
   | exact ih0 _ _ _ _
   | exact ih1 _ _ _ _ _
   | exact ih2 _ _ _
   | exact impl_Decode.mono _ _ _
   | exact impl_Detect.mono _ _
   | exact impl_Score.mono _ _ _
   | exact impl_Weight.mono _ _
   | exact spec_Detect.mono _ _
   | exact spec_DrawScore.mono _ _
   | exact spec_DrawWeight.mono _ _
   | exact spec_Score.mono _ _ _
   | exact spec_Weight.mono _ _
   | exact spec_DrawDetect.mono _ _
   | exact LeO.none _
   | refine LeO.ite ?_ ?_
   | refine LeO.bind ?_ (fun _ => ?_)
theorem laws_FnDetects.mono : ∀ a0 k, LeO (laws_FnDetects.f k a0) (laws_FnDetects.f (k + 1) a0) := by
 intro a0 k
 obtain ⟨ih0, ih1, ih2⟩ := laws_FnDetects.mono_l k
 unfold laws_FnDetects.f
 repeat' first
   | (with_reducible exact ih0 _ _ _ _)
   | (with_reducible exact ih1 _ _ _ _ _)
   | (with_reducible exact ih2 _ _ _)
   | (with_reducible exact impl_Decode.mono _ _ _)
   | (with_reducible exact impl_Detect.mono _ _)
   | (with_reducible exact impl_Score.mono _ _ _)
   | (with_reducible exact impl_Weight.mono _ _)
   | (with_reducible exact spec_Detect.mono _ _)
   | (with_reducible exact spec_DrawScore.mono _ _)
   | (with_reducible exact spec_DrawWeight.mono _ _)
   | (with_reducible exact spec_Score.mono _ _ _)
   | (with_reducible exact spec_Weight.mono _ _)
   | (with_reducible exact LeO.refl _)
   | (with_reducible exact LeO.none _)
   | (with_reducible refine LeO.ite ?_ ?_)
   | (with_reducible refine LeO.bind ?_ (fun _ => ?_))
   | exact ih0 _ _ _ _
   | exact ih1 _ _ _ _ _
   | exact ih2 _ _ _
   | exact impl_Decode.mono _ _ _
   | exact impl_Detect.mono _ _
   | exact impl_Score.mono _ _ _
   | exact impl_Weight.mono _ _
   | exact spec_Detect.mono _ _
   | exact spec_DrawScore.mono _ _
   | exact spec_DrawWeight.mono _ _
   | exact spec_Score.mono _ _ _
   | exact spec_Weight.mono _ _
   | exact spec_DrawDetect.mono _ _
   | exact LeO.none _
   | refine LeO.ite ?_ ?_
   | refine LeO.bind ?_ (fun _ => ?_)
set_option maxHeartbeats 8000000 in
set_option maxRecDepth 100000 in
theorem laws_FnDetects.calls (k : Nat) (A0 : Option Addr) (c0 : Nat) (l0 : List Int) (r : Bool) (w : World) (hT : TabsOk w) (hr0 : Kd.C (Kd.int .u8) w A0 l0.length l0) (hc0 : l0.length ≤ c0) (h : laws_FnDetects.f k l0 = some r) (hr_ : r = true) :
  Calls Tryd.prog 13 #[.slice A0 l0.length c0] w fun e w' => e = .returned (.bool r) ∧ Below w.heap.size w w' := by
 have HT := Aside0.mk hT
 clear hT
 have HR0 := Aside0.mk hr0
 have HC0 := Aside0.mk hc0
 clear hr0 hc0
 have HB := Aside0.mk (Below.refl w.heap.size w)
 have H : ((laws_big.f l0).bind fun t557 => (if t557 = true then (some true) else ((spec_DrawDetect.f k l0).bind fun t558 => ((impl_Detect.f k t558).bind fun bt561 => ((spec_Detect.f k t558).bind fun bt563 => ((spec_DrawWeight.f k l0).bind fun t565 => ((spec_DrawScore.f k l0).bind fun bt566 => ((impl_Score.f k bt566.1 bt566.2).bind fun bt570 => ((spec_Score.f k bt566.1 bt566.2).bind fun bt572 => (if (bt561.2 != bt563.2) = true then (laws_FnDetects.j0 k t558 bt561.1 bt561.2 true) else (if bt561.1 = bt563.1 then ((impl_Weight.f k t565).bind fun t574 => ((spec_Weight.f k t565).bind fun t575 => (if t574 = t575 then (if bt570.1 = bt572.1 then (laws_FnDetects.j0 k t558 bt561.1 bt561.2 (bt570.2 != bt572.2)) else (laws_FnDetects.j0 k t558 bt561.1 bt561.2 true)) else (laws_FnDetects.j0 k t558 bt561.1 bt561.2 true)))) else (laws_FnDetects.j0 k t558 bt561.1 bt561.2 true)))))))))))) = some r := h
 clear h
 replace H := Option.bind_eq_some_iff.mp H
 obtain ⟨t557, A20, H⟩ := H
 try dsimp only at H
 have A2 := Aside0.mk A20
 clear A20
 by_cases c3 : t557 = true
 ·subst c3
  rw [if_pos rfl] at H
  obtain rfl := Option.some.inj H
  clear hr_
  go_enter Tryd.func13, Tryd.ntmps13
  go_wp2_with (first | ((with_reducible refine gate_callee (f := 42) rfl ?_); refine goesL_ (some 24) rfl rfl Tryd.func42 (by kernel_rfl) rfl #[.slice A0 l0.length c0] rfl ka_ ?_; (with_reducible refine (laws_big.calls _ _ l0 true _ ?side1 ?side2 A2.out).mono ?_); (case side1 => repeat (first | exact HR0.out | (with_reducible refine Kd.C_alloc ?_ _) | (with_reducible refine Kd.C_drewN ?_ _) | (with_reducible refine Kd.C_drew ?_))); (case side2 => exact HC0.out); rintro e w' ⟨rfl, ⟨nd, rfl⟩⟩; refine ⟨_, rfl, ?_⟩))
  go_ret
  exact ⟨rf_, hb_⟩
 ·replace c3 := Bool.eq_false_iff.mpr c3
  subst c3
  rw [if_neg (show ¬ (false = true) by decide)] at H
  replace H := Option.bind_eq_some_iff.mp H
  obtain ⟨t558, A40, H⟩ := H
  try dsimp only at H
  have A4 := Aside0.mk A40
  clear A40
  replace H := Option.bind_eq_some_iff.mp H
  obtain ⟨⟨t561, t562⟩, A50, H⟩ := H
  try dsimp only at H
  have A5 := Aside0.mk A50
  clear A50
  replace H := Option.bind_eq_some_iff.mp H
  obtain ⟨⟨t563, t564⟩, A60, H⟩ := H
  try dsimp only at H
  have A6 := Aside0.mk A60
  clear A60
  replace H := Option.bind_eq_some_iff.mp H
  obtain ⟨t565, A70, H⟩ := H
  try dsimp only at H
  have A7 := Aside0.mk A70
  clear A70
  replace H := Option.bind_eq_some_iff.mp H
  obtain ⟨⟨t566, t567⟩, A80, H⟩ := H
  try dsimp only at H
  have A8 := Aside0.mk A80
  clear A80
  replace H := Option.bind_eq_some_iff.mp H
  obtain ⟨⟨t570, t571⟩, A90, H⟩ := H
  try dsimp only at H
  have A9 := Aside0.mk A90
  clear A90
  replace H := Option.bind_eq_some_iff.mp H
  obtain ⟨⟨t572, t573⟩, A100, H⟩ := H
  try dsimp only at H
  have A10 := Aside0.mk A100
  clear A100
  have HC11 := Aside0.mk H
  clear H
  go_enter Tryd.func13, Tryd.ntmps13
  go_upto_region 10 with (first | ((with_reducible refine gate_callee (f := 42) rfl ?_); refine goesL_ (some 24) rfl rfl Tryd.func42 (by kernel_rfl) rfl #[.slice A0 l0.length c0] rfl ka_ ?_; (with_reducible refine (laws_big.calls _ _ l0 false _ ?side1 ?side2 A2.out).mono ?_); (case side1 => repeat (first | exact HR0.out | (with_reducible refine Kd.C_alloc ?_ _) | (with_reducible refine Kd.C_drewN ?_ _) | (with_reducible refine Kd.C_drew ?_))); (case side2 => exact HC0.out); rintro e w' ⟨rfl, ⟨nd, rfl⟩⟩; refine ⟨_, rfl, ?_⟩) | ((with_reducible refine gate_callee (f := 59) rfl ?_); refine goesL_ (some 26) rfl rfl Tryd.func59 (by kernel_rfl) rfl #[.slice A0 l0.length c0] rfl ka_ ?_; (with_reducible refine (spec_DrawDetect.calls k _ _ l0 t558 _ ?side1 ?side2 A4.out).mono ?_); (case side1 => repeat (first | exact HR0.out | (with_reducible refine Kd.C_alloc ?_ _) | (with_reducible refine Kd.C_drewN ?_ _) | (with_reducible refine Kd.C_drew ?_))); (case side2 => exact HC0.out); rintro e w12 ⟨v559, rfl, ho0, hb⟩; refine ⟨_, rfl, ?_⟩; have n0_ := Aside0.mk (Kd.V_lower (Kd.V_mono (ok' := fun k_ => True) ho0 (fun k_ hk_ => trivial)) (below_size hb_)); have n1_ := Aside0.mk (below_step hb_ hb); clear HB; have HO560 := n0_; have HB := n1_; clear n0_ n1_; try clear hb; (try clear ho0); obtain ⟨Ao13, co13, eo13⟩ := Kd.V_slice HO560.out; subst eo13) | ((with_reducible refine gate_callee (f := 41) rfl ?_); refine goesL_ (some 29) rfl rfl Tryd.func41 (by kernel_rfl) rfl #[.slice Ao13 t558.length co13] rfl ka_ ?_; (with_reducible refine (impl_Detect.calls (hT := ?sideT) k _ _ t558 t561 t562 _ ?side1 ?side2 A5.out).mono ?_); (case sideT => first | exact HT.out | exact HT.out.below hb_ | exact HT.out.drawn (by repeat (first | exact Drawn0.refl _ | apply Drawn0.step | assumption))); (case side1 => repeat (first | exact (Kd.V_reads' HO560.out).2.2 | (with_reducible refine Kd.C_alloc ?_ _) | (with_reducible refine Kd.C_drewN ?_ _) | (with_reducible refine Kd.C_drew ?_))); (case side2 => exact (Kd.V_reads' HO560.out).2.1); rintro e w14 ⟨rfl, hb⟩; refine ⟨_, rfl, ?_⟩; have n0_ := Aside0.mk (Kd.V_below (by (with_reducible repeat (first | apply Kd.V_alloc | apply Kd.V_drewN | apply Kd.V_drew)); exact HO560.out) hb); have n1_ := Aside0.mk (below_step hb_ hb); clear HO560; clear HB; have HO560 := n0_; have HB := n1_; clear n0_ n1_; try clear hb) | ((with_reducible refine gate_callee (f := 40) rfl ?_); refine goesL_ (some 34) rfl rfl Tryd.func40 (by kernel_rfl) rfl #[.slice Ao13 t558.length co13] rfl ka_ ?_; (with_reducible refine (spec_Detect.calls k _ _ t558 t563 t564 _ ?side1 ?side2 A6.out).mono ?_); (case side1 => repeat (first | exact (Kd.V_reads' HO560.out).2.2 | (with_reducible refine Kd.C_alloc ?_ _) | (with_reducible refine Kd.C_drewN ?_ _) | (with_reducible refine Kd.C_drew ?_))); (case side2 => exact (Kd.V_reads' HO560.out).2.1); rintro e w15 ⟨rfl, hb⟩; refine ⟨_, rfl, ?_⟩; have n0_ := Aside0.mk (Kd.V_below (by (with_reducible repeat (first | apply Kd.V_alloc | apply Kd.V_drewN | apply Kd.V_drew)); exact HO560.out) hb); have n1_ := Aside0.mk (below_step hb_ hb); clear HO560; clear HB; have HO560 := n0_; have HB := n1_; clear n0_ n1_; try clear hb) | ((with_reducible refine gate_callee (f := 60) rfl ?_); refine goesL_ (some 38) rfl rfl Tryd.func60 (by kernel_rfl) rfl #[.slice A0 l0.length c0] rfl ka_ ?_; (with_reducible refine (spec_DrawWeight.calls k _ _ l0 t565 _ ?side1 ?side2 A7.out).mono ?_); (case side1 => repeat (first | exact (Kd.C_below HR0.out HB.out) | (with_reducible refine Kd.C_alloc ?_ _) | (with_reducible refine Kd.C_drewN ?_ _) | (with_reducible refine Kd.C_drew ?_))); (case side2 => exact HC0.out); rintro e w16 ⟨rfl, hb⟩; refine ⟨_, rfl, ?_⟩; have n0_ := Aside0.mk (Kd.V_below (by (with_reducible repeat (first | apply Kd.V_alloc | apply Kd.V_drewN | apply Kd.V_drew)); exact HO560.out) hb); have n1_ := Aside0.mk (below_step hb_ hb); clear HO560; clear HB; have HO560 := n0_; have HB := n1_; clear n0_ n1_; try clear hb) | ((with_reducible refine gate_callee (f := 61) rfl ?_); refine goesL_ (some 41) rfl rfl Tryd.func61 (by kernel_rfl) rfl #[.slice A0 l0.length c0] rfl ka_ ?_; (with_reducible refine (spec_DrawScore.calls k _ _ l0 t566 t567 _ ?side1 ?side2 A8.out).mono ?_); (case side1 => repeat (first | exact (Kd.C_below HR0.out HB.out) | (with_reducible refine Kd.C_alloc ?_ _) | (with_reducible refine Kd.C_drewN ?_ _) | (with_reducible refine Kd.C_drew ?_))); (case side2 => exact HC0.out); rintro e w17 ⟨v568, rfl, ho0, hb⟩; refine ⟨_, rfl, ?_⟩; have n0_ := Aside0.mk (Kd.V_elder' (by (with_reducible repeat (first | apply Kd.V_alloc | apply Kd.V_drewN | apply Kd.V_drew)); exact HO560.out) (Kd.R_base ho0) hb); have n1_ := Aside0.mk (Kd.R_lower ho0 (below_size hb_)); have n2_ := Aside0.mk (below_step hb_ hb); clear HO560; clear HB; have HO560 := n0_; have HO569 := n1_; have HB := n2_; clear n0_ n1_ n2_; try clear hb; (try clear ho0); obtain ⟨Ao18, co18, eo18⟩ := Kd.R_slice HO569.out; subst eo18) | ((with_reducible refine gate_callee (f := 32) rfl ?_); refine goesL_ (some 47) rfl rfl Tryd.func32 (by kernel_rfl) rfl #[.int .i64 t566, .slice Ao18 t567.length co18] rfl ka_ ?_; (with_reducible refine (impl_Score.calls (hT := ?sideT) k t566 _ _ t567 t570 t571 _ ?side1 ?side2 A9.out).mono ?_); (case sideT => first | exact HT.out | exact HT.out.below hb_ | exact HT.out.drawn (by repeat (first | exact Drawn0.refl _ | apply Drawn0.step | assumption))); (case side1 => exact kc_ (Kd.R_reads' HO569.out).2.2); (case side2 => exact (Kd.R_reads' HO569.out).2.1); rintro e w19 ⟨rfl, hb⟩; refine ⟨_, rfl, ?_⟩; have n0_ := Aside0.mk (Kd.V_below (by (with_reducible repeat (first | apply Kd.V_alloc | apply Kd.V_drewN | apply Kd.V_drew)); exact HO560.out) hb); have n1_ := Aside0.mk (Kd.R_below (kr_ HO569) hb); have n2_ := Aside0.mk (below_step hb_ hb); clear HO560; clear HO569; clear HB; have HO560 := n0_; have HO569 := n1_; have HB := n2_; clear n0_ n1_ n2_; try clear hb) | ((with_reducible refine gate_callee (f := 30) rfl ?_); refine goesL_ (some 53) rfl rfl Tryd.func30 (by kernel_rfl) rfl #[.int .i64 t566, .slice Ao18 t567.length co18] rfl ka_ ?_; (with_reducible refine (spec_Score.calls k t566 _ _ t567 t572 t573 _ ?side1 ?side2 A10.out).mono ?_); (case side1 => exact kc_ (Kd.R_reads' HO569.out).2.2); (case side2 => exact (Kd.R_reads' HO569.out).2.1); rintro e w20 ⟨rfl, hb⟩; refine ⟨_, rfl, ?_⟩; have n0_ := Aside0.mk (Kd.V_below (by (with_reducible repeat (first | apply Kd.V_alloc | apply Kd.V_drewN | apply Kd.V_drew)); exact HO560.out) hb); have n1_ := Aside0.mk (Kd.R_below (kr_ HO569) hb); have n2_ := Aside0.mk (below_step hb_ hb); clear HO560; clear HO569; clear HB; have HO560 := n0_; have HO569 := n1_; have HB := n2_; clear n0_ n1_ n2_; try clear hb))
  (try simp only [Act.put, List.setIfInBounds_toArray, List.set_cons_zero, List.set_cons_succ])
  go_cut [80] (fun v80 wc => ∃ (kq : Nat) (x80_10 : Bool), v80 = .bool x80_10 ∧ Aside0 (laws_FnDetects.j0 kq t558 t561 t562 x80_10 = some r) ∧ Aside0 (kq ≤ k) ∧ Aside0 (Kd.V (Kd.int .u8) 5 wc w.heap.size (fun _ => True) (.slice Ao13 t558.length co13) t558) ∧ Aside0 (Below w.heap.size w wc))
  case first =>
   have H := HC11.out
   clear HC11
   by_cases c21 : (t562 != t564) = true
   ·rw [if_pos c21] at H
    have c21b0 : (t562 != t564) = true := c21
    (try (have c21b1 : decide (t562 = t564) = false := by simpa using c21))
    (try (have c21b2 : (t562 == t564) = false := by simpa using c21))
    (try (have c21b3 : ¬ (t562 = t564) := by simpa using c21))
    clear c21
    (first | rw [c21b0] | (simp only [i64_w, i32_w]; rw [c21b0]) | skip)
    have H' := Aside0.mk H
    clear H
    go_wp2
    go_meet
    case rel => exact ⟨_, (true), (by first | rfl | (simp; done) | (simp [*]; done)), H', ⟨by first | omega | exact Nat.le_refl _⟩, ⟨by (with_reducible repeat (first | apply Kd.V_alloc | apply Kd.V_drewN | apply Kd.V_drew)); exact Kd.V_mono HO560.out (fun _ hk => trivial)⟩, ⟨by repeat (first | (with_reducible first | exact HB.out | apply below_alloc | apply pw_below_drewN | apply below_drew1) | exact HB.out)⟩⟩
   ·rw [if_neg c21] at H
    have c21b0 : (t562 != t564) = false := by simpa using c21
    (try (have c21b1 : decide (t562 = t564) = true := by simpa using c21))
    (try (have c21b2 : (t562 == t564) = true := by simpa using c21))
    clear c21
    (first | rw [c21b0] | (simp only [i64_w, i32_w]; rw [c21b0]) | skip)
    by_cases c22 : t561 = t563
    ·rw [if_pos c22] at H
     have c22b0 : (t561 == t563) = true := beq_iff_eq.mpr c22
     have c22b1 : (t561 != t563) = false := bne_eq_false_iff_eq.mpr c22
     clear c22
     replace H := Option.bind_eq_some_iff.mp H
     obtain ⟨t574, A230, H⟩ := H
     try dsimp only at H
     have A23 := Aside0.mk A230
     clear A230
     replace H := Option.bind_eq_some_iff.mp H
     obtain ⟨t575, A240, H⟩ := H
     try dsimp only at H
     have A24 := Aside0.mk A240
     clear A240
     by_cases c25 : t574 = t575
     ·rw [if_pos c25] at H
      have c25b0 : (t574 == t575) = true := beq_iff_eq.mpr c25
      have c25b1 : (t574 != t575) = false := bne_eq_false_iff_eq.mpr c25
      clear c25
      by_cases c26 : t570 = t572
      ·rw [if_pos c26] at H
       have c26b0 : (t570 == t572) = true := beq_iff_eq.mpr c26
       have c26b1 : (t570 != t572) = false := bne_eq_false_iff_eq.mpr c26
       clear c26
       have H' := Aside0.mk H
       clear H
       go_wp2_with (first | (go_at_call 62; (with_reducible refine (impl_Weight.calls k t565 t574 _ A23.out).mono ?_); rintro e w' ⟨rfl, ⟨nd, rfl⟩⟩) | (go_at_call 63; (with_reducible refine (spec_Weight.calls k t565 t575 _ A24.out).mono ?_); rintro e w' ⟨rfl, ⟨nd, rfl⟩⟩))
       go_meet
       case rel => exact ⟨_, ((t571 != t573)), (by first | rfl | (simp; done) | (simp [*]; done)), H', ⟨by first | omega | exact Nat.le_refl _⟩, ⟨by (with_reducible repeat (first | apply Kd.V_alloc | apply Kd.V_drewN | apply Kd.V_drew)); exact Kd.V_mono HO560.out (fun _ hk => trivial)⟩, ⟨by repeat (first | (with_reducible first | exact HB.out | apply below_alloc | apply pw_below_drewN | apply below_drew1) | exact HB.out)⟩⟩
      ·rw [if_neg c26] at H
       have c26b0 : (t570 == t572) = false := beq_eq_false_iff_ne.mpr c26
       have c26b1 : (t570 != t572) = true := bne_iff_ne.mpr c26
       have H' := Aside0.mk H
       clear H
       go_wp2_with (first | (go_at_call 62; (with_reducible refine (impl_Weight.calls k t565 t574 _ A23.out).mono ?_); rintro e w' ⟨rfl, ⟨nd, rfl⟩⟩) | (go_at_call 63; (with_reducible refine (spec_Weight.calls k t565 t575 _ A24.out).mono ?_); rintro e w' ⟨rfl, ⟨nd, rfl⟩⟩))
       go_meet
       case rel => exact ⟨_, (true), (by first | rfl | (simp; done) | (simp [*]; done)), H', ⟨by first | omega | exact Nat.le_refl _⟩, ⟨by (with_reducible repeat (first | apply Kd.V_alloc | apply Kd.V_drewN | apply Kd.V_drew)); exact Kd.V_mono HO560.out (fun _ hk => trivial)⟩, ⟨by repeat (first | (with_reducible first | exact HB.out | apply below_alloc | apply pw_below_drewN | apply below_drew1) | exact HB.out)⟩⟩
     ·rw [if_neg c25] at H
      have c25b0 : (t574 == t575) = false := beq_eq_false_iff_ne.mpr c25
      have c25b1 : (t574 != t575) = true := bne_iff_ne.mpr c25
      have H' := Aside0.mk H
      clear H
      go_wp2_with (first | (go_at_call 62; (with_reducible refine (impl_Weight.calls k t565 t574 _ A23.out).mono ?_); rintro e w' ⟨rfl, ⟨nd, rfl⟩⟩) | (go_at_call 63; (with_reducible refine (spec_Weight.calls k t565 t575 _ A24.out).mono ?_); rintro e w' ⟨rfl, ⟨nd, rfl⟩⟩))
      go_meet
      case rel => exact ⟨_, (true), (by first | rfl | (simp; done) | (simp [*]; done)), H', ⟨by first | omega | exact Nat.le_refl _⟩, ⟨by (with_reducible repeat (first | apply Kd.V_alloc | apply Kd.V_drewN | apply Kd.V_drew)); exact Kd.V_mono HO560.out (fun _ hk => trivial)⟩, ⟨by repeat (first | (with_reducible first | exact HB.out | apply below_alloc | apply pw_below_drewN | apply below_drew1) | exact HB.out)⟩⟩
    ·rw [if_neg c22] at H
     have c22b0 : (t561 == t563) = false := beq_eq_false_iff_ne.mpr c22
     have c22b1 : (t561 != t563) = true := bne_iff_ne.mpr c22
     have H' := Aside0.mk H
     clear H
     go_wp2
     go_meet
     case rel => exact ⟨_, (true), (by first | rfl | (simp; done) | (simp [*]; done)), H', ⟨by first | omega | exact Nat.le_refl _⟩, ⟨by (with_reducible repeat (first | apply Kd.V_alloc | apply Kd.V_drewN | apply Kd.V_drew)); exact Kd.V_mono HO560.out (fun _ hk => trivial)⟩, ⟨by repeat (first | (with_reducible first | exact HB.out | apply below_alloc | apply pw_below_drewN | apply below_drew1) | exact HB.out)⟩⟩
  case rest =>
   clear HC11
   try clear c1
   try clear c2
   try clear p2
   try clear c3
   try clear c4
   try clear c5
   try clear c6
   try clear c13
   try clear c21
   try clear c21b0
   try clear c21b1
   try clear c21b2
   try clear c22
   try clear c22b0
   try clear c22b1
   try clear c25
   try clear c25b0
   try clear c25b1
   try clear c26
   try clear c26b0
   try clear c26b1
   obtain ⟨kq, x80_10, rfl, HA, HJ10, HO_3, HB⟩ := hcut
   cases kq with
   | zero => exact absurd HA.out (by simp [laws_FnDetects.j0])
   | succ kj10 =>
    have H := HA.out
    clear HA
    simp only [laws_FnDetects.j0] at H
    by_cases c27 : x80_10 = true
    ·subst c27
     rw [if_pos rfl] at H
     obtain rfl := Option.some.inj H
     cases hr_
    ·replace c27 := Bool.eq_false_iff.mpr c27
     subst c27
     rw [if_neg (show ¬ (false = true) by decide)] at H
     by_cases c28 : t562 = true
     ·subst c28
      rw [if_pos rfl] at H
      by_cases c29 : t561 = 0
      ·rw [if_pos c29] at H
       have c29b0 : (t561 == 0) = true := beq_iff_eq.mpr c29
       have c29b1 : (t561 != 0) = false := bne_eq_false_iff_eq.mpr c29
       clear c29
       obtain rfl := Option.some.inj H
       clear hr_
       go_wp2
       go_ret
       exact ⟨rf_, hb_⟩
      ·rw [if_neg c29] at H
       have c29b0 : (t561 == 0) = false := beq_eq_false_iff_ne.mpr c29
       have c29b1 : (t561 != 0) = true := bne_iff_ne.mpr c29
       replace H := Option.bind_eq_some_iff.mp H
       obtain ⟨⟨t578, t579⟩, A300, H⟩ := H
       try dsimp only at H
       have A30 := Aside0.mk A300
       clear A300
       have H' := Aside0.mk H
       clear H
       go_wp2_with (first | ((with_reducible refine gate_callee (f := 32) rfl ?_); refine goesL_ (some 101) rfl rfl Tryd.func32 (by kernel_rfl) rfl #[.int .i64 t561, .slice Ao13 t558.length co13] rfl ka_ ?_; (with_reducible refine (impl_Score.calls (hT := ?sideT) kj10 t561 _ _ t558 t578 t579 _ ?side1 ?side2 A30.out).mono ?_); (case sideT => first | exact HT.out | exact HT.out.below hb_ | exact HT.out.drawn (by repeat (first | exact Drawn0.refl _ | apply Drawn0.step | assumption))); (case side1 => repeat (first | exact (Kd.V_reads' HO_3.out).2.2 | (with_reducible refine Kd.C_alloc ?_ _) | (with_reducible refine Kd.C_drewN ?_ _) | (with_reducible refine Kd.C_drew ?_))); (case side2 => exact (Kd.V_reads' HO_3.out).2.1); rintro e w31 ⟨rfl, hb⟩; refine ⟨_, rfl, ?_⟩; have n0_ := Aside0.mk (Kd.V_below (by (with_reducible repeat (first | apply Kd.V_alloc | apply Kd.V_drewN | apply Kd.V_drew)); exact HO_3.out) hb); have n1_ := Aside0.mk (below_step hb_ hb); clear HO_3; clear HB; have HO_3 := n0_; have HB := n1_; clear n0_ n1_; try clear hb))
       go_loopg [20] kj10 (fun kq v20 w' => ∃ (x20_2 : Int), v20 = .int .i64 x20_2 ∧ Aside0 (laws_FnDetects.l1 kq t558 t561 t578 t579 x20_2 = some r) ∧ Aside0 (kq ≤ kj10) ∧ Aside0 (Kd.V (Kd.int .u8) 5 w' w.heap.size (fun _ => True) (.slice Ao13 t558.length co13) t558) ∧ Aside0 (Below w.heap.size w w'))
       case atStart => exact ⟨(1), (by first | rfl | (simp; done) | (simp [*]; done)), H', ⟨Nat.le_refl _⟩, ⟨by (with_reducible repeat (first | apply Kd.V_alloc | apply Kd.V_drewN | apply Kd.V_drew)); exact HO_3.out⟩, ⟨by repeat (first | (with_reducible first | exact HB.out | apply below_alloc | apply pw_below_drewN | apply below_drew1) | exact HB.out)⟩⟩
       case round =>
        clear H'
        try clear c1
        try clear c2
        try clear p2
        try clear c3
        try clear c4
        try clear c5
        try clear c6
        try clear c13
        try clear c21
        try clear c21b0
        try clear c21b1
        try clear c21b2
        try clear c22
        try clear c22b0
        try clear c22b1
        try clear c25
        try clear c25b0
        try clear c25b1
        try clear c26
        try clear c26b0
        try clear c26b1
        try clear c27
        try clear c28
        try clear c29
        try clear c29b0
        try clear c29b1
        try clear c30
        try clear p2
        obtain ⟨x20_2, rfl, HA, HK2, HO_3, HB⟩ := hrel
        cases gk with
        | zero => exact absurd HA.out (by simp [laws_FnDetects.l1])
        | succ k2 =>
         have H := HA.out
         clear HA
         simp only [laws_FnDetects.l1] at H
         by_cases c32 : x20_2 < 6
         ·rw [if_pos c32] at H
          have c32b0 : decide (x20_2 < 6) = true := decide_eq_true c32
          clear c32
          replace H := Option.bind_eq_some_iff.mp H
          obtain ⟨⟨t580, t581⟩, A330, H⟩ := H
          try dsimp only at H
          have A33 := Aside0.mk A330
          clear A330
          by_cases c34 : t581 = true
          ·subst c34
           rw [if_pos rfl] at H
           by_cases c35 : t580 > t578
           ·rw [if_pos c35] at H
            have c35b0 : decide (t578 < t580) = true := decide_eq_true c35
            clear c35
            obtain rfl := Option.some.inj H
            cases hr_
           ·rw [if_neg c35] at H
            have c35b0 : decide (t578 < t580) = false := decide_eq_false c35
            clear c35
            by_cases c37 : t580 = t578
            ·rw [if_pos c37] at H
             have c37b0 : (t580 == t578) = true := beq_iff_eq.mpr c37
             have c37b1 : (t580 != t578) = false := bne_eq_false_iff_eq.mpr c37
             clear c37
             by_cases c38 : x20_2 < t561
             ·rw [if_pos c38] at H
              have c38b0 : decide (x20_2 < t561) = true := decide_eq_true c38
              clear c38
              obtain rfl := Option.some.inj H
              cases hr_
             ·rw [if_neg c38] at H
              have c38b0 : decide (x20_2 < t561) = false := decide_eq_false c38
              clear c38
              have H' := Aside0.mk H
              clear H
              go_wp2_with (first | ((with_reducible refine gate_callee (f := 32) rfl ?_); refine goesL_ (some 111) rfl rfl Tryd.func32 (by kernel_rfl) rfl #[.int .i64 x20_2, .slice Ao13 t558.length co13] rfl ka_ ?_; (with_reducible refine (impl_Score.calls (hT := ?sideT) k2 x20_2 _ _ t558 t580 true _ ?side1 ?side2 A33.out).mono ?_); (case sideT => first | exact HT.out | exact HT.out.below hb_ | exact HT.out.drawn (by repeat (first | exact Drawn0.refl _ | apply Drawn0.step | assumption))); (case side1 => repeat (first | exact (Kd.V_reads' HO_3.out).2.2 | (with_reducible refine Kd.C_alloc ?_ _) | (with_reducible refine Kd.C_drewN ?_ _) | (with_reducible refine Kd.C_drew ?_))); (case side2 => exact (Kd.V_reads' HO_3.out).2.1); rintro e w40 ⟨rfl, hb⟩; refine ⟨_, rfl, ?_⟩; have n0_ := Aside0.mk (Kd.V_below (by (with_reducible repeat (first | apply Kd.V_alloc | apply Kd.V_drewN | apply Kd.V_drew)); exact HO_3.out) hb); have n1_ := Aside0.mk (below_step hb_ hb); clear HO_3; clear HB; have HO_3 := n0_; have HB := n1_; clear n0_ n1_; try clear hb))
              go_roundg k2
              case measure => have := HJ10.out; have := HK2.out; omega
              case rel => exact ⟨(wrap64 (x20_2 + 1)), (by first | rfl | (simp; done) | (simp [*]; done)), H', ⟨by have := HJ10.out; have := HK2.out; omega⟩, ⟨by (with_reducible repeat (first | apply Kd.V_alloc | apply Kd.V_drewN | apply Kd.V_drew)); exact HO_3.out⟩, ⟨by repeat (first | (with_reducible first | exact HB.out | apply below_alloc | apply pw_below_drewN | apply below_drew1) | exact HB.out)⟩⟩
            ·rw [if_neg c37] at H
             have c37b0 : (t580 == t578) = false := beq_eq_false_iff_ne.mpr c37
             have c37b1 : (t580 != t578) = true := bne_iff_ne.mpr c37
             have H' := Aside0.mk H
             clear H
             go_wp2_with (first | ((with_reducible refine gate_callee (f := 32) rfl ?_); refine goesL_ (some 111) rfl rfl Tryd.func32 (by kernel_rfl) rfl #[.int .i64 x20_2, .slice Ao13 t558.length co13] rfl ka_ ?_; (with_reducible refine (impl_Score.calls (hT := ?sideT) k2 x20_2 _ _ t558 t580 true _ ?side1 ?side2 A33.out).mono ?_); (case sideT => first | exact HT.out | exact HT.out.below hb_ | exact HT.out.drawn (by repeat (first | exact Drawn0.refl _ | apply Drawn0.step | assumption))); (case side1 => repeat (first | exact (Kd.V_reads' HO_3.out).2.2 | (with_reducible refine Kd.C_alloc ?_ _) | (with_reducible refine Kd.C_drewN ?_ _) | (with_reducible refine Kd.C_drew ?_))); (case side2 => exact (Kd.V_reads' HO_3.out).2.1); rintro e w41 ⟨rfl, hb⟩; refine ⟨_, rfl, ?_⟩; have n0_ := Aside0.mk (Kd.V_below (by (with_reducible repeat (first | apply Kd.V_alloc | apply Kd.V_drewN | apply Kd.V_drew)); exact HO_3.out) hb); have n1_ := Aside0.mk (below_step hb_ hb); clear HO_3; clear HB; have HO_3 := n0_; have HB := n1_; clear n0_ n1_; try clear hb))
             go_roundg k2
             case measure => have := HJ10.out; have := HK2.out; omega
             case rel => exact ⟨(wrap64 (x20_2 + 1)), (by first | rfl | (simp; done) | (simp [*]; done)), H', ⟨by have := HJ10.out; have := HK2.out; omega⟩, ⟨by (with_reducible repeat (first | apply Kd.V_alloc | apply Kd.V_drewN | apply Kd.V_drew)); exact HO_3.out⟩, ⟨by repeat (first | (with_reducible first | exact HB.out | apply below_alloc | apply pw_below_drewN | apply below_drew1) | exact HB.out)⟩⟩
          ·replace c34 := Bool.eq_false_iff.mpr c34
           subst c34
           rw [if_neg (show ¬ (false = true) by decide)] at H
           have H' := Aside0.mk H
           clear H
           go_wp2_with (first | ((with_reducible refine gate_callee (f := 32) rfl ?_); refine goesL_ (some 111) rfl rfl Tryd.func32 (by kernel_rfl) rfl #[.int .i64 x20_2, .slice Ao13 t558.length co13] rfl ka_ ?_; (with_reducible refine (impl_Score.calls (hT := ?sideT) k2 x20_2 _ _ t558 t580 false _ ?side1 ?side2 A33.out).mono ?_); (case sideT => first | exact HT.out | exact HT.out.below hb_ | exact HT.out.drawn (by repeat (first | exact Drawn0.refl _ | apply Drawn0.step | assumption))); (case side1 => repeat (first | exact (Kd.V_reads' HO_3.out).2.2 | (with_reducible refine Kd.C_alloc ?_ _) | (with_reducible refine Kd.C_drewN ?_ _) | (with_reducible refine Kd.C_drew ?_))); (case side2 => exact (Kd.V_reads' HO_3.out).2.1); rintro e w42 ⟨rfl, hb⟩; refine ⟨_, rfl, ?_⟩; have n0_ := Aside0.mk (Kd.V_below (by (with_reducible repeat (first | apply Kd.V_alloc | apply Kd.V_drewN | apply Kd.V_drew)); exact HO_3.out) hb); have n1_ := Aside0.mk (below_step hb_ hb); clear HO_3; clear HB; have HO_3 := n0_; have HB := n1_; clear n0_ n1_; try clear hb))
           go_roundg k2
           case measure => have := HJ10.out; have := HK2.out; omega
           case rel => exact ⟨(wrap64 (x20_2 + 1)), (by first | rfl | (simp; done) | (simp [*]; done)), H', ⟨by have := HJ10.out; have := HK2.out; omega⟩, ⟨by (with_reducible repeat (first | apply Kd.V_alloc | apply Kd.V_drewN | apply Kd.V_drew)); exact HO_3.out⟩, ⟨by repeat (first | (with_reducible first | exact HB.out | apply below_alloc | apply pw_below_drewN | apply below_drew1) | exact HB.out)⟩⟩
         ·rw [if_neg c32] at H
          have c32b0 : decide (x20_2 < 6) = false := decide_eq_false c32
          clear c32
          obtain rfl := Option.some.inj H
          clear hr_
          go_wp2
          go_ret
          exact ⟨rf_, hb_⟩
     ·replace c28 := Bool.eq_false_iff.mpr c28
      subst c28
      rw [if_neg (show ¬ (false = true) by decide)] at H
      have H' := Aside0.mk H
      clear H
      go_wp2
      go_loopg [15] kj10 (fun kq v15 w' => ∃ (x15_2 : Int), v15 = .int .i64 x15_2 ∧ Aside0 (laws_FnDetects.l0 kq t558 t561 x15_2 = some r) ∧ Aside0 (kq ≤ kj10) ∧ Aside0 (Kd.V (Kd.int .u8) 5 w' w.heap.size (fun _ => True) (.slice Ao13 t558.length co13) t558) ∧ Aside0 (Below w.heap.size w w'))
      case atStart => exact ⟨(0), (by first | rfl | (simp; done) | (simp [*]; done)), H', ⟨Nat.le_refl _⟩, ⟨by (with_reducible repeat (first | apply Kd.V_alloc | apply Kd.V_drewN | apply Kd.V_drew)); exact HO_3.out⟩, ⟨by repeat (first | (with_reducible first | exact HB.out | apply below_alloc | apply pw_below_drewN | apply below_drew1) | exact HB.out)⟩⟩
      case round =>
       clear H'
       try clear c1
       try clear c2
       try clear p2
       try clear c3
       try clear c4
       try clear c5
       try clear c6
       try clear p6
       try clear c13
       try clear c21
       try clear c21b0
       try clear c21b1
       try clear c21b2
       try clear c22
       try clear c22b0
       try clear c22b1
       try clear c25
       try clear c25b0
       try clear c25b1
       try clear c26
       try clear c26b0
       try clear c26b1
       try clear c27
       try clear c28
       try clear c29
       try clear c29b0
       try clear c29b1
       try clear c30
       try clear c32
       try clear c32b0
       try clear c34
       try clear c35
       try clear c35b0
       try clear c37
       try clear c37b0
       try clear c37b1
       try clear c38
       try clear c38b0
       try clear c40
       try clear c41
       try clear c42
       try clear p2
       obtain ⟨x15_2, rfl, HA, HK2, HO_3, HB⟩ := hrel
       cases gk with
       | zero => exact absurd HA.out (by simp [laws_FnDetects.l0])
       | succ k2 =>
        have H := HA.out
        clear HA
        simp only [laws_FnDetects.l0] at H
        by_cases c43 : x15_2 < 6
        ·rw [if_pos c43] at H
         have c43b0 : decide (x15_2 < 6) = true := decide_eq_true c43
         clear c43
         replace H := Option.bind_eq_some_iff.mp H
         obtain ⟨⟨t576, t577⟩, A440, H⟩ := H
         try dsimp only at H
         have A44 := Aside0.mk A440
         clear A440
         by_cases c45 : t577 = true
         ·subst c45
          rw [if_pos rfl] at H
          obtain rfl := Option.some.inj H
          cases hr_
         ·replace c45 := Bool.eq_false_iff.mpr c45
          subst c45
          rw [if_neg (show ¬ (false = true) by decide)] at H
          have H' := Aside0.mk H
          clear H
          go_wp2_with (first | ((with_reducible refine gate_callee (f := 44) rfl ?_); refine goesL_ (some 90) rfl rfl Tryd.func44 (by kernel_rfl) rfl #[.int .i64 x15_2, .slice Ao13 t558.length co13] rfl ka_ ?_; (with_reducible refine (impl_Decode.calls (hT := ?sideT) k2 x15_2 _ _ t558 t576 false _ ?side1 ?side2 A44.out).mono ?_); (case sideT => first | exact HT.out | exact HT.out.below hb_ | exact HT.out.drawn (by repeat (first | exact Drawn0.refl _ | apply Drawn0.step | assumption))); (case side1 => repeat (first | exact (Kd.V_reads' HO_3.out).2.2 | (with_reducible refine Kd.C_alloc ?_ _) | (with_reducible refine Kd.C_drewN ?_ _) | (with_reducible refine Kd.C_drew ?_))); (case side2 => exact (Kd.V_reads' HO_3.out).2.1); rintro e w47 ⟨rfl, hb⟩; refine ⟨_, rfl, ?_⟩; have n0_ := Aside0.mk (Kd.V_below (by (with_reducible repeat (first | apply Kd.V_alloc | apply Kd.V_drewN | apply Kd.V_drew)); exact HO_3.out) hb); have n1_ := Aside0.mk (below_step hb_ hb); clear HO_3; clear HB; have HO_3 := n0_; have HB := n1_; clear n0_ n1_; try clear hb))
          go_roundg k2
          case measure => have := HJ10.out; have := HK2.out; omega
          case rel => exact ⟨(wrap64 (x15_2 + 1)), (by first | rfl | (simp; done) | (simp [*]; done)), H', ⟨by have := HJ10.out; have := HK2.out; omega⟩, ⟨by (with_reducible repeat (first | apply Kd.V_alloc | apply Kd.V_drewN | apply Kd.V_drew)); exact HO_3.out⟩, ⟨by repeat (first | (with_reducible first | exact HB.out | apply below_alloc | apply pw_below_drewN | apply below_drew1) | exact HB.out)⟩⟩
        ·rw [if_neg c43] at H
         have c43b0 : decide (x15_2 < 6) = false := decide_eq_false c43
         clear c43
         obtain rfl := Option.some.inj H
         clear hr_
         go_wp2
         go_ret
         exact ⟨rf_, hb_⟩
/-- THE ONE PURE STATEMENT of laws_FnDetects: yours. -/
def laws_FnDetects.Pure : Prop := ∀ (l0 : List Int), l0.length ≤ maxLen → l0.length * 1 ≤ 140737488351232 → (∀ x ∈ l0, (Lit.int .u8 x).wf = true) → ∃ k, laws_FnDetects.f k l0 = some true
theorem laws_FnDetects.walk (P : laws_FnDetects.Pure) (a0 : Option Addr) (len0 cap0 : Nat) (z0 : List Int) (w : World) (hT : TabsOk w) (w0 : (a0 = none ∧ len0 = 0 ∧ cap0 = 0 ∧ z0 = []) ∨ ∃ x, a0 = some x ∧ len0 ≤ cap0 ∧ cap0 ≤ maxLen ∧ z0.length = cap0 ∧ (∀ i, i < z0.length → w.cell? (x.add i) = some (.int .u8 (z0.getD i 0))) ∧ ∀ n ∈ z0, (Lit.int .u8 n).wf = true) (y0 : len0 * 1 ≤ 140737488351232) :
  Calls Tryd.prog 13 #[.slice a0 len0 cap0] w fun e w' => e = .returned (.bool true) ∧ Below w.heap.size w w' := by
 obtain ⟨l0, rfl, hr0, hm0, hw0, hc0⟩ := ReadsInt.ofRowC w0
 obtain ⟨k, h⟩ := P l0 hm0 y0 hw0
 refine (laws_FnDetects.calls (hT := hT) k _ _ l0 true w (Kd.C_of_reads (d := (0 : Int)) (h1 := fun _ => rfl) hr0) hc0 h rfl).mono ?_
 rintro e w' ⟨rfl, hd⟩
 exact ⟨rfl, hd⟩
end Go.Proofs.YtpmimhbnmjffpaaDoor.QFnDetects
