/- The functions that a law reaches, each as a plain function, and that Go comes to just its answer: written by the session's program pp.py (the kit's print, with a few rows turned). -/
import Derived.Test.YtpmimhbnmjffpaaDoorQFnStreamsx0
import Derived.Test.YtpmimhbnmjffpaaDoorQFnStreamsx5
import Derived.Test.YtpmimhbnmjffpaaDoorQFnStreamsx6
namespace Go.Proofs.YtpmimhbnmjffpaaDoor.QFnStreams
open Go.RowKit Go.Proofs.YtpmimhbnmjffpaaDoorW.PrintWords Go.Proofs.YtpmimhbnmjffpaaDoorW.PrintLast Go.Proofs.YtpmimhbnmjffpaaDoorW.PrintMore Go.Proofs.YtpmimhbnmjffpaaDoor.Xw Go.Proofs.YtpmimhbnmjffpaaDoor.Xs Go.Proofs.YtpmimhbnmjffpaaDoor.Ext
attribute [local go_sem] max2_int min2_int max_two min_two max_three min_three max_four min_four   -- for this text's walks alone
set_option linter.unusedVariables false
set_option linter.unusedSimpArgs false

/-! ### spec_Signs: function 69 -/
def spec_Signs.l0 : Nat → List Int → List Int → Int → Option (List Int × Bool)
 | 0, _, _, _ => none
 | k + 1, x4, x5, x6 => if x6 < (x5.length : Int) then ((spec_GetSign.f k x5 x6).bind fun bt321 => (if bt321.2.2 = true then (if x4.length < 17592186044416 then (spec_Signs.l0 k (x4 ++ [bt321.1]) x5 bt321.2.1) else (none)) else (some ((([] : List Int)), false)))) else (some (x4, true))
def spec_Signs.f (k : Nat) (a0 : ByteArray) : Option (List Int × Bool) := if a0.size ≤ 9223372036854775807 then (spec_Signs.l0 k (([] : List Int)) (numsOf a0) 0) else (none)
theorem spec_Signs.mono_l : ∀ k, (∀ y0 y1 y2, LeO (spec_Signs.l0 k y0 y1 y2) (spec_Signs.l0 (k + 1) y0 y1 y2))
 | 0 => fun _ _ _ r h => by simp [spec_Signs.l0] at h
 | k + 1 => by
  have ih0 := spec_Signs.mono_l k
  ·intro y0 y1 y2
   unfold spec_Signs.l0
   repeat' first
   | (with_reducible exact ih0 _ _ _)
   | (with_reducible exact spec_GetSign.mono _ _ _)
   | (with_reducible exact LeO.refl _)
   | (with_reducible exact LeO.none _)
   | (with_reducible refine LeO.ite ?_ ?_)
   | (with_reducible refine LeO.bind ?_ (fun _ => ?_))
   | exact ih0 _ _ _
   | exact spec_GetSign.mono _ _ _
   | exact LeO.none _
   | refine LeO.ite ?_ ?_
   | refine LeO.bind ?_ (fun _ => ?_)
theorem spec_Signs.mono : ∀ a0 k, LeO (spec_Signs.f k a0) (spec_Signs.f (k + 1) a0) := by
 intro a0 k
 have ih0 := spec_Signs.mono_l k
 unfold spec_Signs.f
 repeat' first
   | (with_reducible exact ih0 _ _ _)
   | (with_reducible exact spec_GetSign.mono _ _ _)
   | (with_reducible exact LeO.refl _)
   | (with_reducible exact LeO.none _)
   | (with_reducible refine LeO.ite ?_ ?_)
   | (with_reducible refine LeO.bind ?_ (fun _ => ?_))
   | exact ih0 _ _ _
   | exact spec_GetSign.mono _ _ _
   | exact LeO.none _
   | refine LeO.ite ?_ ?_
   | refine LeO.bind ?_ (fun _ => ?_)
set_option maxHeartbeats 8000000 in
set_option maxRecDepth 100000 in
theorem spec_Signs.calls (k : Nat) (a0 : ByteArray) (r1 : List Int) (r2 : Bool) (w : World) (h : spec_Signs.f k a0 = some (r1, r2)) :
  Calls Tryd.prog 69 #[.string a0] w fun e w' => ∃ v0_ : Value, e = .returned (.tuple #[v0_, .bool r2]) ∧ Kd.R (Kd.int .i64) 3 w' w.heap.size (fun _ => True) v0_ r1 ∧ Below w.heap.size w w' := by
 have HB := Aside0.mk (Below.refl w.heap.size w)
 have H : (if a0.size ≤ 9223372036854775807 then (spec_Signs.l0 k (([] : List Int)) (numsOf a0) 0) else (none)) = some (r1, r2) := h
 clear h
 obtain ⟨y315, hy315⟩ : ∃ y_ : List Int, y_ = (([] : List Int)) := ⟨_, rfl⟩
 replace H : (if a0.size ≤ 9223372036854775807 then (spec_Signs.l0 k y315 (numsOf a0) 0) else (none)) = some (r1, r2) := by first | (rw [hy315]; with_reducible exact H) | (have H2_ := (Option.bind_some _ _).symm.trans H; rw [hy315]; with_reducible exact H2_) | (have H2_ := (Option.bind_some _ _).symm.trans H; with_reducible exact H2_) | with_reducible exact H | (rw [hy315]; exact H) | exact H
 have Ny315 := Aside0.mk hy315
 clear hy315
 by_cases c2 : a0.size ≤ 9223372036854775807
 ·rw [if_pos c2] at H
  have c2b0 := eq_true c2
  have c2b1 : decide (a0.size ≤ 9223372036854775807) = true := decide_eq_true c2
  try have c2b2 : (9223372036854775807 < a0.size) = False := eq_false (Nat.not_lt.2 c2)
  clear c2
  obtain ⟨y318, hy318⟩ : ∃ y_ : List Int, y_ = (numsOf a0) := ⟨_, rfl⟩
  replace H : (spec_Signs.l0 k y315 y318 0) = some (r1, r2) := by first | (rw [hy318]; with_reducible exact H) | (have H2_ := (Option.bind_some _ _).symm.trans H; rw [hy318]; with_reducible exact H2_) | (have H2_ := (Option.bind_some _ _).symm.trans H; with_reducible exact H2_) | with_reducible exact H | (rw [hy318]; exact H) | exact H
  have Ny318 := Aside0.mk hy318
  clear hy318
  have H' := Aside0.mk H
  clear H
  go_enter Tryd.func69, Tryd.ntmps69
  go_wp2_with (first | ((with_reducible refine gate_dst (N := 10) rfl ?_); refine Kd.R_lit (Kd.int .i64) _ 3 ?hg (N := 10) ?hd (xs := ([] : List Int)) (inner := []) (ok := fun _ => True) (okp := fun _ => True) ?hr ?hp (fun _ hk => hk) trivial (Below.refl _ _) (Nat.le_refl _) (by simp) ?_; (case hd => rfl); (case hg => rfl); (case hr => first | (go_simp; done) | (go_simp; rfl)); (case hp => exact (Reps.none _ _)); intro v316 w3 ho4 hb hg_ hnew_; clear hg_ hnew_; (first | rw [← Ny315.out] at ho4 | (simp only [Int.reduceToNat] at ho4; rw [← Ny315.out] at ho4)); have n0_ := Aside0.mk (Kd.R_lower ho4 (below_size hb_)); have n1_ := Aside0.mk (below_step hb_ hb); clear HB; have HO317 := n0_; have HB := n1_; clear n0_ n1_; clear hb ho4) | ((with_reducible refine Kd.gate_upon (N := 12) rfl ?_); refine Kd.V_ofstr _ 9 23 5 a0 Tryd.underlying9 Tryd.underlying23 Tryd.underlying5 (by first | exact of_decide_eq_true as_ | assumption | omega) (Below.refl _ _) (Nat.le_refl _) ?_; intro v319 w5 ho6 hb hg_ hnew_; clear hg_ hnew_; (first | rw [← Ny318.out] at ho6 | (simp only [Int.reduceToNat] at ho6; rw [← Ny318.out] at ho6)); have n0_ := Aside0.mk (Kd.R_below (kr_ HO317) hb); have n1_ := Aside0.mk (Kd.V_lower (Kd.V_mono (ok' := fun k_ => some k_ ≠ (v316 : Value).ownBlock) ho6 (fun k_ hk_ => (Kd.fresh' (Kd.R_lt (kr_ HO317)) k_ hk_))) (below_size hb_)); have n2_ := Aside0.mk (below_step hb_ hb); clear HO317; clear HB; have HO317 := n0_; have HO320 := n1_; have HB := n2_; clear n0_ n1_ n2_; clear hb ho6))
  go_loopg [4, 6] k (fun kq v4 v6 w' => ∃ (x4_1 : List Int) (x6_1 : Int), v6 = .int .i64 x6_1 ∧ Aside0 (spec_Signs.l0 kq x4_1 y318 x6_1 = some (r1, r2)) ∧ Aside0 (kq ≤ k) ∧ Aside0 (Kd.R (Kd.int .i64) 3 w' w.heap.size (fun _ => True) v4 x4_1) ∧ Aside0 (Kd.V (Kd.int .u8) 5 w' w.heap.size (fun k_ => some k_ ≠ (v4 : Value).ownBlock) v319 y318) ∧ Aside0 (Below w.heap.size w w'))
  case atStart => exact ⟨(y315), (0), (by first | rfl | (simp; done) | (simp [*]; done)), H', ⟨Nat.le_refl _⟩, ⟨by (with_reducible repeat (first | apply Kd.R_alloc | apply Kd.R_drewN | apply Kd.R_drew)); exact HO317.out⟩, ⟨by (with_reducible repeat (first | apply Kd.V_alloc | apply Kd.V_drewN | apply Kd.V_drew)); exact HO320.out⟩, ⟨by repeat (first | (with_reducible first | exact HB.out | apply below_alloc | apply pw_below_drewN | apply below_drew1) | exact HB.out)⟩⟩
  case round =>
   clear H'
   try clear c2
   try clear c2b0
   try clear c2b1
   try clear c2b2
   try clear p2
   try clear c6
   obtain ⟨x4_1, x6_1, rfl, HA, HK1, HO_4, HO_5, HB⟩ := hrel
   cases gk with
   | zero => exact absurd HA.out (by simp [spec_Signs.l0])
   | succ k1 =>
    have H := HA.out
    clear HA
    simp only [spec_Signs.l0] at H
    by_cases c7 : x6_1 < (y318.length : Int)
    ·rw [if_pos c7] at H
     have c7b0 : decide (x6_1 < (y318.length : Int)) = true := decide_eq_true c7
     clear c7
     replace H := Option.bind_eq_some_iff.mp H
     obtain ⟨⟨t321, t322, t323⟩, A80, H⟩ := H
     try dsimp only at H
     have A8 := Aside0.mk A80
     clear A80
     by_cases c9 : t323 = true
     ·subst c9
      rw [if_pos rfl] at H
      by_cases c10 : x4_1.length < 17592186044416
      ·rw [if_pos c10] at H
       have LMc10 := Aside0.mk c10
       clear c10
       obtain ⟨y324, hy324⟩ : ∃ y_ : List Int, y_ = (x4_1 ++ [t321]) := ⟨_, rfl⟩
       replace H : (spec_Signs.l0 k1 y324 y318 t322) = some (r1, r2) := by first | (rw [hy324]; with_reducible exact H) | (have H2_ := (Option.bind_some _ _).symm.trans H; rw [hy324]; with_reducible exact H2_) | (have H2_ := (Option.bind_some _ _).symm.trans H; with_reducible exact H2_) | with_reducible exact H | (rw [hy324]; exact H) | exact H
       have Ny324 := Aside0.mk hy324
       clear hy324
       have H' := Aside0.mk H
       clear H
       obtain ⟨Ao11, co11, eo11⟩ := Kd.V_slice HO_5.out
       subst eo11
       go_wp2_with (first | ((with_reducible refine gate_callee (f := 98) rfl ?_); refine goesL_ (some 20) rfl rfl Tryd.func98 (by kernel_rfl) rfl #[.slice Ao11 y318.length co11, .int .i64 x6_1] rfl ka_ ?_; (with_reducible refine (spec_GetSign.calls k1 _ _ y318 x6_1 t321 t322 true _ ?side1 ?side2 A8.out).mono ?_); (case side1 => repeat (first | exact (Kd.V_reads' HO_5.out).2.2 | (with_reducible refine Kd.C_alloc ?_ _) | (with_reducible refine Kd.C_drewN ?_ _) | (with_reducible refine Kd.C_drew ?_))); (case side2 => exact (Kd.V_reads' HO_5.out).2.1); rintro e w12 ⟨rfl, hb⟩; refine ⟨_, rfl, ?_⟩; have n0_ := Aside0.mk (Kd.R_below (kr_ HO_4) hb); have n1_ := Aside0.mk (Kd.V_below (by (with_reducible repeat (first | apply Kd.V_alloc | apply Kd.V_drewN | apply Kd.V_drew)); exact HO_5.out) hb); have n2_ := Aside0.mk (below_step hb_ hb); clear HO_4; clear HO_5; clear HB; have HO_4 := n0_; have HO_5 := n1_; have HB := n2_; clear n0_ n1_ n2_; try clear hb) | ((with_reducible refine gate_builtin (b := .append) (xs := #[.tmp 27, .tmp 29]) rfl ?_); at_builtin; refine Kd.R_append (Kd.int .i64) (w0 := w) w.heap.size rfl (.tmp 27) (.tmp 29) 70 3 (.int .i64 0) 8 rfl Tryd.underlying70 info3 rfl (by decide) (by omega) u4 x4_1 t321 [.int .i64 t321] (fun _ => True) (fun _ => False) rfl rfl ?aP (fun _ hk => hk.elim) ?aF ?aO ?aB ?aS ?aL ?_; (case aP => exact rfl); (case aB => exact hb_); (case aF => exact (fun _ _ => trivial)); (case aO => exact (kr_ HO_4)); (case aS => exact (below_size hb_)); (case aL => have := LMc10.out; omega); intro v325 w13 ho hb hg hat; rw [← Ny324.out] at ho; have n0_ := Aside0.mk (Kd.V_afterv (ok := (fun _ => True)) (by (with_reducible repeat (first | apply Kd.V_alloc | apply Kd.V_drewN | apply Kd.V_drew)); exact Kd.V_mono HO_5.out (fun _ hk => ⟨trivial, hk⟩)) hg hat); have n1_ := Aside0.mk (hb); have n2_ := Aside0.mk (ho); clear HO_5; clear HB; clear HO_4; have HO_5 := n0_; have HB := n1_; have HO326 := n2_; clear n0_ n1_ n2_; clear ho hb hg hat))
       go_roundg k1
       case measure => have := HK1.out; omega
       case rel => exact ⟨(y324), (t322), (by first | rfl | (simp; done) | (simp [*]; done)), H', ⟨by have := HK1.out; omega⟩, ⟨by (with_reducible repeat (first | apply Kd.R_alloc | apply Kd.R_drewN | apply Kd.R_drew)); exact HO326.out⟩, ⟨by (with_reducible repeat (first | apply Kd.V_alloc | apply Kd.V_drewN | apply Kd.V_drew)); exact Kd.V_mono HO_5.out (fun _ hk => hk.2)⟩, ⟨by repeat (first | (with_reducible first | exact HB.out | apply below_alloc | apply pw_below_drewN | apply below_drew1) | exact HB.out)⟩⟩
      ·rw [if_neg c10] at H
       exact absurd H (by simp)
     ·replace c9 := Bool.eq_false_iff.mpr c9
      subst c9
      rw [if_neg (show ¬ (false = true) by decide)] at H
      obtain ⟨y327, hy327⟩ : ∃ y_ : List Int, y_ = (([] : List Int)) := ⟨_, rfl⟩
      replace H : (some (y327, false)) = some (r1, r2) := by first | (rw [hy327]; with_reducible exact H) | (have H2_ := (Option.bind_some _ _).symm.trans H; rw [hy327]; with_reducible exact H2_) | (have H2_ := (Option.bind_some _ _).symm.trans H; with_reducible exact H2_) | with_reducible exact H | (rw [hy327]; exact H) | exact H
      have Ny327 := Aside0.mk hy327
      clear hy327
      simp only [Option.some.injEq, Prod.mk.injEq] at H
      obtain ⟨rfl, rfl⟩ := H
      obtain ⟨Ao14, co14, eo14⟩ := Kd.V_slice HO_5.out
      subst eo14
      go_wp2_with (first | ((with_reducible refine gate_callee (f := 98) rfl ?_); refine goesL_ (some 20) rfl rfl Tryd.func98 (by kernel_rfl) rfl #[.slice Ao14 y318.length co14, .int .i64 x6_1] rfl ka_ ?_; (with_reducible refine (spec_GetSign.calls k1 _ _ y318 x6_1 t321 t322 false _ ?side1 ?side2 A8.out).mono ?_); (case side1 => repeat (first | exact (Kd.V_reads' HO_5.out).2.2 | (with_reducible refine Kd.C_alloc ?_ _) | (with_reducible refine Kd.C_drewN ?_ _) | (with_reducible refine Kd.C_drew ?_))); (case side2 => exact (Kd.V_reads' HO_5.out).2.1); rintro e w15 ⟨rfl, hb⟩; refine ⟨_, rfl, ?_⟩; have n0_ := Aside0.mk (Kd.R_below (kr_ HO_4) hb); have n1_ := Aside0.mk (Kd.V_below (by (with_reducible repeat (first | apply Kd.V_alloc | apply Kd.V_drewN | apply Kd.V_drew)); exact HO_5.out) hb); have n2_ := Aside0.mk (below_step hb_ hb); clear HO_4; clear HO_5; clear HB; have HO_4 := n0_; have HO_5 := n1_; have HB := n2_; clear n0_ n1_ n2_; try clear hb) | ((with_reducible refine gate_dst (N := 26) rfl ?_); refine Kd.R_lit (Kd.int .i64) _ 3 ?hg (N := 26) ?hd (xs := ([] : List Int)) (inner := []) (ok := fun _ => True) (okp := fun _ => True) ?hr ?hp (fun _ hk => hk) trivial (Below.refl _ _) (Nat.le_refl _) (by simp) ?_; (case hd => rfl); (case hg => rfl); (case hr => first | (go_simp; done) | (go_simp; rfl)); (case hp => exact (Reps.none _ _)); intro v328 w16 ho17 hb hg_ hnew_; clear hg_ hnew_; (first | rw [← Ny327.out] at ho17 | (simp only [Int.reduceToNat] at ho17; rw [← Ny327.out] at ho17)); have n0_ := Aside0.mk (Kd.R_elder' (kr_ HO_4) (Kd.R_base ho17) hb); have n1_ := Aside0.mk (Kd.V_elder' (by (with_reducible repeat (first | apply Kd.V_alloc | apply Kd.V_drewN | apply Kd.V_drew)); exact HO_5.out) (Kd.R_base ho17) hb); have n2_ := Aside0.mk (Kd.R_lower (Kd.R_new' ho17 (Kd.R_lt (kr_ HO_4))) (below_size hb_)); have n3_ := Aside0.mk (below_step hb_ hb); clear HO_4; clear HO_5; clear HB; have HO_4 := n0_; have HO_5 := n1_; have HO329 := n2_; have HB := n3_; clear n0_ n1_ n2_ n3_; clear hb ho17))
      go_ret2
      exact ⟨_, by first | rfl | (simp [errW_none, errW_some] <;> rfl) | (simp [*, errW_none, errW_some] <;> rfl), by (with_reducible repeat (first | apply Kd.R_alloc | apply Kd.R_drewN | apply Kd.R_drew)); exact Kd.R_mono HO329.out (fun _ hk => trivial), hb_⟩
    ·rw [if_neg c7] at H
     have c7b0 : decide (x6_1 < (y318.length : Int)) = false := decide_eq_false c7
     clear c7
     simp only [Option.some.injEq, Prod.mk.injEq] at H
     obtain ⟨rfl, rfl⟩ := H
     obtain ⟨Ao18, co18, eo18⟩ := Kd.V_slice HO_5.out
     subst eo18
     go_wp2
     go_ret2
     exact ⟨_, by first | rfl | (simp [errW_none, errW_some] <;> rfl) | (simp [*, errW_none, errW_some] <;> rfl), by (with_reducible repeat (first | apply Kd.R_alloc | apply Kd.R_drewN | apply Kd.R_drew)); exact HO_4.out, hb_⟩
 ·rw [if_neg c2] at H
  exact absurd H (by simp)

/-! ### spec_l5Cs: function 70 -/
def spec_l5Cs.f (a0 : Int) : Option (Bool) := (spec_l1In.f a0 0 5).bind fun t330 => (some t330)
set_option maxHeartbeats 8000000 in
set_option maxRecDepth 100000 in
theorem spec_l5Cs.calls (a0 : Int) (r : Bool) (w : World) (h : spec_l5Cs.f a0 = some r) :
  Calls Tryd.prog 70 #[.int .i64 a0] w fun e w' => e = .returned (.bool r) ∧ Drawn0 w w' := by
 have H : ((spec_l1In.f a0 0 5).bind fun t330 => (some t330)) = some r := h
 clear h
 replace H := Option.bind_eq_some_iff.mp H
 obtain ⟨t330, A20, H⟩ := H
 try dsimp only at H
 have A2 := Aside0.mk A20
 clear A20
 obtain rfl := Option.some.inj H
 go_enter Tryd.func70, Tryd.ntmps70
 go_wp2_with (first | ((with_reducible refine gate_callee (f := 96) rfl ?_); refine goesL_ (some 4) rfl rfl Tryd.func96 (by kernel_rfl) rfl #[.int .i64 a0, .int .i64 0, .int .i64 5] rfl ka_ ?_; (with_reducible refine (spec_l1In.calls a0 0 5 t330 _ A2.out).mono ?_); rintro e w' ⟨rfl, ⟨nd, rfl⟩⟩; refine ⟨_, rfl, ?_⟩))
 go_ret
 exact ⟨by first | rfl | (simp; done) | (simp [*]; done), dn_⟩

/-! ### spec_SignPair: function 121 -/
def spec_SignPair.f (a0 : Int) : Option (Int × Int × Bool) := (spec_l1In.f a0 12353 12435).bind fun t331 => (if t331 = true then (some (164, wrap64 ((wrap64 (a0 - 12353)) + 161), true)) else ((spec_l1In.f a0 12449 12534).bind fun t332 => (if t332 = true then (some (165, wrap64 ((wrap64 (a0 - 12449)) + 161), true)) else (some (0, 0, false)))))
set_option maxHeartbeats 8000000 in
set_option maxRecDepth 100000 in
theorem spec_SignPair.calls (a0 : Int) (r1 : Int) (r2 : Int) (r3 : Bool) (w : World) (h : spec_SignPair.f a0 = some (r1, r2, r3)) :
  Calls Tryd.prog 121 #[.int .i64 a0] w fun e w' => e = .returned (.tuple #[.int .i64 r1, .int .i64 r2, .bool r3]) ∧ Drawn0 w w' := by
 have H : ((spec_l1In.f a0 12353 12435).bind fun t331 => (if t331 = true then (some (164, wrap64 ((wrap64 (a0 - 12353)) + 161), true)) else ((spec_l1In.f a0 12449 12534).bind fun t332 => (if t332 = true then (some (165, wrap64 ((wrap64 (a0 - 12449)) + 161), true)) else (some (0, 0, false)))))) = some (r1, r2, r3) := h
 clear h
 replace H := Option.bind_eq_some_iff.mp H
 obtain ⟨t331, A20, H⟩ := H
 try dsimp only at H
 have A2 := Aside0.mk A20
 clear A20
 by_cases c3 : t331 = true
 ·subst c3
  rw [if_pos rfl] at H
  simp only [Option.some.injEq, Prod.mk.injEq] at H
  obtain ⟨rfl, rfl, rfl⟩ := H
  go_enter Tryd.func121, Tryd.ntmps121
  go_wp2_with (first | ((with_reducible refine gate_callee (f := 96) rfl ?_); refine goesL_ (some 7) rfl rfl Tryd.func96 (by kernel_rfl) rfl #[.int .i64 a0, .int .i64 12353, .int .i64 12435] rfl ka_ ?_; (with_reducible refine (spec_l1In.calls a0 12353 12435 true _ A2.out).mono ?_); rintro e w' ⟨rfl, ⟨nd, rfl⟩⟩; refine ⟨_, rfl, ?_⟩))
  go_ret3
  exact ⟨by first | rfl | (simp; done) | (simp [*]; done), dn_⟩
 ·replace c3 := Bool.eq_false_iff.mpr c3
  subst c3
  rw [if_neg (show ¬ (false = true) by decide)] at H
  replace H := Option.bind_eq_some_iff.mp H
  obtain ⟨t332, A40, H⟩ := H
  try dsimp only at H
  have A4 := Aside0.mk A40
  clear A40
  by_cases c5 : t332 = true
  ·subst c5
   rw [if_pos rfl] at H
   simp only [Option.some.injEq, Prod.mk.injEq] at H
   obtain ⟨rfl, rfl, rfl⟩ := H
   go_enter Tryd.func121, Tryd.ntmps121
   go_wp2_with (first | ((with_reducible refine gate_callee (f := 96) rfl ?_); refine goesL_ (some 7) rfl rfl Tryd.func96 (by kernel_rfl) rfl #[.int .i64 a0, .int .i64 12353, .int .i64 12435] rfl ka_ ?_; (with_reducible refine (spec_l1In.calls a0 12353 12435 false _ A2.out).mono ?_); rintro e w' ⟨rfl, ⟨nd, rfl⟩⟩; refine ⟨_, rfl, ?_⟩) | ((with_reducible refine gate_callee (f := 96) rfl ?_); refine goesL_ (some 13) rfl rfl Tryd.func96 (by kernel_rfl) rfl #[.int .i64 a0, .int .i64 12449, .int .i64 12534] rfl ka_ ?_; (with_reducible refine (spec_l1In.calls a0 12449 12534 true _ A4.out).mono ?_); rintro e w' ⟨rfl, ⟨nd, rfl⟩⟩; refine ⟨_, rfl, ?_⟩))
   go_ret3
   exact ⟨by first | rfl | (simp; done) | (simp [*]; done), dn_⟩
  ·replace c5 := Bool.eq_false_iff.mpr c5
   subst c5
   rw [if_neg (show ¬ (false = true) by decide)] at H
   simp only [Option.some.injEq, Prod.mk.injEq] at H
   obtain ⟨rfl, rfl, rfl⟩ := H
   go_enter Tryd.func121, Tryd.ntmps121
   go_wp2_with (first | ((with_reducible refine gate_callee (f := 96) rfl ?_); refine goesL_ (some 7) rfl rfl Tryd.func96 (by kernel_rfl) rfl #[.int .i64 a0, .int .i64 12353, .int .i64 12435] rfl ka_ ?_; (with_reducible refine (spec_l1In.calls a0 12353 12435 false _ A2.out).mono ?_); rintro e w' ⟨rfl, ⟨nd, rfl⟩⟩; refine ⟨_, rfl, ?_⟩) | ((with_reducible refine gate_callee (f := 96) rfl ?_); refine goesL_ (some 13) rfl rfl Tryd.func96 (by kernel_rfl) rfl #[.int .i64 a0, .int .i64 12449, .int .i64 12534] rfl ka_ ?_; (with_reducible refine (spec_l1In.calls a0 12449 12534 false _ A4.out).mono ?_); rintro e w' ⟨rfl, ⟨nd, rfl⟩⟩; refine ⟨_, rfl, ?_⟩))
   go_ret3
   exact ⟨by first | rfl | (simp; done) | (simp [*]; done), dn_⟩

/-! ### spec_PutEuc: function 100 -/
def spec_PutEuc.f (l0 : List Int) (a1 : Int) : Option (List Int × Bool) := (some (([] : List Int) : List Int)).bind fun y333 => (if y333.length + l0.length < 140737488355328 then ((some (y333 ++ l0 : List Int)).bind fun y336 => ((spec_l1In.f a1 0 127).bind fun t339 => (if t339 = true then (if y336.length < 140737488355328 then (some ((y336 ++ [(a1) % 256]), true)) else (none)) else ((spec_SignPair.f a1).bind fun bt343 => (if bt343.2.2 = true then ((some (([(bt343.1) % 256, (bt343.2.1) % 256] : List Int) : List Int)).bind fun y346 => (if y336.length + y346.length < 140737488355328 then (some ((y336 ++ y346), true)) else (none))) else (some (y336, false))))))) else (none))
set_option maxHeartbeats 8000000 in
set_option maxRecDepth 100000 in
theorem spec_PutEuc.calls (A0 : Option Addr) (c0 : Nat) (l0 : List Int) (a1 : Int) (r1 : List Int) (r2 : Bool) (w : World) (hr0 : Kd.C (Kd.int .u8) w A0 l0.length l0) (hc0 : l0.length ≤ c0) (h : spec_PutEuc.f l0 a1 = some (r1, r2)) :
  Calls Tryd.prog 100 #[.slice A0 l0.length c0, .int .i64 a1] w fun e w' => ∃ v0_ : Value, e = .returned (.tuple #[v0_, .bool r2]) ∧ Kd.R (Kd.int .u8) 5 w' w.heap.size (fun _ => True) v0_ r1 ∧ Below w.heap.size w w' := by
 have HR0 := Aside0.mk hr0
 have HC0 := Aside0.mk hc0
 clear hr0 hc0
 have HB := Aside0.mk (Below.refl w.heap.size w)
 have H : ((some (([] : List Int) : List Int)).bind fun y333 => (if y333.length + l0.length < 140737488355328 then ((some (y333 ++ l0 : List Int)).bind fun y336 => ((spec_l1In.f a1 0 127).bind fun t339 => (if t339 = true then (if y336.length < 140737488355328 then (some ((y336 ++ [(a1) % 256]), true)) else (none)) else ((spec_SignPair.f a1).bind fun bt343 => (if bt343.2.2 = true then ((some (([(bt343.1) % 256, (bt343.2.1) % 256] : List Int) : List Int)).bind fun y346 => (if y336.length + y346.length < 140737488355328 then (some ((y336 ++ y346), true)) else (none))) else (some (y336, false))))))) else (none))) = some (r1, r2) := h
 clear h
 obtain ⟨y333, hy333⟩ : ∃ y_ : List Int, y_ = (([] : List Int)) := ⟨_, rfl⟩
 replace H : (if y333.length + l0.length < 140737488355328 then ((some (y333 ++ l0 : List Int)).bind fun y336 => ((spec_l1In.f a1 0 127).bind fun t339 => (if t339 = true then (if y336.length < 140737488355328 then (some ((y336 ++ [(a1) % 256]), true)) else (none)) else ((spec_SignPair.f a1).bind fun bt343 => (if bt343.2.2 = true then ((some (([(bt343.1) % 256, (bt343.2.1) % 256] : List Int) : List Int)).bind fun y346 => (if y336.length + y346.length < 140737488355328 then (some ((y336 ++ y346), true)) else (none))) else (some (y336, false))))))) else (none)) = some (r1, r2) := by first | (rw [hy333]; with_reducible exact H) | (have H2_ := (Option.bind_some _ _).symm.trans H; rw [hy333]; with_reducible exact H2_) | (have H2_ := (Option.bind_some _ _).symm.trans H; with_reducible exact H2_) | with_reducible exact H | (rw [hy333]; exact H) | exact H
 have Ny333 := Aside0.mk hy333
 clear hy333
 by_cases c3 : y333.length + l0.length < 140737488355328
 ·rw [if_pos c3] at H
  have LMc3 := Aside0.mk c3
  clear c3
  obtain ⟨y336, hy336⟩ : ∃ y_ : List Int, y_ = (y333 ++ l0) := ⟨_, rfl⟩
  replace H : ((spec_l1In.f a1 0 127).bind fun t339 => (if t339 = true then (if y336.length < 140737488355328 then (some ((y336 ++ [(a1) % 256]), true)) else (none)) else ((spec_SignPair.f a1).bind fun bt343 => (if bt343.2.2 = true then ((some (([(bt343.1) % 256, (bt343.2.1) % 256] : List Int) : List Int)).bind fun y346 => (if y336.length + y346.length < 140737488355328 then (some ((y336 ++ y346), true)) else (none))) else (some (y336, false)))))) = some (r1, r2) := by first | (rw [hy336]; with_reducible exact H) | (have H2_ := (Option.bind_some _ _).symm.trans H; rw [hy336]; with_reducible exact H2_) | (have H2_ := (Option.bind_some _ _).symm.trans H; with_reducible exact H2_) | with_reducible exact H | (rw [hy336]; exact H) | exact H
  have Ny336 := Aside0.mk hy336
  clear hy336
  replace H := Option.bind_eq_some_iff.mp H
  obtain ⟨t339, A40, H⟩ := H
  try dsimp only at H
  have A4 := Aside0.mk A40
  clear A40
  by_cases c5 : t339 = true
  ·subst c5
   rw [if_pos rfl] at H
   by_cases c6 : y336.length < 140737488355328
   ·rw [if_pos c6] at H
    have LMc6 := Aside0.mk c6
    clear c6
    obtain ⟨y340, hy340⟩ : ∃ y_ : List Int, y_ = (y336 ++ [(a1) % 256]) := ⟨_, rfl⟩
    replace H : (some (y340, true)) = some (r1, r2) := by first | (rw [hy340]; with_reducible exact H) | (have H2_ := (Option.bind_some _ _).symm.trans H; rw [hy340]; with_reducible exact H2_) | (have H2_ := (Option.bind_some _ _).symm.trans H; with_reducible exact H2_) | with_reducible exact H | (rw [hy340]; exact H) | exact H
    have Ny340 := Aside0.mk hy340
    clear hy340
    simp only [Option.some.injEq, Prod.mk.injEq] at H
    obtain ⟨rfl, rfl⟩ := H
    go_enter Tryd.func100, Tryd.ntmps100
    go_wp2_with (first | ((with_reducible refine gate_dst (N := 10) rfl ?_); refine Kd.R_lit (Kd.int .u8) _ 5 ?hg (N := 10) ?hd (xs := ([] : List Int)) (inner := []) (ok := fun _ => True) (okp := fun _ => True) ?hr ?hp (fun _ hk => hk) trivial (Below.refl _ _) (Nat.le_refl _) (by simp) ?_; (case hd => rfl); (case hg => rfl); (case hr => first | (go_simp; done) | (go_simp; rfl)); (case hp => exact (Reps.none _ _)); intro v334 w7 ho8 hb hg_ hnew_; clear hg_ hnew_; (first | rw [← Ny333.out] at ho8 | (simp only [Int.reduceToNat] at ho8; rw [← Ny333.out] at ho8)); have n0_ := Aside0.mk (Kd.R_lower ho8 (below_size hb_)); have n1_ := Aside0.mk (below_step hb_ hb); clear HB; have HO335 := n0_; have HB := n1_; clear n0_ n1_; clear hb ho8) | ((with_reducible refine gate_builtin (b := .append) (xs := #[.tmp 10, .tmp 11]) rfl ?_); at_builtin; refine Kd.R_append_rows (Kd.int .u8) (w0 := w) w.heap.size rfl (.tmp 10) (.tmp 11) 23 5 (.int .u8 0) 1 rfl Tryd.underlying23 info5 rfl (by decide) (by omega) v334 y333 l0 _ _ _ (fun _ => True) (fun _ => False) rfl rfl ?aO ?aR (fun _ _ h => h) (fun _ h => h.elim) ?aF ?aB ?aS ?aL ?_; (case aR => repeat (first | exact (Kd.C_below HR0.out HB.out) | (with_reducible refine Kd.C_alloc ?_ _) | (with_reducible refine Kd.C_drewN ?_ _) | (with_reducible refine Kd.C_drew ?_))); (case aB => exact hb_); (case aF => exact (fun _ _ => trivial)); (case aO => exact (kr_ HO335)); (case aS => exact (below_size hb_)); (case aL => have := LMc3.out; omega); intro v337 w9 ho hb hg hat; rw [← Ny336.out] at ho; have n0_ := Aside0.mk (hb); have n1_ := Aside0.mk (ho); clear HB; clear HO335; have HB := n0_; have HO338 := n1_; clear n0_ n1_; clear ho hb hg hat) | ((with_reducible refine gate_callee (f := 96) rfl ?_); refine goesL_ (some 14) rfl rfl Tryd.func96 (by kernel_rfl) rfl #[.int .i64 a1, .int .i64 0, .int .i64 127] rfl ka_ ?_; (with_reducible refine (spec_l1In.calls a1 0 127 true _ A4.out).mono ?_); rintro e w' ⟨rfl, ⟨nd, rfl⟩⟩; refine ⟨_, rfl, ?_⟩) | ((with_reducible refine gate_builtin (b := .append) (xs := #[.tmp 15, .tmp 18]) rfl ?_); at_builtin; refine Kd.R_append (Kd.int .u8) (w0 := w) w.heap.size rfl (.tmp 15) (.tmp 18) 23 5 (.int .u8 0) 1 rfl Tryd.underlying23 info5 rfl (by decide) (by omega) v337 y336 ((a1) % 256) [.int .u8 ((a1) % 256)] (fun _ => True) (fun _ => False) rfl rfl ?aP (fun _ hk => hk.elim) ?aF ?aO ?aB ?aS ?aL ?_; (case aP => exact rfl); (case aB => exact hb_); (case aF => exact (fun _ _ => trivial)); (case aO => exact (kr_ HO338)); (case aS => exact (below_size hb_)); (case aL => have := LMc6.out; omega); intro v341 w10 ho hb hg hat; rw [← Ny340.out] at ho; have n0_ := Aside0.mk (hb); have n1_ := Aside0.mk (ho); clear HB; clear HO338; have HB := n0_; have HO342 := n1_; clear n0_ n1_; clear ho hb hg hat))
    go_ret2
    exact ⟨_, by first | rfl | (simp [errW_none, errW_some] <;> rfl) | (simp [*, errW_none, errW_some] <;> rfl), by (with_reducible repeat (first | apply Kd.R_alloc | apply Kd.R_drewN | apply Kd.R_drew)); exact HO342.out, hb_⟩
   ·rw [if_neg c6] at H
    exact absurd H (by simp)
  ·replace c5 := Bool.eq_false_iff.mpr c5
   subst c5
   rw [if_neg (show ¬ (false = true) by decide)] at H
   replace H := Option.bind_eq_some_iff.mp H
   obtain ⟨⟨t343, t344, t345⟩, A110, H⟩ := H
   try dsimp only at H
   have A11 := Aside0.mk A110
   clear A110
   by_cases c12 : t345 = true
   ·subst c12
    rw [if_pos rfl] at H
    obtain ⟨y346, hy346⟩ : ∃ y_ : List Int, y_ = (([(t343) % 256, (t344) % 256] : List Int)) := ⟨_, rfl⟩
    replace H : (if y336.length + y346.length < 140737488355328 then (some ((y336 ++ y346), true)) else (none)) = some (r1, r2) := by first | (rw [hy346]; with_reducible exact H) | (have H2_ := (Option.bind_some _ _).symm.trans H; rw [hy346]; with_reducible exact H2_) | (have H2_ := (Option.bind_some _ _).symm.trans H; with_reducible exact H2_) | with_reducible exact H | (rw [hy346]; exact H) | exact H
    have Ny346 := Aside0.mk hy346
    clear hy346
    by_cases c13 : y336.length + y346.length < 140737488355328
    ·rw [if_pos c13] at H
     have LMc13 := Aside0.mk c13
     clear c13
     obtain ⟨y349, hy349⟩ : ∃ y_ : List Int, y_ = (y336 ++ y346) := ⟨_, rfl⟩
     replace H : (some (y349, true)) = some (r1, r2) := by first | (rw [hy349]; with_reducible exact H) | (have H2_ := (Option.bind_some _ _).symm.trans H; rw [hy349]; with_reducible exact H2_) | (have H2_ := (Option.bind_some _ _).symm.trans H; with_reducible exact H2_) | with_reducible exact H | (rw [hy349]; exact H) | exact H
     have Ny349 := Aside0.mk hy349
     clear hy349
     simp only [Option.some.injEq, Prod.mk.injEq] at H
     obtain ⟨rfl, rfl⟩ := H
     go_enter Tryd.func100, Tryd.ntmps100
     go_wp2_with (first | ((with_reducible refine gate_dst (N := 10) rfl ?_); refine Kd.R_lit (Kd.int .u8) _ 5 ?hg (N := 10) ?hd (xs := ([] : List Int)) (inner := []) (ok := fun _ => True) (okp := fun _ => True) ?hr ?hp (fun _ hk => hk) trivial (Below.refl _ _) (Nat.le_refl _) (by simp) ?_; (case hd => rfl); (case hg => rfl); (case hr => first | (go_simp; done) | (go_simp; rfl)); (case hp => exact (Reps.none _ _)); intro v334 w14 ho15 hb hg_ hnew_; clear hg_ hnew_; (first | rw [← Ny333.out] at ho15 | (simp only [Int.reduceToNat] at ho15; rw [← Ny333.out] at ho15)); have n0_ := Aside0.mk (Kd.R_lower ho15 (below_size hb_)); have n1_ := Aside0.mk (below_step hb_ hb); clear HB; have HO335 := n0_; have HB := n1_; clear n0_ n1_; clear hb ho15) | ((with_reducible refine gate_builtin (b := .append) (xs := #[.tmp 10, .tmp 11]) rfl ?_); at_builtin; refine Kd.R_append_rows (Kd.int .u8) (w0 := w) w.heap.size rfl (.tmp 10) (.tmp 11) 23 5 (.int .u8 0) 1 rfl Tryd.underlying23 info5 rfl (by decide) (by omega) v334 y333 l0 _ _ _ (fun _ => True) (fun _ => False) rfl rfl ?aO ?aR (fun _ _ h => h) (fun _ h => h.elim) ?aF ?aB ?aS ?aL ?_; (case aR => repeat (first | exact (Kd.C_below HR0.out HB.out) | (with_reducible refine Kd.C_alloc ?_ _) | (with_reducible refine Kd.C_drewN ?_ _) | (with_reducible refine Kd.C_drew ?_))); (case aB => exact hb_); (case aF => exact (fun _ _ => trivial)); (case aO => exact (kr_ HO335)); (case aS => exact (below_size hb_)); (case aL => have := LMc3.out; omega); intro v337 w16 ho hb hg hat; rw [← Ny336.out] at ho; have n0_ := Aside0.mk (hb); have n1_ := Aside0.mk (ho); clear HB; clear HO335; have HB := n0_; have HO338 := n1_; clear n0_ n1_; clear ho hb hg hat) | ((with_reducible refine gate_callee (f := 96) rfl ?_); refine goesL_ (some 14) rfl rfl Tryd.func96 (by kernel_rfl) rfl #[.int .i64 a1, .int .i64 0, .int .i64 127] rfl ka_ ?_; (with_reducible refine (spec_l1In.calls a1 0 127 false _ A4.out).mono ?_); rintro e w' ⟨rfl, ⟨nd, rfl⟩⟩; refine ⟨_, rfl, ?_⟩) | ((with_reducible refine gate_callee (f := 121) rfl ?_); refine goesL_ (some 22) rfl rfl Tryd.func121 (by kernel_rfl) rfl #[.int .i64 a1] rfl ka_ ?_; (with_reducible refine (spec_SignPair.calls a1 t343 t344 true _ A11.out).mono ?_); rintro e w' ⟨rfl, ⟨nd, rfl⟩⟩; refine ⟨_, rfl, ?_⟩) | ((with_reducible refine gate_dst (N := 34) rfl ?_); refine Kd.R_lit (Kd.int .u8) _ 5 ?hg (N := 34) ?hd (xs := ([(t343) % 256, (t344) % 256] : List Int)) (inner := [.int .u8 ((t343) % 256), .int .u8 ((t344) % 256)]) (ok := fun _ => True) (okp := fun _ => True) ?hr ?hp (fun _ hk => hk) trivial (Below.refl _ _) (Nat.le_refl _) (by simp) ?_; (case hd => rfl); (case hg => rfl); (case hr => first | (go_simp; done) | (go_simp; rfl)); (case hp => exact rp_); intro v347 w17 ho18 hb hg_ hnew_; clear hg_ hnew_; (first | rw [← Ny346.out] at ho18 | (simp only [Int.reduceToNat] at ho18; rw [← Ny346.out] at ho18)); have n0_ := Aside0.mk (Kd.R_elder' (kr_ HO338) (Kd.R_base ho18) hb); have n1_ := Aside0.mk (Kd.R_lower (Kd.R_new' ho18 (Kd.R_lt (kr_ HO338))) (below_size hb_)); have n2_ := Aside0.mk (below_step hb_ hb); clear HO338; clear HB; have HO338 := n0_; have HO348 := n1_; have HB := n2_; clear n0_ n1_ n2_; clear hb ho18; obtain ⟨Ao20, co20, eo20⟩ := Kd.R_slice HO348.out; subst eo20) | ((with_reducible refine gate_builtin (b := .append) (xs := #[.tmp 29, .tmp 34]) rfl ?_); at_builtin; refine Kd.R_append_rows (Kd.int .u8) (w0 := w) w.heap.size rfl (.tmp 29) (.tmp 34) 23 5 (.int .u8 0) 1 rfl Tryd.underlying23 info5 rfl (by decide) (by omega) v337 y336 y346 _ _ _ (fun k_ => some k_ ≠ (.slice Ao20 y346.length co20 : Value).ownBlock) (fun _ => False) rfl rfl ?aO ?aR (fun _ _ h => h) (fun _ h => h.elim) ?aF ?aB ?aS ?aL ?_; (case aR => exact kc_ (Kd.R_reads' HO348.out).2.2); (case aB => exact hb_); (case aF => exact (fun k_ hk => Kd.fresh' (Kd.R_lt (kr_ HO348)) k_ hk)); (case aO => exact (by (with_reducible repeat (first | apply Kd.R_alloc | apply Kd.R_drewN | apply Kd.R_drew)); exact Kd.R_mono HO338.out (fun _ hk => hk.2))); (case aS => exact (below_size hb_)); (case aL => have := LMc13.out; omega); intro v350 w19 ho hb hg hat; rw [← Ny349.out] at ho; have n0_ := Aside0.mk (Kd.R_after (ok := (fun _ => True)) (kr_ HO348) hg hat); have n1_ := Aside0.mk (hb); have n2_ := Aside0.mk (ho); clear HO348; clear HB; clear HO338; have HO348 := n0_; have HB := n1_; have HO351 := n2_; clear n0_ n1_ n2_; clear ho hb hg hat))
     go_ret2
     exact ⟨_, by first | rfl | (simp [errW_none, errW_some] <;> rfl) | (simp [*, errW_none, errW_some] <;> rfl), by (with_reducible repeat (first | apply Kd.R_alloc | apply Kd.R_drewN | apply Kd.R_drew)); exact Kd.R_mono HO351.out (fun _ hk => trivial), hb_⟩
    ·rw [if_neg c13] at H
     exact absurd H (by simp)
   ·replace c12 := Bool.eq_false_iff.mpr c12
    subst c12
    rw [if_neg (show ¬ (false = true) by decide)] at H
    simp only [Option.some.injEq, Prod.mk.injEq] at H
    obtain ⟨rfl, rfl⟩ := H
    go_enter Tryd.func100, Tryd.ntmps100
    go_wp2_with (first | ((with_reducible refine gate_dst (N := 10) rfl ?_); refine Kd.R_lit (Kd.int .u8) _ 5 ?hg (N := 10) ?hd (xs := ([] : List Int)) (inner := []) (ok := fun _ => True) (okp := fun _ => True) ?hr ?hp (fun _ hk => hk) trivial (Below.refl _ _) (Nat.le_refl _) (by simp) ?_; (case hd => rfl); (case hg => rfl); (case hr => first | (go_simp; done) | (go_simp; rfl)); (case hp => exact (Reps.none _ _)); intro v334 w21 ho22 hb hg_ hnew_; clear hg_ hnew_; (first | rw [← Ny333.out] at ho22 | (simp only [Int.reduceToNat] at ho22; rw [← Ny333.out] at ho22)); have n0_ := Aside0.mk (Kd.R_lower ho22 (below_size hb_)); have n1_ := Aside0.mk (below_step hb_ hb); clear HB; have HO335 := n0_; have HB := n1_; clear n0_ n1_; clear hb ho22) | ((with_reducible refine gate_builtin (b := .append) (xs := #[.tmp 10, .tmp 11]) rfl ?_); at_builtin; refine Kd.R_append_rows (Kd.int .u8) (w0 := w) w.heap.size rfl (.tmp 10) (.tmp 11) 23 5 (.int .u8 0) 1 rfl Tryd.underlying23 info5 rfl (by decide) (by omega) v334 y333 l0 _ _ _ (fun _ => True) (fun _ => False) rfl rfl ?aO ?aR (fun _ _ h => h) (fun _ h => h.elim) ?aF ?aB ?aS ?aL ?_; (case aR => repeat (first | exact (Kd.C_below HR0.out HB.out) | (with_reducible refine Kd.C_alloc ?_ _) | (with_reducible refine Kd.C_drewN ?_ _) | (with_reducible refine Kd.C_drew ?_))); (case aB => exact hb_); (case aF => exact (fun _ _ => trivial)); (case aO => exact (kr_ HO335)); (case aS => exact (below_size hb_)); (case aL => have := LMc3.out; omega); intro v337 w23 ho hb hg hat; rw [← Ny336.out] at ho; have n0_ := Aside0.mk (hb); have n1_ := Aside0.mk (ho); clear HB; clear HO335; have HB := n0_; have HO338 := n1_; clear n0_ n1_; clear ho hb hg hat) | ((with_reducible refine gate_callee (f := 96) rfl ?_); refine goesL_ (some 14) rfl rfl Tryd.func96 (by kernel_rfl) rfl #[.int .i64 a1, .int .i64 0, .int .i64 127] rfl ka_ ?_; (with_reducible refine (spec_l1In.calls a1 0 127 false _ A4.out).mono ?_); rintro e w' ⟨rfl, ⟨nd, rfl⟩⟩; refine ⟨_, rfl, ?_⟩) | ((with_reducible refine gate_callee (f := 121) rfl ?_); refine goesL_ (some 22) rfl rfl Tryd.func121 (by kernel_rfl) rfl #[.int .i64 a1] rfl ka_ ?_; (with_reducible refine (spec_SignPair.calls a1 t343 t344 false _ A11.out).mono ?_); rintro e w' ⟨rfl, ⟨nd, rfl⟩⟩; refine ⟨_, rfl, ?_⟩))
    go_ret2
    exact ⟨_, by first | rfl | (simp [errW_none, errW_some] <;> rfl) | (simp [*, errW_none, errW_some] <;> rfl), by (with_reducible repeat (first | apply Kd.R_alloc | apply Kd.R_drewN | apply Kd.R_drew)); exact HO338.out, hb_⟩
 ·rw [if_neg c3] at H
  exact absurd H (by simp)

/-! ### spec_l3Nine: function 124 -/
def spec_l3Nine.f (a0 : Int) : Option (Int) := if a0 = 164 then (some 8364) else (if a0 = 166 then (some 352) else (if a0 = 168 then (some 353) else (if a0 = 180 then (some 381) else (if a0 = 184 then (some 382) else (if a0 = 188 then (some 338) else (if a0 = 189 then (some 339) else (if a0 = 190 then (some 376) else (some a0))))))))
set_option maxHeartbeats 8000000 in
set_option maxRecDepth 100000 in
theorem spec_l3Nine.calls (a0 : Int) (r : Int) (w : World) (h : spec_l3Nine.f a0 = some r) :
  Calls Tryd.prog 124 #[.int .i64 a0] w fun e w' => e = .returned (.int .i64 r) ∧ Drawn0 w w' := by
 have H : (if a0 = 164 then (some 8364) else (if a0 = 166 then (some 352) else (if a0 = 168 then (some 353) else (if a0 = 180 then (some 381) else (if a0 = 184 then (some 382) else (if a0 = 188 then (some 338) else (if a0 = 189 then (some 339) else (if a0 = 190 then (some 376) else (some a0))))))))) = some r := h
 clear h
 by_cases c2 : a0 = 164
 ·rw [if_pos c2] at H
  have c2b0 : (a0 == 164) = true := beq_iff_eq.mpr c2
  have c2b1 : (a0 != 164) = false := bne_eq_false_iff_eq.mpr c2
  clear c2
  obtain rfl := Option.some.inj H
  go_enter Tryd.func124, Tryd.ntmps124
  go_wp2
  go_ret
  exact ⟨by first | rfl | (simp; done) | (simp [*]; done), dn_⟩
 ·rw [if_neg c2] at H
  have c2b0 : (a0 == 164) = false := beq_eq_false_iff_ne.mpr c2
  have c2b1 : (a0 != 164) = true := bne_iff_ne.mpr c2
  by_cases c3 : a0 = 166
  ·rw [if_pos c3] at H
   have c3b0 : (a0 == 166) = true := beq_iff_eq.mpr c3
   have c3b1 : (a0 != 166) = false := bne_eq_false_iff_eq.mpr c3
   clear c3
   obtain rfl := Option.some.inj H
   go_enter Tryd.func124, Tryd.ntmps124
   go_wp2
   go_ret
   exact ⟨by first | rfl | (simp; done) | (simp [*]; done), dn_⟩
  ·rw [if_neg c3] at H
   have c3b0 : (a0 == 166) = false := beq_eq_false_iff_ne.mpr c3
   have c3b1 : (a0 != 166) = true := bne_iff_ne.mpr c3
   by_cases c4 : a0 = 168
   ·rw [if_pos c4] at H
    have c4b0 : (a0 == 168) = true := beq_iff_eq.mpr c4
    have c4b1 : (a0 != 168) = false := bne_eq_false_iff_eq.mpr c4
    clear c4
    obtain rfl := Option.some.inj H
    go_enter Tryd.func124, Tryd.ntmps124
    go_wp2
    go_ret
    exact ⟨by first | rfl | (simp; done) | (simp [*]; done), dn_⟩
   ·rw [if_neg c4] at H
    have c4b0 : (a0 == 168) = false := beq_eq_false_iff_ne.mpr c4
    have c4b1 : (a0 != 168) = true := bne_iff_ne.mpr c4
    by_cases c5 : a0 = 180
    ·rw [if_pos c5] at H
     have c5b0 : (a0 == 180) = true := beq_iff_eq.mpr c5
     have c5b1 : (a0 != 180) = false := bne_eq_false_iff_eq.mpr c5
     clear c5
     obtain rfl := Option.some.inj H
     go_enter Tryd.func124, Tryd.ntmps124
     go_wp2
     go_ret
     exact ⟨by first | rfl | (simp; done) | (simp [*]; done), dn_⟩
    ·rw [if_neg c5] at H
     have c5b0 : (a0 == 180) = false := beq_eq_false_iff_ne.mpr c5
     have c5b1 : (a0 != 180) = true := bne_iff_ne.mpr c5
     by_cases c6 : a0 = 184
     ·rw [if_pos c6] at H
      have c6b0 : (a0 == 184) = true := beq_iff_eq.mpr c6
      have c6b1 : (a0 != 184) = false := bne_eq_false_iff_eq.mpr c6
      clear c6
      obtain rfl := Option.some.inj H
      go_enter Tryd.func124, Tryd.ntmps124
      go_wp2
      go_ret
      exact ⟨by first | rfl | (simp; done) | (simp [*]; done), dn_⟩
     ·rw [if_neg c6] at H
      have c6b0 : (a0 == 184) = false := beq_eq_false_iff_ne.mpr c6
      have c6b1 : (a0 != 184) = true := bne_iff_ne.mpr c6
      by_cases c7 : a0 = 188
      ·rw [if_pos c7] at H
       have c7b0 : (a0 == 188) = true := beq_iff_eq.mpr c7
       have c7b1 : (a0 != 188) = false := bne_eq_false_iff_eq.mpr c7
       clear c7
       obtain rfl := Option.some.inj H
       go_enter Tryd.func124, Tryd.ntmps124
       go_wp2
       go_ret
       exact ⟨by first | rfl | (simp; done) | (simp [*]; done), dn_⟩
      ·rw [if_neg c7] at H
       have c7b0 : (a0 == 188) = false := beq_eq_false_iff_ne.mpr c7
       have c7b1 : (a0 != 188) = true := bne_iff_ne.mpr c7
       by_cases c8 : a0 = 189
       ·rw [if_pos c8] at H
        have c8b0 : (a0 == 189) = true := beq_iff_eq.mpr c8
        have c8b1 : (a0 != 189) = false := bne_eq_false_iff_eq.mpr c8
        clear c8
        obtain rfl := Option.some.inj H
        go_enter Tryd.func124, Tryd.ntmps124
        go_wp2
        go_ret
        exact ⟨by first | rfl | (simp; done) | (simp [*]; done), dn_⟩
       ·rw [if_neg c8] at H
        have c8b0 : (a0 == 189) = false := beq_eq_false_iff_ne.mpr c8
        have c8b1 : (a0 != 189) = true := bne_iff_ne.mpr c8
        by_cases c9 : a0 = 190
        ·rw [if_pos c9] at H
         have c9b0 : (a0 == 190) = true := beq_iff_eq.mpr c9
         have c9b1 : (a0 != 190) = false := bne_eq_false_iff_eq.mpr c9
         clear c9
         obtain rfl := Option.some.inj H
         go_enter Tryd.func124, Tryd.ntmps124
         go_wp2
         go_ret
         exact ⟨by first | rfl | (simp; done) | (simp [*]; done), dn_⟩
        ·rw [if_neg c9] at H
         have c9b0 : (a0 == 190) = false := beq_eq_false_iff_ne.mpr c9
         have c9b1 : (a0 != 190) = true := bne_iff_ne.mpr c9
         obtain rfl := Option.some.inj H
         go_enter Tryd.func124, Tryd.ntmps124
         go_wp2
         go_ret
         exact ⟨by first | rfl | (simp; done) | (simp [*]; done), dn_⟩

/-! ### spec_l3Koi: function 125 -/
def spec_l3Koi.f (a0 : Int) : Option (Int) := (some (([1102, 1072, 1073, 1094, 1076, 1077, 1092, 1075, 1093, 1080, 1081, 1082, 1083, 1084, 1085, 1086, 1087, 1103, 1088, 1089, 1090, 1091, 1078, 1074, 1100, 1099, 1079, 1096, 1101, 1097, 1095, 1098] : List Int) : List Int)).bind fun y352 => (if a0 ≥ 224 then (if 0 ≤ (wrap64 (a0 - 224)) then (if (wrap64 (a0 - 224)) < (y352.length : Int) then (some (wrap64 ((rd y352 (wrap64 (a0 - 224))) - 32))) else (none)) else (none)) else (if a0 ≥ 192 then (if 0 ≤ (wrap64 (a0 - 192)) then (if (wrap64 (a0 - 192)) < (y352.length : Int) then (some (rd y352 (wrap64 (a0 - 192)))) else (none)) else (none)) else (if a0 = 163 then (some 1105) else (if a0 = 179 then (some 1025) else (some (-1))))))
set_option maxHeartbeats 8000000 in
set_option maxRecDepth 100000 in
theorem spec_l3Koi.calls (a0 : Int) (r : Int) (w : World) (h : spec_l3Koi.f a0 = some r) :
  Calls Tryd.prog 125 #[.int .i64 a0] w fun e w' => e = .returned (.int .i64 r) ∧ Below w.heap.size w w' := by
 have HB := Aside0.mk (Below.refl w.heap.size w)
 have H : ((some (([1102, 1072, 1073, 1094, 1076, 1077, 1092, 1075, 1093, 1080, 1081, 1082, 1083, 1084, 1085, 1086, 1087, 1103, 1088, 1089, 1090, 1091, 1078, 1074, 1100, 1099, 1079, 1096, 1101, 1097, 1095, 1098] : List Int) : List Int)).bind fun y352 => (if a0 ≥ 224 then (if 0 ≤ (wrap64 (a0 - 224)) then (if (wrap64 (a0 - 224)) < (y352.length : Int) then (some (wrap64 ((rd y352 (wrap64 (a0 - 224))) - 32))) else (none)) else (none)) else (if a0 ≥ 192 then (if 0 ≤ (wrap64 (a0 - 192)) then (if (wrap64 (a0 - 192)) < (y352.length : Int) then (some (rd y352 (wrap64 (a0 - 192)))) else (none)) else (none)) else (if a0 = 163 then (some 1105) else (if a0 = 179 then (some 1025) else (some (-1))))))) = some r := h
 clear h
 obtain ⟨y352, hy352⟩ : ∃ y_ : List Int, y_ = (([1102, 1072, 1073, 1094, 1076, 1077, 1092, 1075, 1093, 1080, 1081, 1082, 1083, 1084, 1085, 1086, 1087, 1103, 1088, 1089, 1090, 1091, 1078, 1074, 1100, 1099, 1079, 1096, 1101, 1097, 1095, 1098] : List Int)) := ⟨_, rfl⟩
 replace H : (if a0 ≥ 224 then (if 0 ≤ (wrap64 (a0 - 224)) then (if (wrap64 (a0 - 224)) < (y352.length : Int) then (some (wrap64 ((rd y352 (wrap64 (a0 - 224))) - 32))) else (none)) else (none)) else (if a0 ≥ 192 then (if 0 ≤ (wrap64 (a0 - 192)) then (if (wrap64 (a0 - 192)) < (y352.length : Int) then (some (rd y352 (wrap64 (a0 - 192)))) else (none)) else (none)) else (if a0 = 163 then (some 1105) else (if a0 = 179 then (some 1025) else (some (-1)))))) = some r := by first | (rw [hy352]; with_reducible exact H) | (have H2_ := (Option.bind_some _ _).symm.trans H; rw [hy352]; with_reducible exact H2_) | (have H2_ := (Option.bind_some _ _).symm.trans H; with_reducible exact H2_) | with_reducible exact H | (rw [hy352]; exact H) | exact H
 have Ny352 := Aside0.mk hy352
 clear hy352
 by_cases c2 : a0 ≥ 224
 ·rw [if_pos c2] at H
  have c2b0 : decide (224 ≤ a0) = true := decide_eq_true c2
  clear c2
  obtain ⟨ji3, hji3⟩ : ∃ j_ : Int, (wrap64 (a0 - 224)) = j_ := ⟨_, rfl⟩
  replace H : (if 0 ≤ (ji3) then (if (ji3) < (y352.length : Int) then (some (wrap64 ((rd y352 (ji3)) - 32))) else (none)) else (none)) = some r := by first | (rw [hji3] at H; exact H) | (simp only [hji3] at H ⊢; exact H)
  have hji3w : (IntKind.i64.wrap (a0 - 224)) = ji3 := (i64_w _).trans hji3
  by_cases c4 : 0 ≤ (ji3)
  ·rw [if_pos c4] at H
   have c4b0 : decide (0 ≤ (ji3)) = true := decide_eq_true c4
   clear c4
   by_cases c5 : (ji3) < (y352.length : Int)
   ·rw [if_pos c5] at H
    have c5b0 : decide ((ji3) < (y352.length : Int)) = true := decide_eq_true c5
    clear c5
    obtain rfl := Option.some.inj H
    go_enter Tryd.func125, Tryd.ntmps125
    go_wp2_with (first | ((with_reducible refine gate_dst (N := 4) rfl ?_); refine Kd.R_lit (Kd.int .i64) _ 3 ?hg (N := 4) ?hd (xs := ([1102, 1072, 1073, 1094, 1076, 1077, 1092, 1075, 1093, 1080, 1081, 1082, 1083, 1084, 1085, 1086, 1087, 1103, 1088, 1089, 1090, 1091, 1078, 1074, 1100, 1099, 1079, 1096, 1101, 1097, 1095, 1098] : List Int)) (inner := [.int .i64 1102, .int .i64 1072, .int .i64 1073, .int .i64 1094, .int .i64 1076, .int .i64 1077, .int .i64 1092, .int .i64 1075, .int .i64 1093, .int .i64 1080, .int .i64 1081, .int .i64 1082, .int .i64 1083, .int .i64 1084, .int .i64 1085, .int .i64 1086, .int .i64 1087, .int .i64 1103, .int .i64 1088, .int .i64 1089, .int .i64 1090, .int .i64 1091, .int .i64 1078, .int .i64 1074, .int .i64 1100, .int .i64 1099, .int .i64 1079, .int .i64 1096, .int .i64 1101, .int .i64 1097, .int .i64 1095, .int .i64 1098]) (ok := fun _ => True) (okp := fun _ => True) ?hr ?hp (fun _ hk => hk) trivial (Below.refl _ _) (Nat.le_refl _) (by simp) ?_; (case hd => rfl); (case hg => rfl); (case hr => first | (go_simp; done) | (go_simp; rfl)); (case hp => exact rp_); intro v353 w6 ho7 hb hg_ hnew_; clear hg_ hnew_; (first | rw [← Ny352.out] at ho7 | (simp only [Int.reduceToNat] at ho7; rw [← Ny352.out] at ho7)); have n0_ := Aside0.mk (Kd.R_lower ho7 (below_size hb_)); have n1_ := Aside0.mk (below_step hb_ hb); clear HB; have HO354 := n0_; have HB := n1_; clear n0_ n1_; clear hb ho7; obtain ⟨Ao8, co8, eo8⟩ := Kd.R_slice HO354.out; subst eo8; have p355 : 0 ≤ ((ji3) : Int) := of_decide_eq_true as_; have q355 : (ji3) < (y352.length : Int) := of_decide_eq_true as_; obtain ⟨ad355, e355, hx355_0⟩ := Kd.at_int (Kd.R_reads' HO354.out).2.2 (ji3) p355 q355; cases e355; replace p355 := eq_true p355; replace q355 := eq_true q355))
    go_ret
    exact ⟨by first | rfl | (simp [errW_none, errW_some] <;> rfl) | (simp only [← hji3]; first | rfl | (simp [errW_none, errW_some] <;> rfl)) | (simp [*, errW_none, errW_some] <;> rfl), hb_⟩
   ·rw [if_neg c5] at H
    exact absurd H (by simp)
  ·rw [if_neg c4] at H
   exact absurd H (by simp)
 ·rw [if_neg c2] at H
  have c2b0 : decide (224 ≤ a0) = false := decide_eq_false c2
  clear c2
  by_cases c9 : a0 ≥ 192
  ·rw [if_pos c9] at H
   have c9b0 : decide (192 ≤ a0) = true := decide_eq_true c9
   clear c9
   obtain ⟨ji10, hji10⟩ : ∃ j_ : Int, (wrap64 (a0 - 192)) = j_ := ⟨_, rfl⟩
   replace H : (if 0 ≤ (ji10) then (if (ji10) < (y352.length : Int) then (some (rd y352 (ji10))) else (none)) else (none)) = some r := by first | (rw [hji10] at H; exact H) | (simp only [hji10] at H ⊢; exact H)
   have hji10w : (IntKind.i64.wrap (a0 - 192)) = ji10 := (i64_w _).trans hji10
   by_cases c11 : 0 ≤ (ji10)
   ·rw [if_pos c11] at H
    have c11b0 : decide (0 ≤ (ji10)) = true := decide_eq_true c11
    clear c11
    by_cases c12 : (ji10) < (y352.length : Int)
    ·rw [if_pos c12] at H
     have c12b0 : decide ((ji10) < (y352.length : Int)) = true := decide_eq_true c12
     clear c12
     obtain rfl := Option.some.inj H
     go_enter Tryd.func125, Tryd.ntmps125
     go_wp2_with (first | ((with_reducible refine gate_dst (N := 4) rfl ?_); refine Kd.R_lit (Kd.int .i64) _ 3 ?hg (N := 4) ?hd (xs := ([1102, 1072, 1073, 1094, 1076, 1077, 1092, 1075, 1093, 1080, 1081, 1082, 1083, 1084, 1085, 1086, 1087, 1103, 1088, 1089, 1090, 1091, 1078, 1074, 1100, 1099, 1079, 1096, 1101, 1097, 1095, 1098] : List Int)) (inner := [.int .i64 1102, .int .i64 1072, .int .i64 1073, .int .i64 1094, .int .i64 1076, .int .i64 1077, .int .i64 1092, .int .i64 1075, .int .i64 1093, .int .i64 1080, .int .i64 1081, .int .i64 1082, .int .i64 1083, .int .i64 1084, .int .i64 1085, .int .i64 1086, .int .i64 1087, .int .i64 1103, .int .i64 1088, .int .i64 1089, .int .i64 1090, .int .i64 1091, .int .i64 1078, .int .i64 1074, .int .i64 1100, .int .i64 1099, .int .i64 1079, .int .i64 1096, .int .i64 1101, .int .i64 1097, .int .i64 1095, .int .i64 1098]) (ok := fun _ => True) (okp := fun _ => True) ?hr ?hp (fun _ hk => hk) trivial (Below.refl _ _) (Nat.le_refl _) (by simp) ?_; (case hd => rfl); (case hg => rfl); (case hr => first | (go_simp; done) | (go_simp; rfl)); (case hp => exact rp_); intro v353 w13 ho14 hb hg_ hnew_; clear hg_ hnew_; (first | rw [← Ny352.out] at ho14 | (simp only [Int.reduceToNat] at ho14; rw [← Ny352.out] at ho14)); have n0_ := Aside0.mk (Kd.R_lower ho14 (below_size hb_)); have n1_ := Aside0.mk (below_step hb_ hb); clear HB; have HO354 := n0_; have HB := n1_; clear n0_ n1_; clear hb ho14; obtain ⟨Ao15, co15, eo15⟩ := Kd.R_slice HO354.out; subst eo15; have p356 : 0 ≤ ((ji10) : Int) := of_decide_eq_true as_; have q356 : (ji10) < (y352.length : Int) := of_decide_eq_true as_; obtain ⟨ad356, e356, hx356_0⟩ := Kd.at_int (Kd.R_reads' HO354.out).2.2 (ji10) p356 q356; cases e356; replace p356 := eq_true p356; replace q356 := eq_true q356))
     go_ret
     exact ⟨by first | rfl | (simp [errW_none, errW_some] <;> rfl) | (simp only [← hji10]; first | rfl | (simp [errW_none, errW_some] <;> rfl)) | (simp [*, errW_none, errW_some] <;> rfl), hb_⟩
    ·rw [if_neg c12] at H
     exact absurd H (by simp)
   ·rw [if_neg c11] at H
    exact absurd H (by simp)
  ·rw [if_neg c9] at H
   have c9b0 : decide (192 ≤ a0) = false := decide_eq_false c9
   clear c9
   by_cases c16 : a0 = 163
   ·rw [if_pos c16] at H
    have c16b0 : (a0 == 163) = true := beq_iff_eq.mpr c16
    have c16b1 : (a0 != 163) = false := bne_eq_false_iff_eq.mpr c16
    clear c16
    obtain rfl := Option.some.inj H
    go_enter Tryd.func125, Tryd.ntmps125
    go_wp2_with (first | ((with_reducible refine gate_dst (N := 4) rfl ?_); refine Kd.R_lit (Kd.int .i64) _ 3 ?hg (N := 4) ?hd (xs := ([1102, 1072, 1073, 1094, 1076, 1077, 1092, 1075, 1093, 1080, 1081, 1082, 1083, 1084, 1085, 1086, 1087, 1103, 1088, 1089, 1090, 1091, 1078, 1074, 1100, 1099, 1079, 1096, 1101, 1097, 1095, 1098] : List Int)) (inner := [.int .i64 1102, .int .i64 1072, .int .i64 1073, .int .i64 1094, .int .i64 1076, .int .i64 1077, .int .i64 1092, .int .i64 1075, .int .i64 1093, .int .i64 1080, .int .i64 1081, .int .i64 1082, .int .i64 1083, .int .i64 1084, .int .i64 1085, .int .i64 1086, .int .i64 1087, .int .i64 1103, .int .i64 1088, .int .i64 1089, .int .i64 1090, .int .i64 1091, .int .i64 1078, .int .i64 1074, .int .i64 1100, .int .i64 1099, .int .i64 1079, .int .i64 1096, .int .i64 1101, .int .i64 1097, .int .i64 1095, .int .i64 1098]) (ok := fun _ => True) (okp := fun _ => True) ?hr ?hp (fun _ hk => hk) trivial (Below.refl _ _) (Nat.le_refl _) (by simp) ?_; (case hd => rfl); (case hg => rfl); (case hr => first | (go_simp; done) | (go_simp; rfl)); (case hp => exact rp_); intro v353 w17 ho18 hb hg_ hnew_; clear hg_ hnew_; (first | rw [← Ny352.out] at ho18 | (simp only [Int.reduceToNat] at ho18; rw [← Ny352.out] at ho18)); have n0_ := Aside0.mk (Kd.R_lower ho18 (below_size hb_)); have n1_ := Aside0.mk (below_step hb_ hb); clear HB; have HO354 := n0_; have HB := n1_; clear n0_ n1_; clear hb ho18))
    go_ret
    exact ⟨rf_, hb_⟩
   ·rw [if_neg c16] at H
    have c16b0 : (a0 == 163) = false := beq_eq_false_iff_ne.mpr c16
    have c16b1 : (a0 != 163) = true := bne_iff_ne.mpr c16
    by_cases c19 : a0 = 179
    ·rw [if_pos c19] at H
     have c19b0 : (a0 == 179) = true := beq_iff_eq.mpr c19
     have c19b1 : (a0 != 179) = false := bne_eq_false_iff_eq.mpr c19
     clear c19
     obtain rfl := Option.some.inj H
     go_enter Tryd.func125, Tryd.ntmps125
     go_wp2_with (first | ((with_reducible refine gate_dst (N := 4) rfl ?_); refine Kd.R_lit (Kd.int .i64) _ 3 ?hg (N := 4) ?hd (xs := ([1102, 1072, 1073, 1094, 1076, 1077, 1092, 1075, 1093, 1080, 1081, 1082, 1083, 1084, 1085, 1086, 1087, 1103, 1088, 1089, 1090, 1091, 1078, 1074, 1100, 1099, 1079, 1096, 1101, 1097, 1095, 1098] : List Int)) (inner := [.int .i64 1102, .int .i64 1072, .int .i64 1073, .int .i64 1094, .int .i64 1076, .int .i64 1077, .int .i64 1092, .int .i64 1075, .int .i64 1093, .int .i64 1080, .int .i64 1081, .int .i64 1082, .int .i64 1083, .int .i64 1084, .int .i64 1085, .int .i64 1086, .int .i64 1087, .int .i64 1103, .int .i64 1088, .int .i64 1089, .int .i64 1090, .int .i64 1091, .int .i64 1078, .int .i64 1074, .int .i64 1100, .int .i64 1099, .int .i64 1079, .int .i64 1096, .int .i64 1101, .int .i64 1097, .int .i64 1095, .int .i64 1098]) (ok := fun _ => True) (okp := fun _ => True) ?hr ?hp (fun _ hk => hk) trivial (Below.refl _ _) (Nat.le_refl _) (by simp) ?_; (case hd => rfl); (case hg => rfl); (case hr => first | (go_simp; done) | (go_simp; rfl)); (case hp => exact rp_); intro v353 w20 ho21 hb hg_ hnew_; clear hg_ hnew_; (first | rw [← Ny352.out] at ho21 | (simp only [Int.reduceToNat] at ho21; rw [← Ny352.out] at ho21)); have n0_ := Aside0.mk (Kd.R_lower ho21 (below_size hb_)); have n1_ := Aside0.mk (below_step hb_ hb); clear HB; have HO354 := n0_; have HB := n1_; clear n0_ n1_; clear hb ho21))
     go_ret
     exact ⟨rf_, hb_⟩
    ·rw [if_neg c19] at H
     have c19b0 : (a0 == 179) = false := beq_eq_false_iff_ne.mpr c19
     have c19b1 : (a0 != 179) = true := bne_iff_ne.mpr c19
     obtain rfl := Option.some.inj H
     go_enter Tryd.func125, Tryd.ntmps125
     go_wp2_with (first | ((with_reducible refine gate_dst (N := 4) rfl ?_); refine Kd.R_lit (Kd.int .i64) _ 3 ?hg (N := 4) ?hd (xs := ([1102, 1072, 1073, 1094, 1076, 1077, 1092, 1075, 1093, 1080, 1081, 1082, 1083, 1084, 1085, 1086, 1087, 1103, 1088, 1089, 1090, 1091, 1078, 1074, 1100, 1099, 1079, 1096, 1101, 1097, 1095, 1098] : List Int)) (inner := [.int .i64 1102, .int .i64 1072, .int .i64 1073, .int .i64 1094, .int .i64 1076, .int .i64 1077, .int .i64 1092, .int .i64 1075, .int .i64 1093, .int .i64 1080, .int .i64 1081, .int .i64 1082, .int .i64 1083, .int .i64 1084, .int .i64 1085, .int .i64 1086, .int .i64 1087, .int .i64 1103, .int .i64 1088, .int .i64 1089, .int .i64 1090, .int .i64 1091, .int .i64 1078, .int .i64 1074, .int .i64 1100, .int .i64 1099, .int .i64 1079, .int .i64 1096, .int .i64 1101, .int .i64 1097, .int .i64 1095, .int .i64 1098]) (ok := fun _ => True) (okp := fun _ => True) ?hr ?hp (fun _ hk => hk) trivial (Below.refl _ _) (Nat.le_refl _) (by simp) ?_; (case hd => rfl); (case hg => rfl); (case hr => first | (go_simp; done) | (go_simp; rfl)); (case hp => exact rp_); intro v353 w22 ho23 hb hg_ hnew_; clear hg_ hnew_; (first | rw [← Ny352.out] at ho23 | (simp only [Int.reduceToNat] at ho23; rw [← Ny352.out] at ho23)); have n0_ := Aside0.mk (Kd.R_lower ho23 (below_size hb_)); have n1_ := Aside0.mk (below_step hb_ hb); clear HB; have HO354 := n0_; have HB := n1_; clear n0_ n1_; clear hb ho23))
     go_ret
     exact ⟨rf_, hb_⟩

/-! ### spec_l3Win: function 126 -/
def spec_l3Win.f (a0 : Int) : Option (Int) := (some (([8364, (-1), 8218, 402, 8222, 8230, 8224, 8225, 710, 8240, 352, 8249, 338, (-1), 381, (-1), (-1), 8216, 8217, 8220, 8221, 8226, 8211, 8212, 732, 8482, 353, 8250, 339, (-1), 382, 376] : List Int) : List Int)).bind fun y357 => (if a0 ≥ 160 then (some a0) else (if 0 ≤ (wrap64 (a0 - 128)) then (if (wrap64 (a0 - 128)) < (y357.length : Int) then (some (rd y357 (wrap64 (a0 - 128)))) else (none)) else (none)))
set_option maxHeartbeats 8000000 in
set_option maxRecDepth 100000 in
theorem spec_l3Win.calls (a0 : Int) (r : Int) (w : World) (h : spec_l3Win.f a0 = some r) :
  Calls Tryd.prog 126 #[.int .i64 a0] w fun e w' => e = .returned (.int .i64 r) ∧ Below w.heap.size w w' := by
 have HB := Aside0.mk (Below.refl w.heap.size w)
 have H : ((some (([8364, (-1), 8218, 402, 8222, 8230, 8224, 8225, 710, 8240, 352, 8249, 338, (-1), 381, (-1), (-1), 8216, 8217, 8220, 8221, 8226, 8211, 8212, 732, 8482, 353, 8250, 339, (-1), 382, 376] : List Int) : List Int)).bind fun y357 => (if a0 ≥ 160 then (some a0) else (if 0 ≤ (wrap64 (a0 - 128)) then (if (wrap64 (a0 - 128)) < (y357.length : Int) then (some (rd y357 (wrap64 (a0 - 128)))) else (none)) else (none)))) = some r := h
 clear h
 obtain ⟨y357, hy357⟩ : ∃ y_ : List Int, y_ = (([8364, (-1), 8218, 402, 8222, 8230, 8224, 8225, 710, 8240, 352, 8249, 338, (-1), 381, (-1), (-1), 8216, 8217, 8220, 8221, 8226, 8211, 8212, 732, 8482, 353, 8250, 339, (-1), 382, 376] : List Int)) := ⟨_, rfl⟩
 replace H : (if a0 ≥ 160 then (some a0) else (if 0 ≤ (wrap64 (a0 - 128)) then (if (wrap64 (a0 - 128)) < (y357.length : Int) then (some (rd y357 (wrap64 (a0 - 128)))) else (none)) else (none))) = some r := by first | (rw [hy357]; with_reducible exact H) | (have H2_ := (Option.bind_some _ _).symm.trans H; rw [hy357]; with_reducible exact H2_) | (have H2_ := (Option.bind_some _ _).symm.trans H; with_reducible exact H2_) | with_reducible exact H | (rw [hy357]; exact H) | exact H
 have Ny357 := Aside0.mk hy357
 clear hy357
 by_cases c2 : a0 ≥ 160
 ·rw [if_pos c2] at H
  have c2b0 : decide (160 ≤ a0) = true := decide_eq_true c2
  clear c2
  obtain rfl := Option.some.inj H
  go_enter Tryd.func126, Tryd.ntmps126
  go_wp2_with (first | ((with_reducible refine gate_dst (N := 4) rfl ?_); refine Kd.R_lit (Kd.int .i64) _ 3 ?hg (N := 4) ?hd (xs := ([8364, (-1), 8218, 402, 8222, 8230, 8224, 8225, 710, 8240, 352, 8249, 338, (-1), 381, (-1), (-1), 8216, 8217, 8220, 8221, 8226, 8211, 8212, 732, 8482, 353, 8250, 339, (-1), 382, 376] : List Int)) (inner := [.int .i64 8364, .int .i64 (-1), .int .i64 8218, .int .i64 402, .int .i64 8222, .int .i64 8230, .int .i64 8224, .int .i64 8225, .int .i64 710, .int .i64 8240, .int .i64 352, .int .i64 8249, .int .i64 338, .int .i64 (-1), .int .i64 381, .int .i64 (-1), .int .i64 (-1), .int .i64 8216, .int .i64 8217, .int .i64 8220, .int .i64 8221, .int .i64 8226, .int .i64 8211, .int .i64 8212, .int .i64 732, .int .i64 8482, .int .i64 353, .int .i64 8250, .int .i64 339, .int .i64 (-1), .int .i64 382, .int .i64 376]) (ok := fun _ => True) (okp := fun _ => True) ?hr ?hp (fun _ hk => hk) trivial (Below.refl _ _) (Nat.le_refl _) (by simp) ?_; (case hd => rfl); (case hg => rfl); (case hr => first | (go_simp; done) | (go_simp; rfl)); (case hp => exact rp_); intro v358 w3 ho4 hb hg_ hnew_; clear hg_ hnew_; (first | rw [← Ny357.out] at ho4 | (simp only [Int.reduceToNat] at ho4; rw [← Ny357.out] at ho4)); have n0_ := Aside0.mk (Kd.R_lower ho4 (below_size hb_)); have n1_ := Aside0.mk (below_step hb_ hb); clear HB; have HO359 := n0_; have HB := n1_; clear n0_ n1_; clear hb ho4))
  go_ret
  exact ⟨rf_, hb_⟩
 ·rw [if_neg c2] at H
  have c2b0 : decide (160 ≤ a0) = false := decide_eq_false c2
  clear c2
  obtain ⟨ji5, hji5⟩ : ∃ j_ : Int, (wrap64 (a0 - 128)) = j_ := ⟨_, rfl⟩
  replace H : (if 0 ≤ (ji5) then (if (ji5) < (y357.length : Int) then (some (rd y357 (ji5))) else (none)) else (none)) = some r := by first | (rw [hji5] at H; exact H) | (simp only [hji5] at H ⊢; exact H)
  have hji5w : (IntKind.i64.wrap (a0 - 128)) = ji5 := (i64_w _).trans hji5
  by_cases c6 : 0 ≤ (ji5)
  ·rw [if_pos c6] at H
   have c6b0 : decide (0 ≤ (ji5)) = true := decide_eq_true c6
   clear c6
   by_cases c7 : (ji5) < (y357.length : Int)
   ·rw [if_pos c7] at H
    have c7b0 : decide ((ji5) < (y357.length : Int)) = true := decide_eq_true c7
    clear c7
    obtain rfl := Option.some.inj H
    go_enter Tryd.func126, Tryd.ntmps126
    go_wp2_with (first | ((with_reducible refine gate_dst (N := 4) rfl ?_); refine Kd.R_lit (Kd.int .i64) _ 3 ?hg (N := 4) ?hd (xs := ([8364, (-1), 8218, 402, 8222, 8230, 8224, 8225, 710, 8240, 352, 8249, 338, (-1), 381, (-1), (-1), 8216, 8217, 8220, 8221, 8226, 8211, 8212, 732, 8482, 353, 8250, 339, (-1), 382, 376] : List Int)) (inner := [.int .i64 8364, .int .i64 (-1), .int .i64 8218, .int .i64 402, .int .i64 8222, .int .i64 8230, .int .i64 8224, .int .i64 8225, .int .i64 710, .int .i64 8240, .int .i64 352, .int .i64 8249, .int .i64 338, .int .i64 (-1), .int .i64 381, .int .i64 (-1), .int .i64 (-1), .int .i64 8216, .int .i64 8217, .int .i64 8220, .int .i64 8221, .int .i64 8226, .int .i64 8211, .int .i64 8212, .int .i64 732, .int .i64 8482, .int .i64 353, .int .i64 8250, .int .i64 339, .int .i64 (-1), .int .i64 382, .int .i64 376]) (ok := fun _ => True) (okp := fun _ => True) ?hr ?hp (fun _ hk => hk) trivial (Below.refl _ _) (Nat.le_refl _) (by simp) ?_; (case hd => rfl); (case hg => rfl); (case hr => first | (go_simp; done) | (go_simp; rfl)); (case hp => exact rp_); intro v358 w8 ho9 hb hg_ hnew_; clear hg_ hnew_; (first | rw [← Ny357.out] at ho9 | (simp only [Int.reduceToNat] at ho9; rw [← Ny357.out] at ho9)); have n0_ := Aside0.mk (Kd.R_lower ho9 (below_size hb_)); have n1_ := Aside0.mk (below_step hb_ hb); clear HB; have HO359 := n0_; have HB := n1_; clear n0_ n1_; clear hb ho9; obtain ⟨Ao10, co10, eo10⟩ := Kd.R_slice HO359.out; subst eo10; have p360 : 0 ≤ ((ji5) : Int) := of_decide_eq_true as_; have q360 : (ji5) < (y357.length : Int) := of_decide_eq_true as_; obtain ⟨ad360, e360, hx360_0⟩ := Kd.at_int (Kd.R_reads' HO359.out).2.2 (ji5) p360 q360; cases e360; replace p360 := eq_true p360; replace q360 := eq_true q360))
    go_ret
    exact ⟨by first | rfl | (simp [errW_none, errW_some] <;> rfl) | (simp only [← hji5]; first | rfl | (simp [errW_none, errW_some] <;> rfl)) | (simp [*, errW_none, errW_some] <;> rfl), hb_⟩
   ·rw [if_neg c7] at H
    exact absurd H (by simp)
  ·rw [if_neg c6] at H
   exact absurd H (by simp)

/-! ### spec_ByteSign: function 105 -/
def spec_ByteSign.j0 : Nat → Int → Int → Bool → Option (Int × Bool)
 | 0, _, _, _ => none
 | k + 1, x0, x1, x14 => if x14 = true then (some (0, false)) else (if x1 ≥ 128 then (if x0 = 2 then ((spec_l3Nine.f x1).bind fun t363 => (if t363 < 0 then (some (0, false)) else (some (t363, true)))) else (if x0 = 3 then ((spec_l3Koi.f x1).bind fun t364 => (if t364 < 0 then (some (0, false)) else (some (t364, true)))) else (if x0 = 4 then ((spec_l3Win.f x1).bind fun t365 => (if t365 < 0 then (some (0, false)) else (some (t365, true)))) else (if x1 < 0 then (some (0, false)) else (some (x1, true)))))) else (if x1 < 0 then (some (0, false)) else (some (x1, true))))
def spec_ByteSign.f (k : Nat) (a0 : Int) (a1 : Int) : Option (Int × Bool) := (spec_l1In.f a0 1 4).bind fun t361 => (if t361 = true then ((spec_l1In.f a1 0 255).bind fun t362 => (spec_ByteSign.j0 k a0 a1 (!t362))) else (spec_ByteSign.j0 k a0 a1 true))
theorem spec_ByteSign.mono_l : ∀ k, (∀ y0 y1 y2, LeO (spec_ByteSign.j0 k y0 y1 y2) (spec_ByteSign.j0 (k + 1) y0 y1 y2))
 | 0 => fun _ _ _ r h => by simp [spec_ByteSign.j0] at h
 | k + 1 => by
  have ih0 := spec_ByteSign.mono_l k
  ·intro y0 y1 y2
   unfold spec_ByteSign.j0
   repeat' first
   | (with_reducible exact ih0 _ _ _)
   | (with_reducible exact LeO.refl _)
   | (with_reducible exact LeO.none _)
   | (with_reducible refine LeO.ite ?_ ?_)
   | (with_reducible refine LeO.bind ?_ (fun _ => ?_))
   | exact ih0 _ _ _
   | exact LeO.none _
   | refine LeO.ite ?_ ?_
   | refine LeO.bind ?_ (fun _ => ?_)
theorem spec_ByteSign.mono : ∀ a0 a1 k, LeO (spec_ByteSign.f k a0 a1) (spec_ByteSign.f (k + 1) a0 a1) := by
 intro a0 a1 k
 have ih0 := spec_ByteSign.mono_l k
 unfold spec_ByteSign.f
 repeat' first
   | (with_reducible exact ih0 _ _ _)
   | (with_reducible exact LeO.refl _)
   | (with_reducible exact LeO.none _)
   | (with_reducible refine LeO.ite ?_ ?_)
   | (with_reducible refine LeO.bind ?_ (fun _ => ?_))
   | exact ih0 _ _ _
   | exact LeO.none _
   | refine LeO.ite ?_ ?_
   | refine LeO.bind ?_ (fun _ => ?_)
set_option maxHeartbeats 8000000 in
set_option maxRecDepth 100000 in
theorem spec_ByteSign.calls (k : Nat) (a0 : Int) (a1 : Int) (r1 : Int) (r2 : Bool) (w : World) (h : spec_ByteSign.f k a0 a1 = some (r1, r2)) :
  Calls Tryd.prog 105 #[.int .i64 a0, .int .i64 a1] w fun e w' => e = .returned (.tuple #[.int .i64 r1, .bool r2]) ∧ Below w.heap.size w w' := by
 have HB := Aside0.mk (Below.refl w.heap.size w)
 have H : ((spec_l1In.f a0 1 4).bind fun t361 => (if t361 = true then ((spec_l1In.f a1 0 255).bind fun t362 => (spec_ByteSign.j0 k a0 a1 (!t362))) else (spec_ByteSign.j0 k a0 a1 true))) = some (r1, r2) := h
 clear h
 have HC3 := Aside0.mk H
 clear H
 go_enter Tryd.func105, Tryd.ntmps105
 go_upto_region 1 with (fail)
 go_cut [14] (fun v14 wc => ∃ (kq : Nat) (x14_2 : Bool), v14 = .bool x14_2 ∧ Aside0 (spec_ByteSign.j0 kq a0 a1 x14_2 = some (r1, r2)) ∧ Aside0 (kq ≤ k) ∧ Aside0 (Below w.heap.size w wc))
 case first =>
  have H := HC3.out
  clear HC3
  replace H := Option.bind_eq_some_iff.mp H
  obtain ⟨t361, A40, H⟩ := H
  try dsimp only at H
  have A4 := Aside0.mk A40
  clear A40
  by_cases c5 : t361 = true
  ·subst c5
   rw [if_pos rfl] at H
   replace H := Option.bind_eq_some_iff.mp H
   obtain ⟨t362, A60, H⟩ := H
   try dsimp only at H
   have A6 := Aside0.mk A60
   clear A60
   have H' := Aside0.mk H
   clear H
   go_wp2_with (first | ((with_reducible refine gate_callee (f := 96) rfl ?_); refine goesL_ (some 8) rfl rfl Tryd.func96 (by kernel_rfl) rfl #[.int .i64 a0, .int .i64 1, .int .i64 4] rfl ka_ ?_; (with_reducible refine (spec_l1In.calls a0 1 4 true _ A4.out).mono ?_); rintro e w' ⟨rfl, ⟨nd, rfl⟩⟩; refine ⟨_, rfl, ?_⟩) | (go_at_call 96; (with_reducible refine (spec_l1In.calls a1 0 255 t362 _ A6.out).mono ?_); rintro e w' ⟨rfl, ⟨nd, rfl⟩⟩))
   go_meet
   case rel => exact ⟨_, (!t362), (by first | rfl | (simp; done) | (simp [*]; done)), H', ⟨by first | omega | exact Nat.le_refl _⟩, ⟨by repeat (first | (with_reducible first | exact HB.out | apply below_alloc | apply pw_below_drewN | apply below_drew1) | exact HB.out)⟩⟩
  ·replace c5 := Bool.eq_false_iff.mpr c5
   subst c5
   rw [if_neg (show ¬ (false = true) by decide)] at H
   have H' := Aside0.mk H
   clear H
   go_wp2_with (first | ((with_reducible refine gate_callee (f := 96) rfl ?_); refine goesL_ (some 8) rfl rfl Tryd.func96 (by kernel_rfl) rfl #[.int .i64 a0, .int .i64 1, .int .i64 4] rfl ka_ ?_; (with_reducible refine (spec_l1In.calls a0 1 4 false _ A4.out).mono ?_); rintro e w' ⟨rfl, ⟨nd, rfl⟩⟩; refine ⟨_, rfl, ?_⟩))
   go_meet
   case rel => exact ⟨_, (true), (by first | rfl | (simp; done) | (simp [*]; done)), H', ⟨by first | omega | exact Nat.le_refl _⟩, ⟨by repeat (first | (with_reducible first | exact HB.out | apply below_alloc | apply pw_below_drewN | apply below_drew1) | exact HB.out)⟩⟩
 case rest =>
  clear HC3
  try clear c1
  try clear p2
  try clear c5
  obtain ⟨kq, x14_2, rfl, HA, HJ2, HB⟩ := hcut
  cases kq with
  | zero => exact absurd HA.out (by simp [spec_ByteSign.j0])
  | succ kj2 =>
   have H := HA.out
   clear HA
   simp only [spec_ByteSign.j0] at H
   by_cases c7 : x14_2 = true
   ·subst c7
    rw [if_pos rfl] at H
    simp only [Option.some.injEq, Prod.mk.injEq] at H
    obtain ⟨rfl, rfl⟩ := H
    go_wp2
    go_ret2
    exact ⟨rf_, hb_⟩
   ·replace c7 := Bool.eq_false_iff.mpr c7
    subst c7
    rw [if_neg (show ¬ (false = true) by decide)] at H
    by_cases c8 : a1 ≥ 128
    ·rw [if_pos c8] at H
     have c8b0 : decide (128 ≤ a1) = true := decide_eq_true c8
     clear c8
     by_cases c9 : a0 = 2
     ·rw [if_pos c9] at H
      have c9b0 : (a0 == 2) = true := beq_iff_eq.mpr c9
      have c9b1 : (a0 != 2) = false := bne_eq_false_iff_eq.mpr c9
      clear c9
      replace H := Option.bind_eq_some_iff.mp H
      obtain ⟨t363, A100, H⟩ := H
      try dsimp only at H
      have A10 := Aside0.mk A100
      clear A100
      by_cases c11 : t363 < 0
      ·rw [if_pos c11] at H
       have c11b0 : decide (t363 < 0) = true := decide_eq_true c11
       clear c11
       simp only [Option.some.injEq, Prod.mk.injEq] at H
       obtain ⟨rfl, rfl⟩ := H
       go_wp2_with (first | ((with_reducible refine gate_callee (f := 124) rfl ?_); refine goesL_ (some 22) rfl rfl Tryd.func124 (by kernel_rfl) rfl #[.int .i64 a1] rfl ka_ ?_; (with_reducible refine (spec_l3Nine.calls a1 t363 _ A10.out).mono ?_); rintro e w' ⟨rfl, ⟨nd, rfl⟩⟩; refine ⟨_, rfl, ?_⟩))
       go_ret2
       exact ⟨rf_, hb_⟩
      ·rw [if_neg c11] at H
       have c11b0 : decide (t363 < 0) = false := decide_eq_false c11
       clear c11
       simp only [Option.some.injEq, Prod.mk.injEq] at H
       obtain ⟨rfl, rfl⟩ := H
       go_wp2_with (first | ((with_reducible refine gate_callee (f := 124) rfl ?_); refine goesL_ (some 22) rfl rfl Tryd.func124 (by kernel_rfl) rfl #[.int .i64 a1] rfl ka_ ?_; (with_reducible refine (spec_l3Nine.calls a1 t363 _ A10.out).mono ?_); rintro e w' ⟨rfl, ⟨nd, rfl⟩⟩; refine ⟨_, rfl, ?_⟩))
       go_ret2
       exact ⟨rf_, hb_⟩
     ·rw [if_neg c9] at H
      have c9b0 : (a0 == 2) = false := beq_eq_false_iff_ne.mpr c9
      have c9b1 : (a0 != 2) = true := bne_iff_ne.mpr c9
      by_cases c12 : a0 = 3
      ·rw [if_pos c12] at H
       have c12b0 : (a0 == 3) = true := beq_iff_eq.mpr c12
       have c12b1 : (a0 != 3) = false := bne_eq_false_iff_eq.mpr c12
       clear c12
       replace H := Option.bind_eq_some_iff.mp H
       obtain ⟨t364, A130, H⟩ := H
       try dsimp only at H
       have A13 := Aside0.mk A130
       clear A130
       by_cases c14 : t364 < 0
       ·rw [if_pos c14] at H
        have c14b0 : decide (t364 < 0) = true := decide_eq_true c14
        clear c14
        simp only [Option.some.injEq, Prod.mk.injEq] at H
        obtain ⟨rfl, rfl⟩ := H
        go_wp2_with (first | ((with_reducible refine gate_callee (f := 125) rfl ?_); refine goesL_ (some 26) rfl rfl Tryd.func125 (by kernel_rfl) rfl #[.int .i64 a1] rfl ka_ ?_; (with_reducible refine (spec_l3Koi.calls a1 t364 _ A13.out).mono ?_); rintro e w15 ⟨rfl, hb⟩; refine ⟨_, rfl, ?_⟩; have n0_ := Aside0.mk (below_step hb_ hb); clear HB; have HB := n0_; clear n0_; try clear hb))
        go_ret2
        exact ⟨rf_, hb_⟩
       ·rw [if_neg c14] at H
        have c14b0 : decide (t364 < 0) = false := decide_eq_false c14
        clear c14
        simp only [Option.some.injEq, Prod.mk.injEq] at H
        obtain ⟨rfl, rfl⟩ := H
        go_wp2_with (first | ((with_reducible refine gate_callee (f := 125) rfl ?_); refine goesL_ (some 26) rfl rfl Tryd.func125 (by kernel_rfl) rfl #[.int .i64 a1] rfl ka_ ?_; (with_reducible refine (spec_l3Koi.calls a1 t364 _ A13.out).mono ?_); rintro e w16 ⟨rfl, hb⟩; refine ⟨_, rfl, ?_⟩; have n0_ := Aside0.mk (below_step hb_ hb); clear HB; have HB := n0_; clear n0_; try clear hb))
        go_ret2
        exact ⟨rf_, hb_⟩
      ·rw [if_neg c12] at H
       have c12b0 : (a0 == 3) = false := beq_eq_false_iff_ne.mpr c12
       have c12b1 : (a0 != 3) = true := bne_iff_ne.mpr c12
       by_cases c17 : a0 = 4
       ·rw [if_pos c17] at H
        have c17b0 : (a0 == 4) = true := beq_iff_eq.mpr c17
        have c17b1 : (a0 != 4) = false := bne_eq_false_iff_eq.mpr c17
        clear c17
        replace H := Option.bind_eq_some_iff.mp H
        obtain ⟨t365, A180, H⟩ := H
        try dsimp only at H
        have A18 := Aside0.mk A180
        clear A180
        by_cases c19 : t365 < 0
        ·rw [if_pos c19] at H
         have c19b0 : decide (t365 < 0) = true := decide_eq_true c19
         clear c19
         simp only [Option.some.injEq, Prod.mk.injEq] at H
         obtain ⟨rfl, rfl⟩ := H
         go_wp2_with (first | ((with_reducible refine gate_callee (f := 126) rfl ?_); refine goesL_ (some 30) rfl rfl Tryd.func126 (by kernel_rfl) rfl #[.int .i64 a1] rfl ka_ ?_; (with_reducible refine (spec_l3Win.calls a1 t365 _ A18.out).mono ?_); rintro e w20 ⟨rfl, hb⟩; refine ⟨_, rfl, ?_⟩; have n0_ := Aside0.mk (below_step hb_ hb); clear HB; have HB := n0_; clear n0_; try clear hb))
         go_ret2
         exact ⟨rf_, hb_⟩
        ·rw [if_neg c19] at H
         have c19b0 : decide (t365 < 0) = false := decide_eq_false c19
         clear c19
         simp only [Option.some.injEq, Prod.mk.injEq] at H
         obtain ⟨rfl, rfl⟩ := H
         go_wp2_with (first | ((with_reducible refine gate_callee (f := 126) rfl ?_); refine goesL_ (some 30) rfl rfl Tryd.func126 (by kernel_rfl) rfl #[.int .i64 a1] rfl ka_ ?_; (with_reducible refine (spec_l3Win.calls a1 t365 _ A18.out).mono ?_); rintro e w21 ⟨rfl, hb⟩; refine ⟨_, rfl, ?_⟩; have n0_ := Aside0.mk (below_step hb_ hb); clear HB; have HB := n0_; clear n0_; try clear hb))
         go_ret2
         exact ⟨rf_, hb_⟩
       ·rw [if_neg c17] at H
        have c17b0 : (a0 == 4) = false := beq_eq_false_iff_ne.mpr c17
        have c17b1 : (a0 != 4) = true := bne_iff_ne.mpr c17
        by_cases c22 : a1 < 0
        ·rw [if_pos c22] at H
         have c22b0 : decide (a1 < 0) = true := decide_eq_true c22
         clear c22
         simp only [Option.some.injEq, Prod.mk.injEq] at H
         obtain ⟨rfl, rfl⟩ := H
         go_wp2
         go_ret2
         exact ⟨rf_, hb_⟩
        ·rw [if_neg c22] at H
         have c22b0 : decide (a1 < 0) = false := decide_eq_false c22
         clear c22
         simp only [Option.some.injEq, Prod.mk.injEq] at H
         obtain ⟨rfl, rfl⟩ := H
         go_wp2
         go_ret2
         exact ⟨rf_, hb_⟩
    ·rw [if_neg c8] at H
     have c8b0 : decide (128 ≤ a1) = false := decide_eq_false c8
     clear c8
     by_cases c23 : a1 < 0
     ·rw [if_pos c23] at H
      have c23b0 : decide (a1 < 0) = true := decide_eq_true c23
      clear c23
      simp only [Option.some.injEq, Prod.mk.injEq] at H
      obtain ⟨rfl, rfl⟩ := H
      go_wp2
      go_ret2
      exact ⟨rf_, hb_⟩
     ·rw [if_neg c23] at H
      have c23b0 : decide (a1 < 0) = false := decide_eq_false c23
      clear c23
      simp only [Option.some.injEq, Prod.mk.injEq] at H
      obtain ⟨rfl, rfl⟩ := H
      go_wp2
      go_ret2
      exact ⟨rf_, hb_⟩

end Go.Proofs.YtpmimhbnmjffpaaDoor.QFnStreams
