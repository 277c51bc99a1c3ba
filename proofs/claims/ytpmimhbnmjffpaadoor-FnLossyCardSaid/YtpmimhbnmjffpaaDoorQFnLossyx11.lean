/- The functions that a law reaches, each as a plain function, and that Go comes to just its answer: written by the session's program pp.py (the kit's print, with a few rows turned). -/
import Derived.Test.YtpmimhbnmjffpaaDoorQFnLossyx10
namespace Go.Proofs.YtpmimhbnmjffpaaDoor.QFnLossy
open Go.RowKit Go.Proofs.YtpmimhbnmjffpaaDoorW.PrintWords Go.Proofs.YtpmimhbnmjffpaaDoorW.PrintLast Go.Proofs.YtpmimhbnmjffpaaDoorW.PrintMore Go.Proofs.YtpmimhbnmjffpaaDoor.Xw Go.Proofs.YtpmimhbnmjffpaaDoor.Xs Go.Proofs.YtpmimhbnmjffpaaDoor.Ext
attribute [local go_sem] max2_int min2_int max_two min_two max_three min_three max_four min_four   -- for this text's walks alone
set_option linter.unusedVariables false
set_option linter.unusedSimpArgs false

set_option maxHeartbeats 8000000 in
set_option maxRecDepth 100000 in
/-- Where putIn tells 'no', what was handed to it stands as it stood. -/
theorem impl_putIn.callsNo (k : Nat) (a0 : Int) (A1 : Option Addr) (c1 : Nat) (l1 : List Int) (a2 : Int) (r1 : List Int) (w : World) (hr : Kd.C (Kd.int .u8) w A1 l1.length l1) (hc : l1.length ≤ c1) (h : impl_putIn.f k a0 l1 a2 = some (r1, false)) :
  Calls Tryd.prog 74 #[.int .i64 a0, .slice A1 l1.length c1, .int .i64 a2] w fun e w' => ∃ v0_ : Value, e = .returned (.tuple #[v0_, .bool false]) ∧ Below w.heap.size w w' := by
 have HB := Aside0.mk (Below.refl w.heap.size w)
 unfold impl_putIn.f at h
 by_cases c4 : a0 = 0
 ·rw [if_pos c4] at h
  obtain ⟨t, _, h⟩ := Option.bind_eq_some_iff.mp h
  simp at h
 ·rw [if_neg c4] at h
  have c4b0 : (a0 == 0) = false := beq_eq_false_iff_ne.mpr c4
  have c4b1 : (a0 != 0) = true := bne_iff_ne.mpr c4
  by_cases c8 : a0 = 5
  ·rw [if_pos c8] at h
   have c8b0 : (a0 == 5) = true := beq_iff_eq.mpr c8
   have c8b1 : (a0 != 5) = false := bne_eq_false_iff_eq.mpr c8
   clear c8
   obtain ⟨⟨t351, t354⟩, A9, h⟩ := Option.bind_eq_some_iff.mp h
   simp only [Option.some.injEq, Prod.mk.injEq] at h
   obtain ⟨rfl, rfl⟩ := h
   go_enter Tryd.func74, Tryd.ntmps74
   go_wp2_with (first | ((with_reducible refine gate_callee (f := 102) rfl ?_); refine goesL_ (some 20) rfl rfl Tryd.func102 (by kernel_rfl) rfl #[.slice A1 l1.length c1, .int .i64 a2] rfl ka_ ?_; (with_reducible refine (impl_PutEuc.calls k (fun _ => True) _ _ l1 a2 t351 false _ ?side1 A9).mono ?_); (case side1 => exact Kd.V_mk hc (Kd.F_mono (Kd.C_F (Kd.heap_int .u8) (by repeat (first | (with_reducible exact hr) | (with_reducible refine Kd.C_alloc ?_ _) | (with_reducible refine Kd.C_drewN ?_ _) | (with_reducible refine Kd.C_drew ?_) | exact hr))) (fun _ _ => trivial))); rintro e w11 ⟨v352, rfl, ho0, hb⟩; refine ⟨_, rfl, ?_⟩; have n0_ := Aside0.mk (below_step hb_ hb); clear HB; have HB := n0_; clear n0_; clear hb ho0))
   go_ret2
   exact ⟨_, rfl, hb_⟩
  ·rw [if_neg c8] at h
   have c8b0 : (a0 == 5) = false := beq_eq_false_iff_ne.mpr c8
   have c8b1 : (a0 != 5) = true := bne_iff_ne.mpr c8
   obtain ⟨⟨t355, t356⟩, A12, h⟩ := Option.bind_eq_some_iff.mp h
   by_cases c13 : t356 = true
   ·subst c13
    by_cases c14 : l1.length < 140737488355328
    ·simp [c14] at h
    ·simp [c14] at h
   ·replace c13 := Bool.eq_false_iff.mpr c13
    subst c13
    clear h
    go_enter Tryd.func74, Tryd.ntmps74
    go_wp2_with (first | ((with_reducible refine gate_callee (f := 103) rfl ?_); refine goesL_ (some 26) rfl rfl Tryd.func103 (by kernel_rfl) rfl #[.int .i64 a0, .int .i64 a2] rfl ka_ ?_; (with_reducible refine (impl_SignByte.calls k a0 a2 t355 false _ A12).mono ?_); rintro e w17 ⟨rfl, hb⟩; refine ⟨_, rfl, ?_⟩; have n0_ := Aside0.mk (below_step hb_ hb); clear HB; have HB := n0_; clear n0_; clear hb))
    go_ret2
    exact ⟨_, rfl, hb_⟩
/-! ### impl_EncodeLossy: function 24 -/
mutual
def impl_EncodeLossy.j0 : Nat → Int → List Int → Bool → Option (List Int × Int)
 | 0, _, _, _ => none
 | k + 1, x0, x6, x25 => if x25 = true then (some (([] : List Int), 0)) else (impl_EncodeLossy.l0 k x0 (([] : List Int)) 0 x6 (x6.length : Int) 0)
def impl_EncodeLossy.l0 : Nat → Int → List Int → Int → List Int → Int → Int → Option (List Int × Int)
 | 0, _, _, _, _, _, _ => none
 | k + 1, x0, x8, x9, x27, x28, x29 => if x29 < x28 then (if 0 ≤ x29 then (if x29 < (x27.length : Int) then ((impl_putIn.f k x0 x8 (rd x27 x29)).bind fun bt277 => (if bt277.2 = true then (impl_EncodeLossy.l0 k x0 bt277.1 x9 x27 x28 (wrap64 (x29 + 1))) else (if x8.length < 140737488355328 then (impl_EncodeLossy.l0 k x0 (x8 ++ [63]) (wrap64 (x9 + 1)) x27 x28 (wrap64 (x29 + 1))) else (none)))) else (none)) else (none)) else (some (x8, x9))
end
def impl_EncodeLossy.f (k : Nat) (a0 : Int) (a1 : ByteArray) : Option (List Int × Int) := (impl_Signs.f a1).bind fun bt268 => ((impl_isSet.f a0).bind fun t272 => (if t272 = true then (impl_EncodeLossy.j0 k a0 bt268.1 (!bt268.2)) else (impl_EncodeLossy.j0 k a0 bt268.1 true)))
theorem impl_EncodeLossy.mono_l : ∀ k, (∀ y0 y1 y2, LeO (impl_EncodeLossy.j0 k y0 y1 y2) (impl_EncodeLossy.j0 (k + 1) y0 y1 y2)) ∧ (∀ y0 y1 y2 y3 y4 y5, LeO (impl_EncodeLossy.l0 k y0 y1 y2 y3 y4 y5) (impl_EncodeLossy.l0 (k + 1) y0 y1 y2 y3 y4 y5))
 | 0 => ⟨fun _ _ _ r h => by simp [impl_EncodeLossy.j0] at h, fun _ _ _ _ _ _ r h => by simp [impl_EncodeLossy.l0] at h⟩
 | k + 1 => by
  obtain ⟨ih0, ih1⟩ := impl_EncodeLossy.mono_l k
  refine ⟨?_, ?_⟩
  ·intro y0 y1 y2
   unfold impl_EncodeLossy.j0
   repeat' first
   | (with_reducible exact ih0 _ _ _)
   | (with_reducible exact ih1 _ _ _ _ _ _)
   | (with_reducible exact LeO.refl _)
   | (with_reducible exact LeO.none _)
   | (with_reducible refine LeO.ite ?_ ?_)
   | (with_reducible refine LeO.bind ?_ (fun _ => ?_))
   | exact ih0 _ _ _
   | exact ih1 _ _ _ _ _ _
   | exact impl_putIn.mono _ _ _ _
   | exact LeO.none _
   | refine LeO.ite ?_ ?_
   | refine LeO.bind ?_ (fun _ => ?_)
  ·intro y0 y1 y2 y3 y4 y5
   unfold impl_EncodeLossy.l0
   repeat' first
   | (with_reducible exact ih0 _ _ _)
   | (with_reducible exact ih1 _ _ _ _ _ _)
   | (with_reducible exact LeO.refl _)
   | (with_reducible exact LeO.none _)
   | (with_reducible refine LeO.ite ?_ ?_)
   | (with_reducible refine LeO.bind ?_ (fun _ => ?_))
   | exact ih0 _ _ _
   | exact ih1 _ _ _ _ _ _
   | exact impl_putIn.mono _ _ _ _
   | exact LeO.none _
   | refine LeO.ite ?_ ?_
   | refine LeO.bind ?_ (fun _ => ?_)
theorem impl_EncodeLossy.mono : ∀ a0 a1 k, LeO (impl_EncodeLossy.f k a0 a1) (impl_EncodeLossy.f (k + 1) a0 a1) := by
 intro a0 a1 k
 obtain ⟨ih0, ih1⟩ := impl_EncodeLossy.mono_l k
 unfold impl_EncodeLossy.f
 repeat' first
   | (with_reducible exact ih0 _ _ _)
   | (with_reducible exact ih1 _ _ _ _ _ _)
   | (with_reducible exact LeO.refl _)
   | (with_reducible exact LeO.none _)
   | (with_reducible refine LeO.ite ?_ ?_)
   | (with_reducible refine LeO.bind ?_ (fun _ => ?_))
   | exact ih0 _ _ _
   | exact ih1 _ _ _ _ _ _
   | exact impl_putIn.mono _ _ _ _
   | exact LeO.none _
   | refine LeO.ite ?_ ?_
   | refine LeO.bind ?_ (fun _ => ?_)
set_option maxHeartbeats 8000000 in
set_option maxRecDepth 100000 in
theorem impl_EncodeLossy.calls (k : Nat) (a0 : Int) (a1 : ByteArray) (r1 : List Int) (r2 : Int) (w : World) (hT : TabsOk w) (h : impl_EncodeLossy.f k a0 a1 = some (r1, r2)) :
  Calls Tryd.prog 24 #[.int .i64 a0, .string a1] w fun e w' => ∃ v0_ : Value, e = .returned (.tuple #[v0_, .int .i64 r2]) ∧ Kd.R (Kd.int .u8) 5 w' w.heap.size (fun _ => True) v0_ r1 ∧ Below w.heap.size w w' := by
 have HT := Aside0.mk hT
 clear hT
 have HB := Aside0.mk (Below.refl w.heap.size w)
 have H : ((impl_Signs.f a1).bind fun bt268 => ((impl_isSet.f a0).bind fun t272 => (if t272 = true then (impl_EncodeLossy.j0 k a0 bt268.1 (!bt268.2)) else (impl_EncodeLossy.j0 k a0 bt268.1 true)))) = some (r1, r2) := h
 clear h
 replace H := Option.bind_eq_some_iff.mp H
 obtain ⟨⟨t268, t269⟩, A30, H⟩ := H
 try dsimp only at H
 have A3 := Aside0.mk A30
 clear A30
 have HC4 := Aside0.mk H
 clear H
 go_enter Tryd.func24, Tryd.ntmps24
 go_upto_region 2 with (first | ((with_reducible refine gate_callee (f := 72) rfl ?_); refine goesL_ (some 16) rfl rfl Tryd.func72 (by kernel_rfl) rfl #[.string a1] rfl ka_ ?_; (with_reducible refine (impl_Signs.calls (hT := ?sideT) a1 t268 t269 _ A3.out).mono ?_); (case sideT => first | exact HT.out | exact HT.out.below hb_ | exact HT.out.drawn (by repeat (first | exact Drawn0.refl _ | apply Drawn0.step | assumption))); rintro e w5 ⟨v270, rfl, ho0, hb⟩; refine ⟨_, rfl, ?_⟩; have n0_ := Aside0.mk (Kd.R_lower ho0 (below_size hb_)); have n1_ := Aside0.mk (below_step hb_ hb); clear HB; have HO271 := n0_; have HB := n1_; clear n0_ n1_; try clear hb; (try clear ho0)))
 (try simp only [Act.put, List.setIfInBounds_toArray, List.set_cons_zero, List.set_cons_succ])
 go_cut [25] (fun v25 wc => ∃ (kq : Nat) (x25_3 : Bool), v25 = .bool x25_3 ∧ Aside0 (impl_EncodeLossy.j0 kq a0 t268 x25_3 = some (r1, r2)) ∧ Aside0 (kq ≤ k) ∧ Aside0 (Kd.R (Kd.int .i64) 3 wc w.heap.size (fun _ => True) v270 t268) ∧ Aside0 (Below w.heap.size w wc))
 case first =>
  have H := HC4.out
  clear HC4
  replace H := Option.bind_eq_some_iff.mp H
  obtain ⟨t272, A60, H⟩ := H
  try dsimp only at H
  have A6 := Aside0.mk A60
  clear A60
  by_cases c7 : t272 = true
  ·subst c7
   rw [if_pos rfl] at H
   have H' := Aside0.mk H
   clear H
   go_wp2_with (first | ((with_reducible refine gate_callee (f := 73) rfl ?_); refine goesL_ (some 20) rfl rfl Tryd.func73 (by kernel_rfl) rfl #[.int .i64 a0] rfl ka_ ?_; (with_reducible refine (impl_isSet.calls a0 true _ A6.out).mono ?_); rintro e w' ⟨rfl, ⟨nd, rfl⟩⟩; refine ⟨_, rfl, ?_⟩))
   go_meet
   case rel => exact ⟨_, (!t269), (by first | rfl | (simp; done) | (simp [*]; done)), H', ⟨by first | omega | exact Nat.le_refl _⟩, ⟨by (with_reducible repeat (first | apply Kd.R_alloc | apply Kd.R_drewN | apply Kd.R_drew)); exact HO271.out⟩, ⟨by repeat (first | (with_reducible first | exact HB.out | apply below_alloc | apply pw_below_drewN | apply below_drew1) | exact HB.out)⟩⟩
  ·replace c7 := Bool.eq_false_iff.mpr c7
   subst c7
   rw [if_neg (show ¬ (false = true) by decide)] at H
   have H' := Aside0.mk H
   clear H
   go_wp2_with (first | ((with_reducible refine gate_callee (f := 73) rfl ?_); refine goesL_ (some 20) rfl rfl Tryd.func73 (by kernel_rfl) rfl #[.int .i64 a0] rfl ka_ ?_; (with_reducible refine (impl_isSet.calls a0 false _ A6.out).mono ?_); rintro e w' ⟨rfl, ⟨nd, rfl⟩⟩; refine ⟨_, rfl, ?_⟩))
   go_meet
   case rel => exact ⟨_, (true), (by first | rfl | (simp; done) | (simp [*]; done)), H', ⟨by first | omega | exact Nat.le_refl _⟩, ⟨by (with_reducible repeat (first | apply Kd.R_alloc | apply Kd.R_drewN | apply Kd.R_drew)); exact HO271.out⟩, ⟨by repeat (first | (with_reducible first | exact HB.out | apply below_alloc | apply pw_below_drewN | apply below_drew1) | exact HB.out)⟩⟩
 case rest =>
  clear HC4
  try clear c2
  try clear p2
  try clear c7
  obtain ⟨kq, x25_3, rfl, HA, HJ3, HO_6, HB⟩ := hcut
  cases kq with
  | zero => exact absurd HA.out (by simp [impl_EncodeLossy.j0])
  | succ kj3 =>
   have H := HA.out
   clear HA
   simp only [impl_EncodeLossy.j0] at H
   by_cases c8 : x25_3 = true
   ·subst c8
    rw [if_pos rfl] at H
    simp only [Option.some.injEq, Prod.mk.injEq] at H
    obtain ⟨rfl, rfl⟩ := H
    go_wp2
    go_ret2
    exact ⟨_, by first | rfl | (simp [errW_none, errW_some] <;> rfl) | (simp [*, errW_none, errW_some] <;> rfl), by first | exact Kd.R_nil _ _ _ _ _ | exact Kd.N_nil _ _ _ _ _ | exact Kd.V_nil _ _ _ _ _ | exact Kd.Q_nil _ _ _ _ _ | exact Kd.S_nil _ _ _ _ _, hb_⟩
   ·replace c8 := Bool.eq_false_iff.mpr c8
    subst c8
    rw [if_neg (show ¬ (false = true) by decide)] at H
    obtain ⟨y273, hy273⟩ : ∃ y_ : List Int, y_ = (([] : List Int)) := ⟨_, rfl⟩
    replace H : (impl_EncodeLossy.l0 kj3 a0 y273 0 t268 (t268.length : Int) 0) = some (r1, r2) := by first | (rw [hy273]; with_reducible exact H) | (have H2_ := (Option.bind_some _ _).symm.trans H; rw [hy273]; with_reducible exact H2_) | (have H2_ := (Option.bind_some _ _).symm.trans H; with_reducible exact H2_) | with_reducible exact H | (rw [hy273]; exact H) | exact H
    have Ny273 := Aside0.mk hy273
    clear hy273
    have H' := Aside0.mk H
    clear H
    go_wp2_with (first | ((with_reducible refine gate_dst (N := 26) rfl ?_); refine Kd.R_lit (Kd.int .u8) _ 5 ?hg (N := 26) ?hd (xs := ([] : List Int)) (inner := []) (ok := fun _ => True) (okp := fun _ => True) ?hr ?hp (fun _ hk => hk) trivial (Below.refl _ _) (Nat.le_refl _) (by simp) ?_; (case hd => rfl); (case hg => rfl); (case hr => first | (go_simp; done) | (go_simp; rfl)); (case hp => exact (Reps.none _ _)); intro v274 w9 ho10 hb hg_ hnew_; clear hg_ hnew_; (first | rw [← Ny273.out] at ho10 | (simp only [Int.reduceToNat] at ho10; rw [← Ny273.out] at ho10)); have n0_ := Aside0.mk (Kd.R_below (kr_ HO_6) hb); have n1_ := Aside0.mk (Kd.R_lower ho10 (below_size hb_)); have n2_ := Aside0.mk (below_step hb_ hb); clear HO_6; clear HB; have HO_6 := n0_; have HO275 := n1_; have HB := n2_; clear n0_ n1_ n2_; clear hb ho10; obtain ⟨Ao11, co11, eo11⟩ := Kd.R_slice HO_6.out; subst eo11))
    go_loopg [8, 9, 29] kj3 (fun kq v8 v9 v29 w' => ∃ (x8_2 : List Int) (x9_2 : Int) (x29_2 : Int), v9 = .int .i64 x9_2 ∧ v29 = .int .i64 x29_2 ∧ Aside0 (impl_EncodeLossy.l0 kq a0 x8_2 x9_2 t268 (t268.length : Int) x29_2 = some (r1, r2)) ∧ Aside0 (kq ≤ kj3) ∧ Aside0 (Kd.R (Kd.int .u8) 5 w' w.heap.size (fun _ => True) v8 x8_2) ∧ Aside0 (Kd.R (Kd.int .i64) 3 w' w.heap.size (fun _ => True) (.slice Ao11 t268.length co11) t268) ∧ Aside0 (Below w.heap.size w w'))
    case atStart => exact ⟨(y273), (0), (0), (by first | rfl | (simp; done) | (simp [*]; done)), (by first | rfl | (simp; done) | (simp [*]; done)), H', ⟨Nat.le_refl _⟩, ⟨by (with_reducible repeat (first | apply Kd.R_alloc | apply Kd.R_drewN | apply Kd.R_drew)); exact HO275.out⟩, ⟨by (with_reducible repeat (first | apply Kd.R_alloc | apply Kd.R_drewN | apply Kd.R_drew)); exact HO_6.out⟩, ⟨by repeat (first | (with_reducible first | exact HB.out | apply below_alloc | apply pw_below_drewN | apply below_drew1) | exact HB.out)⟩⟩
    case round =>
     clear H'
     try clear c2
     try clear p2
     try clear c7
     try clear c8
     try clear p2
     obtain ⟨x8_2, x9_2, x29_2, rfl, rfl, HA, HK2, HO_8, HO_27, HB⟩ := hrel
     cases gk with
     | zero => exact absurd HA.out (by simp [impl_EncodeLossy.l0])
     | succ k2 =>
      have H := HA.out
      clear HA
      simp only [impl_EncodeLossy.l0] at H
      by_cases c12 : x29_2 < (t268.length : Int)
      ·rw [if_pos c12] at H
       have c12b0 : decide (x29_2 < (t268.length : Int)) = true := decide_eq_true c12
       clear c12
       by_cases c13 : 0 ≤ x29_2
       ·rw [if_pos c13] at H
        have c13b0 : decide (0 ≤ x29_2) = true := decide_eq_true c13
        clear c13
        by_cases c14 : x29_2 < (t268.length : Int)
        ·rw [if_pos c14] at H
         have c14b0 : decide (x29_2 < (t268.length : Int)) = true := decide_eq_true c14
         clear c14
         replace H := Option.bind_eq_some_iff.mp H
         obtain ⟨⟨t277, t278⟩, A150, H⟩ := H
         try dsimp only at H
         have A15 := Aside0.mk A150
         clear A150
         by_cases c16 : t278 = true
         ·subst c16
          rw [if_pos rfl] at H
          have H' := Aside0.mk H
          clear H
          have p276 : 0 ≤ (x29_2 : Int) := of_decide_eq_true as_
          have q276 : x29_2 < (t268.length : Int) := of_decide_eq_true as_
          obtain ⟨ad276, e276, hx276_0⟩ := Kd.at_int (Kd.R_reads' HO_27.out).2.2 x29_2 p276 q276
          cases e276
          replace p276 := eq_true p276
          replace q276 := eq_true q276
          obtain ⟨Ao17, co17, eo17⟩ := Kd.R_slice HO_8.out
          subst eo17
          go_wp2_with (first | ((with_reducible refine gate_callee (f := 74) rfl ?_); refine goesL_ (some 37) rfl rfl Tryd.func74 (by kernel_rfl) rfl #[.int .i64 a0, .slice Ao17 x8_2.length co17, .int .i64 (rd t268 x29_2)] rfl ka_ ?_; (with_reducible refine (impl_putIn.calls k2 a0 (fun k_ => some k_ = (.slice Ao17 x8_2.length co17 : Value).ownBlock) (.slice Ao17 x8_2.length co17) x8_2 (rd t268 x29_2) t277 true w _ ?side1 ?side2 A15.out).mono ?_); (case side1 => exact hb_); (case side2 => exact Kd.R_tight rfl HO_8.out); rintro e w18 ⟨v279, rfl, ho0, hb, hkp⟩; refine ⟨_, rfl, ?_⟩; have n0_ := Aside0.mk (Kd.R_mono (ok' := fun k_ => True) (Kd.R_keptB ((Kd.R_apart' HO_27.out (Kd.R_typed HO_8.out) (by decide))) hkp (fun k_ hk_ hs_ => (hk_.2) hs_)) (fun k_ hk_ => trivial)); have n1_ := Aside0.mk (Kd.R_mono (ok' := fun k_ => True) ho0 (fun k_ hk_ => trivial)); have n2_ := Aside0.mk (hb); clear HO_27; clear HB; clear HO_8; have HO_27 := n0_; have HO280 := n1_; have HB := n2_; clear n0_ n1_ n2_; (try clear hb); (try clear hkp); (try clear ho0)))
          go_roundg k2
          case measure => have := HJ3.out; have := HK2.out; omega
          case rel => exact ⟨(t277), (x9_2), (wrap64 (x29_2 + 1)), (by first | rfl | (simp; done) | (simp [*]; done)), (by first | rfl | (simp; done) | (simp [*]; done)), H', ⟨by have := HJ3.out; have := HK2.out; omega⟩, ⟨by (with_reducible repeat (first | apply Kd.R_alloc | apply Kd.R_drewN | apply Kd.R_drew)); exact Kd.R_mono HO280.out (fun _ hk => trivial)⟩, ⟨by (with_reducible repeat (first | apply Kd.R_alloc | apply Kd.R_drewN | apply Kd.R_drew)); exact HO_27.out⟩, ⟨by repeat (first | (with_reducible first | exact HB.out | apply below_alloc | apply pw_below_drewN | apply below_drew1) | exact HB.out)⟩⟩
         ·replace c16 := Bool.eq_false_iff.mpr c16
          subst c16
          rw [if_neg (show ¬ (false = true) by decide)] at H
          by_cases c19 : x8_2.length < 140737488355328
          ·rw [if_pos c19] at H
           have LMc19 := Aside0.mk c19
           clear c19
           obtain ⟨y281, hy281⟩ : ∃ y_ : List Int, y_ = (x8_2 ++ [63]) := ⟨_, rfl⟩
           replace H : (impl_EncodeLossy.l0 k2 a0 y281 (wrap64 (x9_2 + 1)) t268 (t268.length : Int) (wrap64 (x29_2 + 1))) = some (r1, r2) := by first | (rw [hy281]; with_reducible exact H) | (have H2_ := (Option.bind_some _ _).symm.trans H; rw [hy281]; with_reducible exact H2_) | (have H2_ := (Option.bind_some _ _).symm.trans H; with_reducible exact H2_) | with_reducible exact H | (rw [hy281]; exact H) | exact H
           have Ny281 := Aside0.mk hy281
           clear hy281
           have H' := Aside0.mk H
           clear H
           have p276 : 0 ≤ (x29_2 : Int) := of_decide_eq_true as_
           have q276 : x29_2 < (t268.length : Int) := of_decide_eq_true as_
           obtain ⟨ad276, e276, hx276_0⟩ := Kd.at_int (Kd.R_reads' HO_27.out).2.2 x29_2 p276 q276
           cases e276
           replace p276 := eq_true p276
           replace q276 := eq_true q276
           obtain ⟨Ao20, co20, eo20⟩ := Kd.R_slice HO_8.out
           subst eo20
           go_wp2_with (first | ((with_reducible refine gate_callee (f := 74) rfl ?_); refine goesL_ (some 37) rfl rfl Tryd.func74 (by kernel_rfl) rfl #[.int .i64 a0, .slice Ao20 x8_2.length co20, .int .i64 (rd t268 x29_2)] rfl ka_ ?_; (with_reducible refine (impl_putIn.callsNo k2 a0 _ _ x8_2 (rd t268 x29_2) t277 _ ?side1 ?side2 A15.out).mono ?_); (case side1 => exact kc_ (Kd.R_reads' HO_8.out).2.2); (case side2 => exact (Kd.R_reads' HO_8.out).2.1); rintro e w21 ⟨v279, rfl, hb⟩; refine ⟨_, rfl, ?_⟩; have n0_ := Aside0.mk (Kd.R_below (kr_ HO_8) hb); have n1_ := Aside0.mk (Kd.R_below (kr_ HO_27) hb); have n3_ := Aside0.mk (below_step hb_ hb); clear HO_8; clear HO_27; clear HB; have HO_8 := n0_; have HO_27 := n1_; have HB := n3_; clear n0_ n1_ n3_; (try clear hb)) | ((with_reducible refine gate_builtin (b := .append) (xs := #[.tmp 42, .tmp 43]) rfl ?_); at_builtin; refine Kd.R_append (Kd.int .u8) (w0 := w) w.heap.size rfl (.tmp 42) (.tmp 43) 23 5 (.int .u8 0) 1 rfl Tryd.underlying23 info5 rfl (by decide) (by omega) (.slice Ao20 x8_2.length co20) x8_2 63 [.int .u8 63] (fun _ => True) (fun _ => False) rfl rfl ?aP (fun _ hk => hk.elim) ?aF ?aO ?aB ?aS ?aL ?_; (case aP => exact rfl); (case aB => exact hb_); (case aF => exact (fun _ _ => trivial)); (case aO => exact (kr_ HO_8)); (case aS => exact (below_size hb_)); (case aL => have := LMc19.out; omega); intro v282 w22 ho hb hg hat; rw [← Ny281.out] at ho; have n0_ := Aside0.mk (Kd.R_over' (kr_ HO_27) (Kd.R_typed (kr_ HO_8)) (by decide) hg); have n2_ := Aside0.mk (hb); have n3_ := Aside0.mk (ho); clear HO_27; clear HB; clear HO_8; have HO_27 := n0_; have HB := n2_; have HO283 := n3_; clear n0_ n2_ n3_; clear ho hb hg hat))
           go_roundg k2
           case measure => have := HJ3.out; have := HK2.out; omega
           case rel => exact ⟨(y281), (wrap64 (x9_2 + 1)), (wrap64 (x29_2 + 1)), (by first | rfl | (simp; done) | (simp [*]; done)), (by first | rfl | (simp; done) | (simp [*]; done)), H', ⟨by have := HJ3.out; have := HK2.out; omega⟩, ⟨by (with_reducible repeat (first | apply Kd.R_alloc | apply Kd.R_drewN | apply Kd.R_drew)); exact Kd.R_mono HO283.out (fun _ hk => trivial)⟩, ⟨by (with_reducible repeat (first | apply Kd.R_alloc | apply Kd.R_drewN | apply Kd.R_drew)); exact HO_27.out⟩, ⟨by repeat (first | (with_reducible first | exact HB.out | apply below_alloc | apply pw_below_drewN | apply below_drew1) | exact HB.out)⟩⟩
          ·rw [if_neg c19] at H
           exact absurd H (by simp)
        ·rw [if_neg c14] at H
         exact absurd H (by simp)
       ·rw [if_neg c13] at H
        exact absurd H (by simp)
      ·rw [if_neg c12] at H
       have c12b0 : decide (x29_2 < (t268.length : Int)) = false := decide_eq_false c12
       clear c12
       simp only [Option.some.injEq, Prod.mk.injEq] at H
       obtain ⟨rfl, rfl⟩ := H
       go_wp2
       go_ret2
       exact ⟨_, by first | rfl | (simp [errW_none, errW_some] <;> rfl) | (simp [*, errW_none, errW_some] <;> rfl), by (with_reducible repeat (first | apply Kd.R_alloc | apply Kd.R_drewN | apply Kd.R_drew)); exact HO_8.out, hb_⟩
/-! ### laws_FnLossy: function 15 -/
def laws_FnLossy.f (k : Nat) (l0 : List Int) : Option (Bool) := (laws_big.f l0).bind fun t631 => (if t631 = true then (some true) else ((spec_DrawDecodeLossy.f k l0).bind fun bt632 => ((impl_DecodeLossy.f k bt632.1 bt632.2).bind fun bt636 => ((spec_DecodeLossy.f k bt632.1 bt632.2).bind fun bt638 => ((impl_Decode.f k bt632.1 bt632.2).bind fun bt640 => ((spec_DrawEncodeLossy.f k l0).bind fun bt642 => ((impl_EncodeLossy.f k bt642.1 bt642.2).bind fun bt644 => ((spec_EncodeLossy.f k bt642.1 bt642.2).bind fun bt648 => ((impl_Encode.f k bt642.1 bt642.2).bind fun bt652 => (if bt636.1.toList = bt638.1.toList then (if bt636.2 = bt638.2 then (if (strOfNums bt644.1).toList = (strOfNums bt648.1).toList then (if bt644.2 = bt648.2 then ((impl_Utf8Ok.f bt636.1).bind fun t656 => (if t656 = true then (if bt640.2 = true then (if bt636.2 = 0 then (if bt636.1.toList = bt640.1.toList then (if bt652.2 = true then (if bt644.2 = 0 then (if (strOfNums bt644.1).toList = (strOfNums bt652.1).toList then (some true) else (some false)) else (some false)) else (some true)) else (some false)) else (some false)) else (if bt652.2 = true then (if bt644.2 = 0 then (if (strOfNums bt644.1).toList = (strOfNums bt652.1).toList then (if bt636.2 > 0 then (some true) else (some (bt636.1.toList == ([] : List UInt8)))) else (some false)) else (some false)) else (if bt636.2 > 0 then (some true) else (some (bt636.1.toList == ([] : List UInt8)))))) else (some false))) else (some false)) else (some false)) else (some false)) else (some false)))))))))))
theorem laws_FnLossy.mono : ∀ a0 k, LeO (laws_FnLossy.f k a0) (laws_FnLossy.f (k + 1) a0) := by
 intro a0 k
 unfold laws_FnLossy.f
 repeat' first
   | (with_reducible exact impl_Decode.mono _ _ _)
   | (with_reducible exact impl_DecodeLossy.mono _ _ _)
   | (with_reducible exact impl_Encode.mono _ _ _)
   | (with_reducible exact impl_EncodeLossy.mono _ _ _)
   | (with_reducible exact spec_DecodeLossy.mono _ _ _)
   | (with_reducible exact spec_DrawDecodeLossy.mono _ _)
   | (with_reducible exact spec_DrawEncodeLossy.mono _ _)
   | (with_reducible exact spec_EncodeLossy.mono _ _ _)
   | (with_reducible exact LeO.refl _)
   | (with_reducible exact LeO.none _)
   | (with_reducible refine LeO.ite ?_ ?_)
   | (with_reducible refine LeO.bind ?_ (fun _ => ?_))
   | exact impl_Decode.mono _ _ _
   | exact impl_DecodeLossy.mono _ _ _
   | exact impl_Encode.mono _ _ _
   | exact impl_EncodeLossy.mono _ _ _
   | exact spec_DecodeLossy.mono _ _ _
   | exact spec_DrawDecodeLossy.mono _ _
   | exact spec_DrawEncodeLossy.mono _ _
   | exact spec_EncodeLossy.mono _ _ _
   | exact LeO.none _
   | refine LeO.ite ?_ ?_
   | refine LeO.bind ?_ (fun _ => ?_)
set_option maxHeartbeats 8000000 in
set_option maxRecDepth 100000 in
theorem laws_FnLossy.calls (k : Nat) (A0 : Option Addr) (c0 : Nat) (l0 : List Int) (r : Bool) (w : World) (hT : TabsOk w) (hr0 : Kd.C (Kd.int .u8) w A0 l0.length l0) (hc0 : l0.length ≤ c0) (h : laws_FnLossy.f k l0 = some r) (hr_ : r = true) :
  Calls Tryd.prog 15 #[.slice A0 l0.length c0] w fun e w' => e = .returned (.bool r) ∧ Below w.heap.size w w' := by
 have HT := Aside0.mk hT
 clear hT
 have HR0 := Aside0.mk hr0
 have HC0 := Aside0.mk hc0
 clear hr0 hc0
 have HB := Aside0.mk (Below.refl w.heap.size w)
 have H : ((laws_big.f l0).bind fun t631 => (if t631 = true then (some true) else ((spec_DrawDecodeLossy.f k l0).bind fun bt632 => ((impl_DecodeLossy.f k bt632.1 bt632.2).bind fun bt636 => ((spec_DecodeLossy.f k bt632.1 bt632.2).bind fun bt638 => ((impl_Decode.f k bt632.1 bt632.2).bind fun bt640 => ((spec_DrawEncodeLossy.f k l0).bind fun bt642 => ((impl_EncodeLossy.f k bt642.1 bt642.2).bind fun bt644 => ((spec_EncodeLossy.f k bt642.1 bt642.2).bind fun bt648 => ((impl_Encode.f k bt642.1 bt642.2).bind fun bt652 => (if bt636.1.toList = bt638.1.toList then (if bt636.2 = bt638.2 then (if (strOfNums bt644.1).toList = (strOfNums bt648.1).toList then (if bt644.2 = bt648.2 then ((impl_Utf8Ok.f bt636.1).bind fun t656 => (if t656 = true then (if bt640.2 = true then (if bt636.2 = 0 then (if bt636.1.toList = bt640.1.toList then (if bt652.2 = true then (if bt644.2 = 0 then (if (strOfNums bt644.1).toList = (strOfNums bt652.1).toList then (some true) else (some false)) else (some false)) else (some true)) else (some false)) else (some false)) else (if bt652.2 = true then (if bt644.2 = 0 then (if (strOfNums bt644.1).toList = (strOfNums bt652.1).toList then (if bt636.2 > 0 then (some true) else (some (bt636.1.toList == ([] : List UInt8)))) else (some false)) else (some false)) else (if bt636.2 > 0 then (some true) else (some (bt636.1.toList == ([] : List UInt8)))))) else (some false))) else (some false)) else (some false)) else (some false)) else (some false)))))))))))) = some r := h
 clear h
 replace H := Option.bind_eq_some_iff.mp H
 obtain ⟨t631, A20, H⟩ := H
 try dsimp only at H
 have A2 := Aside0.mk A20
 clear A20
 by_cases c3 : t631 = true
 ·subst c3
  rw [if_pos rfl] at H
  obtain rfl := Option.some.inj H
  clear hr_
  go_enter Tryd.func15, Tryd.ntmps15
  go_wp2_with (first | ((with_reducible refine gate_callee (f := 42) rfl ?_); refine goesL_ (some 20) rfl rfl Tryd.func42 (by kernel_rfl) rfl #[.slice A0 l0.length c0] rfl ka_ ?_; (with_reducible refine (laws_big.calls _ _ l0 true _ ?side1 ?side2 A2.out).mono ?_); (case side1 => repeat (first | exact HR0.out | (with_reducible refine Kd.C_alloc ?_ _) | (with_reducible refine Kd.C_drewN ?_ _) | (with_reducible refine Kd.C_drew ?_))); (case side2 => exact HC0.out); rintro e w' ⟨rfl, ⟨nd, rfl⟩⟩; refine ⟨_, rfl, ?_⟩))
  go_ret
  exact ⟨rf_, hb_⟩
 ·replace c3 := Bool.eq_false_iff.mpr c3
  subst c3
  rw [if_neg (show ¬ (false = true) by decide)] at H
  replace H := Option.bind_eq_some_iff.mp H
  obtain ⟨⟨t632, t633⟩, A40, H⟩ := H
  try dsimp only at H
  have A4 := Aside0.mk A40
  clear A40
  replace H := Option.bind_eq_some_iff.mp H
  obtain ⟨⟨t636, t637⟩, A50, H⟩ := H
  try dsimp only at H
  have A5 := Aside0.mk A50
  clear A50
  replace H := Option.bind_eq_some_iff.mp H
  obtain ⟨⟨t638, t639⟩, A60, H⟩ := H
  try dsimp only at H
  have A6 := Aside0.mk A60
  clear A60
  replace H := Option.bind_eq_some_iff.mp H
  obtain ⟨⟨t640, t641⟩, A70, H⟩ := H
  try dsimp only at H
  have A7 := Aside0.mk A70
  clear A70
  replace H := Option.bind_eq_some_iff.mp H
  obtain ⟨⟨t642, t643⟩, A80, H⟩ := H
  try dsimp only at H
  have A8 := Aside0.mk A80
  clear A80
  replace H := Option.bind_eq_some_iff.mp H
  obtain ⟨⟨t644, t645⟩, A90, H⟩ := H
  try dsimp only at H
  have A9 := Aside0.mk A90
  clear A90
  replace H := Option.bind_eq_some_iff.mp H
  obtain ⟨⟨t648, t649⟩, A100, H⟩ := H
  try dsimp only at H
  have A10 := Aside0.mk A100
  clear A100
  replace H := Option.bind_eq_some_iff.mp H
  obtain ⟨⟨t652, t653⟩, A110, H⟩ := H
  try dsimp only at H
  have A11 := Aside0.mk A110
  clear A110
  by_cases c12 : t636.toList = t638.toList
  ·rw [if_pos c12] at H
   have c12b0 : (t636.toList == t638.toList) = true := beq_iff_eq.mpr c12
   have c12b1 : (t636.toList != t638.toList) = false := bne_eq_false_iff_eq.mpr c12
   clear c12
   by_cases c13 : t637 = t639
   ·rw [if_pos c13] at H
    have c13b0 : (t637 == t639) = true := beq_iff_eq.mpr c13
    have c13b1 : (t637 != t639) = false := bne_eq_false_iff_eq.mpr c13
    clear c13
    by_cases c14 : (strOfNums t644).toList = (strOfNums t648).toList
    ·rw [if_pos c14] at H
     have c14b0 : ((strOfNums t644).toList == (strOfNums t648).toList) = true := beq_iff_eq.mpr c14
     have c14b1 : ((strOfNums t644).toList != (strOfNums t648).toList) = false := bne_eq_false_iff_eq.mpr c14
     clear c14
     by_cases c15 : t645 = t649
     ·rw [if_pos c15] at H
      have c15b0 : (t645 == t649) = true := beq_iff_eq.mpr c15
      have c15b1 : (t645 != t649) = false := bne_eq_false_iff_eq.mpr c15
      clear c15
      replace H := Option.bind_eq_some_iff.mp H
      obtain ⟨t656, A160, H⟩ := H
      try dsimp only at H
      have A16 := Aside0.mk A160
      clear A160
      by_cases c17 : t656 = true
      ·subst c17
       rw [if_pos rfl] at H
       by_cases c18 : t641 = true
       ·subst c18
        rw [if_pos rfl] at H
        by_cases c19 : t637 = 0
        ·rw [if_pos c19] at H
         have c19b0 : (t637 == 0) = true := beq_iff_eq.mpr c19
         have c19b1 : (t637 != 0) = false := bne_eq_false_iff_eq.mpr c19
         clear c19
         by_cases c20 : t636.toList = t640.toList
         ·rw [if_pos c20] at H
          have c20b0 : (t636.toList == t640.toList) = true := beq_iff_eq.mpr c20
          have c20b1 : (t636.toList != t640.toList) = false := bne_eq_false_iff_eq.mpr c20
          clear c20
          by_cases c21 : t653 = true
          ·subst c21
           rw [if_pos rfl] at H
           by_cases c22 : t645 = 0
           ·rw [if_pos c22] at H
            have c22b0 : (t645 == 0) = true := beq_iff_eq.mpr c22
            have c22b1 : (t645 != 0) = false := bne_eq_false_iff_eq.mpr c22
            clear c22
            by_cases c23 : (strOfNums t644).toList = (strOfNums t652).toList
            ·rw [if_pos c23] at H
             have c23b0 : ((strOfNums t644).toList == (strOfNums t652).toList) = true := beq_iff_eq.mpr c23
             have c23b1 : ((strOfNums t644).toList != (strOfNums t652).toList) = false := bne_eq_false_iff_eq.mpr c23
             clear c23
             obtain rfl := Option.some.inj H
             clear hr_
             go_enter Tryd.func15, Tryd.ntmps15
             go_wp2_with (first | ((with_reducible refine gate_callee (f := 42) rfl ?_); refine goesL_ (some 20) rfl rfl Tryd.func42 (by kernel_rfl) rfl #[.slice A0 l0.length c0] rfl ka_ ?_; (with_reducible refine (laws_big.calls _ _ l0 false _ ?side1 ?side2 A2.out).mono ?_); (case side1 => repeat (first | exact HR0.out | (with_reducible refine Kd.C_alloc ?_ _) | (with_reducible refine Kd.C_drewN ?_ _) | (with_reducible refine Kd.C_drew ?_))); (case side2 => exact HC0.out); rintro e w' ⟨rfl, ⟨nd, rfl⟩⟩; refine ⟨_, rfl, ?_⟩) | ((with_reducible refine gate_callee (f := 56) rfl ?_); refine goesL_ (some 23) rfl rfl Tryd.func56 (by kernel_rfl) rfl #[.slice A0 l0.length c0] rfl ka_ ?_; (with_reducible refine (spec_DrawDecodeLossy.calls k _ _ l0 t632 t633 _ ?side1 ?side2 A4.out).mono ?_); (case side1 => repeat (first | exact HR0.out | (with_reducible refine Kd.C_alloc ?_ _) | (with_reducible refine Kd.C_drewN ?_ _) | (with_reducible refine Kd.C_drew ?_))); (case side2 => exact HC0.out); rintro e w24 ⟨v634, rfl, ho0, hb⟩; refine ⟨_, rfl, ?_⟩; have n0_ := Aside0.mk (Kd.R_lower ho0 (below_size hb_)); have n1_ := Aside0.mk (below_step hb_ hb); clear HB; have HO635 := n0_; have HB := n1_; clear n0_ n1_; try clear hb; (try clear ho0); obtain ⟨Ao25, co25, eo25⟩ := Kd.R_slice HO635.out; subst eo25) | ((with_reducible refine gate_callee (f := 66) rfl ?_); refine goesL_ (some 29) rfl rfl Tryd.func66 (by kernel_rfl) rfl #[.int .i64 t632, .slice Ao25 t633.length co25] rfl ka_ ?_; (with_reducible refine (impl_DecodeLossy.calls (hT := ?sideT) k t632 _ _ t633 t636 t637 _ ?side1 ?side2 A5.out).mono ?_); (case sideT => first | exact HT.out | exact HT.out.below hb_ | exact HT.out.drawn (by repeat (first | exact Drawn0.refl _ | apply Drawn0.step | assumption))); (case side1 => exact kc_ (Kd.R_reads' HO635.out).2.2); (case side2 => exact (Kd.R_reads' HO635.out).2.1); rintro e w26 ⟨rfl, hb⟩; refine ⟨_, rfl, ?_⟩; have n0_ := Aside0.mk (Kd.R_below (kr_ HO635) hb); have n1_ := Aside0.mk (below_step hb_ hb); clear HO635; clear HB; have HO635 := n0_; have HB := n1_; clear n0_ n1_; try clear hb) | ((with_reducible refine gate_callee (f := 67) rfl ?_); refine goesL_ (some 35) rfl rfl Tryd.func67 (by kernel_rfl) rfl #[.int .i64 t632, .slice Ao25 t633.length co25] rfl ka_ ?_; (with_reducible refine (spec_DecodeLossy.calls k t632 _ _ t633 t638 t639 _ ?side1 ?side2 A6.out).mono ?_); (case side1 => exact kc_ (Kd.R_reads' HO635.out).2.2); (case side2 => exact (Kd.R_reads' HO635.out).2.1); rintro e w27 ⟨rfl, hb⟩; refine ⟨_, rfl, ?_⟩; have n0_ := Aside0.mk (Kd.R_below (kr_ HO635) hb); have n1_ := Aside0.mk (below_step hb_ hb); clear HO635; clear HB; have HO635 := n0_; have HB := n1_; clear n0_ n1_; try clear hb) | ((with_reducible refine gate_callee (f := 44) rfl ?_); refine goesL_ (some 41) rfl rfl Tryd.func44 (by kernel_rfl) rfl #[.int .i64 t632, .slice Ao25 t633.length co25] rfl ka_ ?_; (with_reducible refine (impl_Decode.calls (hT := ?sideT) k t632 _ _ t633 t640 true _ ?side1 ?side2 A7.out).mono ?_); (case sideT => first | exact HT.out | exact HT.out.below hb_ | exact HT.out.drawn (by repeat (first | exact Drawn0.refl _ | apply Drawn0.step | assumption))); (case side1 => exact kc_ (Kd.R_reads' HO635.out).2.2); (case side2 => exact (Kd.R_reads' HO635.out).2.1); rintro e w28 ⟨rfl, hb⟩; refine ⟨_, rfl, ?_⟩; have n0_ := Aside0.mk (Kd.R_below (kr_ HO635) hb); have n1_ := Aside0.mk (below_step hb_ hb); clear HO635; clear HB; have HO635 := n0_; have HB := n1_; clear n0_ n1_; try clear hb) | ((with_reducible refine gate_callee (f := 68) rfl ?_); refine goesL_ (some 46) rfl rfl Tryd.func68 (by kernel_rfl) rfl #[.slice A0 l0.length c0] rfl ka_ ?_; (with_reducible refine (spec_DrawEncodeLossy.calls k _ _ l0 t642 t643 _ ?side1 ?side2 A8.out).mono ?_); (case side1 => repeat (first | exact (Kd.C_below HR0.out HB.out) | (with_reducible refine Kd.C_alloc ?_ _) | (with_reducible refine Kd.C_drewN ?_ _) | (with_reducible refine Kd.C_drew ?_))); (case side2 => exact HC0.out); rintro e w29 ⟨rfl, hb⟩; refine ⟨_, rfl, ?_⟩; have n0_ := Aside0.mk (Kd.R_below (kr_ HO635) hb); have n1_ := Aside0.mk (below_step hb_ hb); clear HO635; clear HB; have HO635 := n0_; have HB := n1_; clear n0_ n1_; try clear hb) | ((with_reducible refine gate_callee (f := 24) rfl ?_); refine goesL_ (some 52) rfl rfl Tryd.func24 (by kernel_rfl) rfl #[.int .i64 t642, .string t643] rfl ka_ ?_; (with_reducible refine (impl_EncodeLossy.calls (hT := ?sideT) k t642 t643 t644 t645 _ A9.out).mono ?_); (case sideT => first | exact HT.out | exact HT.out.below hb_ | exact HT.out.drawn (by repeat (first | exact Drawn0.refl _ | apply Drawn0.step | assumption))); rintro e w30 ⟨v646, rfl, ho0, hb⟩; refine ⟨_, rfl, ?_⟩; have n0_ := Aside0.mk (Kd.R_elder' (kr_ HO635) (Kd.R_base ho0) hb); have n1_ := Aside0.mk (Kd.R_lower (Kd.R_new' ho0 (Kd.R_lt (kr_ HO635))) (below_size hb_)); have n2_ := Aside0.mk (below_step hb_ hb); clear HO635; clear HB; have HO635 := n0_; have HO647 := n1_; have HB := n2_; clear n0_ n1_ n2_; try clear hb; (try clear ho0)) | ((with_reducible refine gate_callee (f := 23) rfl ?_); refine goesL_ (some 58) rfl rfl Tryd.func23 (by kernel_rfl) rfl #[.int .i64 t642, .string t643] rfl ka_ ?_; (with_reducible refine (spec_EncodeLossy.calls k t642 t643 t648 t649 _ A10.out).mono ?_); rintro e w31 ⟨v650, rfl, ho0, hb⟩; refine ⟨_, rfl, ?_⟩; have n0_ := Aside0.mk (Kd.R_elder' (kr_ HO635) (Kd.R_base ho0) hb); have n1_ := Aside0.mk (Kd.R_elder' (kr_ HO647) (Kd.R_base ho0) hb); have n2_ := Aside0.mk (Kd.R_lower (Kd.R_new' (Kd.R_new' ho0 (Kd.R_lt (kr_ HO635))) (Kd.R_lt (kr_ HO647))) (below_size hb_)); have n3_ := Aside0.mk (below_step hb_ hb); clear HO635; clear HO647; clear HB; have HO635 := n0_; have HO647 := n1_; have HO651 := n2_; have HB := n3_; clear n0_ n1_ n2_ n3_; try clear hb; (try clear ho0)) | ((with_reducible refine gate_callee (f := 19) rfl ?_); refine goesL_ (some 64) rfl rfl Tryd.func19 (by kernel_rfl) rfl #[.int .i64 t642, .string t643] rfl ka_ ?_; (with_reducible refine (impl_Encode.calls (hT := ?sideT) k t642 t643 t652 true _ A11.out).mono ?_); (case sideT => first | exact HT.out | exact HT.out.below hb_ | exact HT.out.drawn (by repeat (first | exact Drawn0.refl _ | apply Drawn0.step | assumption))); rintro e w32 ⟨v654, rfl, ho0, hb⟩; refine ⟨_, rfl, ?_⟩; have n0_ := Aside0.mk (Kd.R_elder' (kr_ HO635) (Kd.R_base ho0) hb); have n1_ := Aside0.mk (Kd.R_elder' (kr_ HO647) (Kd.R_base ho0) hb); have n2_ := Aside0.mk (Kd.R_elder' (kr_ HO651) (Kd.R_base ho0) hb); have n3_ := Aside0.mk (Kd.R_lower (Kd.R_new' (Kd.R_new' (Kd.R_new' ho0 (Kd.R_lt (kr_ HO635))) (Kd.R_lt (kr_ HO647))) (Kd.R_lt (kr_ HO651))) (below_size hb_)); have n4_ := Aside0.mk (below_step hb_ hb); clear HO635; clear HO647; clear HO651; clear HB; have HO635 := n0_; have HO647 := n1_; have HO651 := n2_; have HO655 := n3_; have HB := n4_; clear n0_ n1_ n2_ n3_ n4_; try clear hb; (try clear ho0); have hcv33 := own_string (P := Tryd.prog) Tryd.underlying23 Tryd.underlying5 Tryd.underlying9 (Kd.own_of_R HO647.out); try have hcn33 := fun n_ : Nat => own_string (P := Tryd.prog) Tryd.underlying23 Tryd.underlying5 Tryd.underlying9 (Kd.own_of_R (Kd.R_drewN HO647.out n_)); have hcv34 := own_string (P := Tryd.prog) Tryd.underlying23 Tryd.underlying5 Tryd.underlying9 (Kd.own_of_R HO651.out); try have hcn34 := fun n_ : Nat => own_string (P := Tryd.prog) Tryd.underlying23 Tryd.underlying5 Tryd.underlying9 (Kd.own_of_R (Kd.R_drewN HO651.out n_))) | (go_at_call 65; (with_reducible refine (impl_Utf8Ok.calls (hT := ?sideT) t636 true _ A16.out).mono ?_); (case sideT => first | exact HT.out | exact HT.out.below hb_ | exact HT.out.drawn (by repeat (first | exact Drawn0.refl _ | apply Drawn0.step | assumption))); rintro e w35 ⟨rfl, hb⟩; have n0_ := Aside0.mk (Kd.R_below (kr_ HO635) hb); have n1_ := Aside0.mk (Kd.R_below (kr_ HO647) hb); have n2_ := Aside0.mk (Kd.R_below (kr_ HO651) hb); have n3_ := Aside0.mk (Kd.R_below (kr_ HO655) hb); have n4_ := Aside0.mk (below_step hb_ hb); clear HO635; clear HO647; clear HO651; clear HO655; clear HB; have HO635 := n0_; have HO647 := n1_; have HO651 := n2_; have HO655 := n3_; have HB := n4_; clear n0_ n1_ n2_ n3_ n4_; try clear hb; have hcv36 := own_string (P := Tryd.prog) Tryd.underlying23 Tryd.underlying5 Tryd.underlying9 (Kd.own_of_R HO647.out); try have hcn36 := fun n_ : Nat => own_string (P := Tryd.prog) Tryd.underlying23 Tryd.underlying5 Tryd.underlying9 (Kd.own_of_R (Kd.R_drewN HO647.out n_)); have hcv37 := own_string (P := Tryd.prog) Tryd.underlying23 Tryd.underlying5 Tryd.underlying9 (Kd.own_of_R HO655.out); try have hcn37 := fun n_ : Nat => own_string (P := Tryd.prog) Tryd.underlying23 Tryd.underlying5 Tryd.underlying9 (Kd.own_of_R (Kd.R_drewN HO655.out n_))))
             go_ret
             exact ⟨rf_, hb_⟩
            ·rw [if_neg c23] at H
             have c23b0 : ((strOfNums t644).toList == (strOfNums t652).toList) = false := beq_eq_false_iff_ne.mpr c23
             have c23b1 : ((strOfNums t644).toList != (strOfNums t652).toList) = true := bne_iff_ne.mpr c23
             obtain rfl := Option.some.inj H
             cases hr_
           ·rw [if_neg c22] at H
            have c22b0 : (t645 == 0) = false := beq_eq_false_iff_ne.mpr c22
            have c22b1 : (t645 != 0) = true := bne_iff_ne.mpr c22
            obtain rfl := Option.some.inj H
            cases hr_
          ·replace c21 := Bool.eq_false_iff.mpr c21
           subst c21
           rw [if_neg (show ¬ (false = true) by decide)] at H
           obtain rfl := Option.some.inj H
           clear hr_
           go_enter Tryd.func15, Tryd.ntmps15
           go_wp2_with (first | ((with_reducible refine gate_callee (f := 42) rfl ?_); refine goesL_ (some 20) rfl rfl Tryd.func42 (by kernel_rfl) rfl #[.slice A0 l0.length c0] rfl ka_ ?_; (with_reducible refine (laws_big.calls _ _ l0 false _ ?side1 ?side2 A2.out).mono ?_); (case side1 => repeat (first | exact HR0.out | (with_reducible refine Kd.C_alloc ?_ _) | (with_reducible refine Kd.C_drewN ?_ _) | (with_reducible refine Kd.C_drew ?_))); (case side2 => exact HC0.out); rintro e w' ⟨rfl, ⟨nd, rfl⟩⟩; refine ⟨_, rfl, ?_⟩) | ((with_reducible refine gate_callee (f := 56) rfl ?_); refine goesL_ (some 23) rfl rfl Tryd.func56 (by kernel_rfl) rfl #[.slice A0 l0.length c0] rfl ka_ ?_; (with_reducible refine (spec_DrawDecodeLossy.calls k _ _ l0 t632 t633 _ ?side1 ?side2 A4.out).mono ?_); (case side1 => repeat (first | exact HR0.out | (with_reducible refine Kd.C_alloc ?_ _) | (with_reducible refine Kd.C_drewN ?_ _) | (with_reducible refine Kd.C_drew ?_))); (case side2 => exact HC0.out); rintro e w64 ⟨v634, rfl, ho0, hb⟩; refine ⟨_, rfl, ?_⟩; have n0_ := Aside0.mk (Kd.R_lower ho0 (below_size hb_)); have n1_ := Aside0.mk (below_step hb_ hb); clear HB; have HO635 := n0_; have HB := n1_; clear n0_ n1_; try clear hb; (try clear ho0); obtain ⟨Ao65, co65, eo65⟩ := Kd.R_slice HO635.out; subst eo65) | ((with_reducible refine gate_callee (f := 66) rfl ?_); refine goesL_ (some 29) rfl rfl Tryd.func66 (by kernel_rfl) rfl #[.int .i64 t632, .slice Ao65 t633.length co65] rfl ka_ ?_; (with_reducible refine (impl_DecodeLossy.calls (hT := ?sideT) k t632 _ _ t633 t636 t637 _ ?side1 ?side2 A5.out).mono ?_); (case sideT => first | exact HT.out | exact HT.out.below hb_ | exact HT.out.drawn (by repeat (first | exact Drawn0.refl _ | apply Drawn0.step | assumption))); (case side1 => exact kc_ (Kd.R_reads' HO635.out).2.2); (case side2 => exact (Kd.R_reads' HO635.out).2.1); rintro e w66 ⟨rfl, hb⟩; refine ⟨_, rfl, ?_⟩; have n0_ := Aside0.mk (Kd.R_below (kr_ HO635) hb); have n1_ := Aside0.mk (below_step hb_ hb); clear HO635; clear HB; have HO635 := n0_; have HB := n1_; clear n0_ n1_; try clear hb) | ((with_reducible refine gate_callee (f := 67) rfl ?_); refine goesL_ (some 35) rfl rfl Tryd.func67 (by kernel_rfl) rfl #[.int .i64 t632, .slice Ao65 t633.length co65] rfl ka_ ?_; (with_reducible refine (spec_DecodeLossy.calls k t632 _ _ t633 t638 t639 _ ?side1 ?side2 A6.out).mono ?_); (case side1 => exact kc_ (Kd.R_reads' HO635.out).2.2); (case side2 => exact (Kd.R_reads' HO635.out).2.1); rintro e w67 ⟨rfl, hb⟩; refine ⟨_, rfl, ?_⟩; have n0_ := Aside0.mk (Kd.R_below (kr_ HO635) hb); have n1_ := Aside0.mk (below_step hb_ hb); clear HO635; clear HB; have HO635 := n0_; have HB := n1_; clear n0_ n1_; try clear hb) | ((with_reducible refine gate_callee (f := 44) rfl ?_); refine goesL_ (some 41) rfl rfl Tryd.func44 (by kernel_rfl) rfl #[.int .i64 t632, .slice Ao65 t633.length co65] rfl ka_ ?_; (with_reducible refine (impl_Decode.calls (hT := ?sideT) k t632 _ _ t633 t640 true _ ?side1 ?side2 A7.out).mono ?_); (case sideT => first | exact HT.out | exact HT.out.below hb_ | exact HT.out.drawn (by repeat (first | exact Drawn0.refl _ | apply Drawn0.step | assumption))); (case side1 => exact kc_ (Kd.R_reads' HO635.out).2.2); (case side2 => exact (Kd.R_reads' HO635.out).2.1); rintro e w68 ⟨rfl, hb⟩; refine ⟨_, rfl, ?_⟩; have n0_ := Aside0.mk (Kd.R_below (kr_ HO635) hb); have n1_ := Aside0.mk (below_step hb_ hb); clear HO635; clear HB; have HO635 := n0_; have HB := n1_; clear n0_ n1_; try clear hb) | ((with_reducible refine gate_callee (f := 68) rfl ?_); refine goesL_ (some 46) rfl rfl Tryd.func68 (by kernel_rfl) rfl #[.slice A0 l0.length c0] rfl ka_ ?_; (with_reducible refine (spec_DrawEncodeLossy.calls k _ _ l0 t642 t643 _ ?side1 ?side2 A8.out).mono ?_); (case side1 => repeat (first | exact (Kd.C_below HR0.out HB.out) | (with_reducible refine Kd.C_alloc ?_ _) | (with_reducible refine Kd.C_drewN ?_ _) | (with_reducible refine Kd.C_drew ?_))); (case side2 => exact HC0.out); rintro e w69 ⟨rfl, hb⟩; refine ⟨_, rfl, ?_⟩; have n0_ := Aside0.mk (Kd.R_below (kr_ HO635) hb); have n1_ := Aside0.mk (below_step hb_ hb); clear HO635; clear HB; have HO635 := n0_; have HB := n1_; clear n0_ n1_; try clear hb) | ((with_reducible refine gate_callee (f := 24) rfl ?_); refine goesL_ (some 52) rfl rfl Tryd.func24 (by kernel_rfl) rfl #[.int .i64 t642, .string t643] rfl ka_ ?_; (with_reducible refine (impl_EncodeLossy.calls (hT := ?sideT) k t642 t643 t644 t645 _ A9.out).mono ?_); (case sideT => first | exact HT.out | exact HT.out.below hb_ | exact HT.out.drawn (by repeat (first | exact Drawn0.refl _ | apply Drawn0.step | assumption))); rintro e w70 ⟨v646, rfl, ho0, hb⟩; refine ⟨_, rfl, ?_⟩; have n0_ := Aside0.mk (Kd.R_elder' (kr_ HO635) (Kd.R_base ho0) hb); have n1_ := Aside0.mk (Kd.R_lower (Kd.R_new' ho0 (Kd.R_lt (kr_ HO635))) (below_size hb_)); have n2_ := Aside0.mk (below_step hb_ hb); clear HO635; clear HB; have HO635 := n0_; have HO647 := n1_; have HB := n2_; clear n0_ n1_ n2_; try clear hb; (try clear ho0)) | ((with_reducible refine gate_callee (f := 23) rfl ?_); refine goesL_ (some 58) rfl rfl Tryd.func23 (by kernel_rfl) rfl #[.int .i64 t642, .string t643] rfl ka_ ?_; (with_reducible refine (spec_EncodeLossy.calls k t642 t643 t648 t649 _ A10.out).mono ?_); rintro e w71 ⟨v650, rfl, ho0, hb⟩; refine ⟨_, rfl, ?_⟩; have n0_ := Aside0.mk (Kd.R_elder' (kr_ HO635) (Kd.R_base ho0) hb); have n1_ := Aside0.mk (Kd.R_elder' (kr_ HO647) (Kd.R_base ho0) hb); have n2_ := Aside0.mk (Kd.R_lower (Kd.R_new' (Kd.R_new' ho0 (Kd.R_lt (kr_ HO635))) (Kd.R_lt (kr_ HO647))) (below_size hb_)); have n3_ := Aside0.mk (below_step hb_ hb); clear HO635; clear HO647; clear HB; have HO635 := n0_; have HO647 := n1_; have HO651 := n2_; have HB := n3_; clear n0_ n1_ n2_ n3_; try clear hb; (try clear ho0)) | ((with_reducible refine gate_callee (f := 19) rfl ?_); refine goesL_ (some 64) rfl rfl Tryd.func19 (by kernel_rfl) rfl #[.int .i64 t642, .string t643] rfl ka_ ?_; (with_reducible refine (impl_Encode.calls (hT := ?sideT) k t642 t643 t652 false _ A11.out).mono ?_); (case sideT => first | exact HT.out | exact HT.out.below hb_ | exact HT.out.drawn (by repeat (first | exact Drawn0.refl _ | apply Drawn0.step | assumption))); rintro e w72 ⟨v654, rfl, ho0, hb⟩; refine ⟨_, rfl, ?_⟩; have n0_ := Aside0.mk (Kd.R_elder' (kr_ HO635) (Kd.R_base ho0) hb); have n1_ := Aside0.mk (Kd.R_elder' (kr_ HO647) (Kd.R_base ho0) hb); have n2_ := Aside0.mk (Kd.R_elder' (kr_ HO651) (Kd.R_base ho0) hb); have n3_ := Aside0.mk (Kd.R_lower (Kd.R_new' (Kd.R_new' (Kd.R_new' ho0 (Kd.R_lt (kr_ HO635))) (Kd.R_lt (kr_ HO647))) (Kd.R_lt (kr_ HO651))) (below_size hb_)); have n4_ := Aside0.mk (below_step hb_ hb); clear HO635; clear HO647; clear HO651; clear HB; have HO635 := n0_; have HO647 := n1_; have HO651 := n2_; have HO655 := n3_; have HB := n4_; clear n0_ n1_ n2_ n3_ n4_; try clear hb; (try clear ho0); have hcv73 := own_string (P := Tryd.prog) Tryd.underlying23 Tryd.underlying5 Tryd.underlying9 (Kd.own_of_R HO647.out); try have hcn73 := fun n_ : Nat => own_string (P := Tryd.prog) Tryd.underlying23 Tryd.underlying5 Tryd.underlying9 (Kd.own_of_R (Kd.R_drewN HO647.out n_)); have hcv74 := own_string (P := Tryd.prog) Tryd.underlying23 Tryd.underlying5 Tryd.underlying9 (Kd.own_of_R HO651.out); try have hcn74 := fun n_ : Nat => own_string (P := Tryd.prog) Tryd.underlying23 Tryd.underlying5 Tryd.underlying9 (Kd.own_of_R (Kd.R_drewN HO651.out n_))) | (go_at_call 65; (with_reducible refine (impl_Utf8Ok.calls (hT := ?sideT) t636 true _ A16.out).mono ?_); (case sideT => first | exact HT.out | exact HT.out.below hb_ | exact HT.out.drawn (by repeat (first | exact Drawn0.refl _ | apply Drawn0.step | assumption))); rintro e w75 ⟨rfl, hb⟩; have n0_ := Aside0.mk (Kd.R_below (kr_ HO635) hb); have n1_ := Aside0.mk (Kd.R_below (kr_ HO647) hb); have n2_ := Aside0.mk (Kd.R_below (kr_ HO651) hb); have n3_ := Aside0.mk (Kd.R_below (kr_ HO655) hb); have n4_ := Aside0.mk (below_step hb_ hb); clear HO635; clear HO647; clear HO651; clear HO655; clear HB; have HO635 := n0_; have HO647 := n1_; have HO651 := n2_; have HO655 := n3_; have HB := n4_; clear n0_ n1_ n2_ n3_ n4_; try clear hb))
           go_ret
           exact ⟨rf_, hb_⟩
         ·rw [if_neg c20] at H
          have c20b0 : (t636.toList == t640.toList) = false := beq_eq_false_iff_ne.mpr c20
          have c20b1 : (t636.toList != t640.toList) = true := bne_iff_ne.mpr c20
          obtain rfl := Option.some.inj H
          cases hr_
        ·rw [if_neg c19] at H
         have c19b0 : (t637 == 0) = false := beq_eq_false_iff_ne.mpr c19
         have c19b1 : (t637 != 0) = true := bne_iff_ne.mpr c19
         obtain rfl := Option.some.inj H
         cases hr_
       ·replace c18 := Bool.eq_false_iff.mpr c18
        subst c18
        rw [if_neg (show ¬ (false = true) by decide)] at H
        by_cases c100 : t653 = true
        ·subst c100
         rw [if_pos rfl] at H
         by_cases c101 : t645 = 0
         ·rw [if_pos c101] at H
          have c101b0 : (t645 == 0) = true := beq_iff_eq.mpr c101
          have c101b1 : (t645 != 0) = false := bne_eq_false_iff_eq.mpr c101
          clear c101
          by_cases c102 : (strOfNums t644).toList = (strOfNums t652).toList
          ·rw [if_pos c102] at H
           have c102b0 : ((strOfNums t644).toList == (strOfNums t652).toList) = true := beq_iff_eq.mpr c102
           have c102b1 : ((strOfNums t644).toList != (strOfNums t652).toList) = false := bne_eq_false_iff_eq.mpr c102
           clear c102
           by_cases c103 : t637 > 0
           ·rw [if_pos c103] at H
            have c103b0 : decide (0 < t637) = true := decide_eq_true c103
            clear c103
            obtain rfl := Option.some.inj H
            clear hr_
            go_enter Tryd.func15, Tryd.ntmps15
            go_wp2_with (first | ((with_reducible refine gate_callee (f := 42) rfl ?_); refine goesL_ (some 20) rfl rfl Tryd.func42 (by kernel_rfl) rfl #[.slice A0 l0.length c0] rfl ka_ ?_; (with_reducible refine (laws_big.calls _ _ l0 false _ ?side1 ?side2 A2.out).mono ?_); (case side1 => repeat (first | exact HR0.out | (with_reducible refine Kd.C_alloc ?_ _) | (with_reducible refine Kd.C_drewN ?_ _) | (with_reducible refine Kd.C_drew ?_))); (case side2 => exact HC0.out); rintro e w' ⟨rfl, ⟨nd, rfl⟩⟩; refine ⟨_, rfl, ?_⟩) | ((with_reducible refine gate_callee (f := 56) rfl ?_); refine goesL_ (some 23) rfl rfl Tryd.func56 (by kernel_rfl) rfl #[.slice A0 l0.length c0] rfl ka_ ?_; (with_reducible refine (spec_DrawDecodeLossy.calls k _ _ l0 t632 t633 _ ?side1 ?side2 A4.out).mono ?_); (case side1 => repeat (first | exact HR0.out | (with_reducible refine Kd.C_alloc ?_ _) | (with_reducible refine Kd.C_drewN ?_ _) | (with_reducible refine Kd.C_drew ?_))); (case side2 => exact HC0.out); rintro e w104 ⟨v634, rfl, ho0, hb⟩; refine ⟨_, rfl, ?_⟩; have n0_ := Aside0.mk (Kd.R_lower ho0 (below_size hb_)); have n1_ := Aside0.mk (below_step hb_ hb); clear HB; have HO635 := n0_; have HB := n1_; clear n0_ n1_; try clear hb; (try clear ho0); obtain ⟨Ao105, co105, eo105⟩ := Kd.R_slice HO635.out; subst eo105) | ((with_reducible refine gate_callee (f := 66) rfl ?_); refine goesL_ (some 29) rfl rfl Tryd.func66 (by kernel_rfl) rfl #[.int .i64 t632, .slice Ao105 t633.length co105] rfl ka_ ?_; (with_reducible refine (impl_DecodeLossy.calls (hT := ?sideT) k t632 _ _ t633 t636 t637 _ ?side1 ?side2 A5.out).mono ?_); (case sideT => first | exact HT.out | exact HT.out.below hb_ | exact HT.out.drawn (by repeat (first | exact Drawn0.refl _ | apply Drawn0.step | assumption))); (case side1 => exact kc_ (Kd.R_reads' HO635.out).2.2); (case side2 => exact (Kd.R_reads' HO635.out).2.1); rintro e w106 ⟨rfl, hb⟩; refine ⟨_, rfl, ?_⟩; have n0_ := Aside0.mk (Kd.R_below (kr_ HO635) hb); have n1_ := Aside0.mk (below_step hb_ hb); clear HO635; clear HB; have HO635 := n0_; have HB := n1_; clear n0_ n1_; try clear hb) | ((with_reducible refine gate_callee (f := 67) rfl ?_); refine goesL_ (some 35) rfl rfl Tryd.func67 (by kernel_rfl) rfl #[.int .i64 t632, .slice Ao105 t633.length co105] rfl ka_ ?_; (with_reducible refine (spec_DecodeLossy.calls k t632 _ _ t633 t638 t639 _ ?side1 ?side2 A6.out).mono ?_); (case side1 => exact kc_ (Kd.R_reads' HO635.out).2.2); (case side2 => exact (Kd.R_reads' HO635.out).2.1); rintro e w107 ⟨rfl, hb⟩; refine ⟨_, rfl, ?_⟩; have n0_ := Aside0.mk (Kd.R_below (kr_ HO635) hb); have n1_ := Aside0.mk (below_step hb_ hb); clear HO635; clear HB; have HO635 := n0_; have HB := n1_; clear n0_ n1_; try clear hb) | ((with_reducible refine gate_callee (f := 44) rfl ?_); refine goesL_ (some 41) rfl rfl Tryd.func44 (by kernel_rfl) rfl #[.int .i64 t632, .slice Ao105 t633.length co105] rfl ka_ ?_; (with_reducible refine (impl_Decode.calls (hT := ?sideT) k t632 _ _ t633 t640 false _ ?side1 ?side2 A7.out).mono ?_); (case sideT => first | exact HT.out | exact HT.out.below hb_ | exact HT.out.drawn (by repeat (first | exact Drawn0.refl _ | apply Drawn0.step | assumption))); (case side1 => exact kc_ (Kd.R_reads' HO635.out).2.2); (case side2 => exact (Kd.R_reads' HO635.out).2.1); rintro e w108 ⟨rfl, hb⟩; refine ⟨_, rfl, ?_⟩; have n0_ := Aside0.mk (Kd.R_below (kr_ HO635) hb); have n1_ := Aside0.mk (below_step hb_ hb); clear HO635; clear HB; have HO635 := n0_; have HB := n1_; clear n0_ n1_; try clear hb) | ((with_reducible refine gate_callee (f := 68) rfl ?_); refine goesL_ (some 46) rfl rfl Tryd.func68 (by kernel_rfl) rfl #[.slice A0 l0.length c0] rfl ka_ ?_; (with_reducible refine (spec_DrawEncodeLossy.calls k _ _ l0 t642 t643 _ ?side1 ?side2 A8.out).mono ?_); (case side1 => repeat (first | exact (Kd.C_below HR0.out HB.out) | (with_reducible refine Kd.C_alloc ?_ _) | (with_reducible refine Kd.C_drewN ?_ _) | (with_reducible refine Kd.C_drew ?_))); (case side2 => exact HC0.out); rintro e w109 ⟨rfl, hb⟩; refine ⟨_, rfl, ?_⟩; have n0_ := Aside0.mk (Kd.R_below (kr_ HO635) hb); have n1_ := Aside0.mk (below_step hb_ hb); clear HO635; clear HB; have HO635 := n0_; have HB := n1_; clear n0_ n1_; try clear hb) | ((with_reducible refine gate_callee (f := 24) rfl ?_); refine goesL_ (some 52) rfl rfl Tryd.func24 (by kernel_rfl) rfl #[.int .i64 t642, .string t643] rfl ka_ ?_; (with_reducible refine (impl_EncodeLossy.calls (hT := ?sideT) k t642 t643 t644 t645 _ A9.out).mono ?_); (case sideT => first | exact HT.out | exact HT.out.below hb_ | exact HT.out.drawn (by repeat (first | exact Drawn0.refl _ | apply Drawn0.step | assumption))); rintro e w110 ⟨v646, rfl, ho0, hb⟩; refine ⟨_, rfl, ?_⟩; have n0_ := Aside0.mk (Kd.R_elder' (kr_ HO635) (Kd.R_base ho0) hb); have n1_ := Aside0.mk (Kd.R_lower (Kd.R_new' ho0 (Kd.R_lt (kr_ HO635))) (below_size hb_)); have n2_ := Aside0.mk (below_step hb_ hb); clear HO635; clear HB; have HO635 := n0_; have HO647 := n1_; have HB := n2_; clear n0_ n1_ n2_; try clear hb; (try clear ho0)) | ((with_reducible refine gate_callee (f := 23) rfl ?_); refine goesL_ (some 58) rfl rfl Tryd.func23 (by kernel_rfl) rfl #[.int .i64 t642, .string t643] rfl ka_ ?_; (with_reducible refine (spec_EncodeLossy.calls k t642 t643 t648 t649 _ A10.out).mono ?_); rintro e w111 ⟨v650, rfl, ho0, hb⟩; refine ⟨_, rfl, ?_⟩; have n0_ := Aside0.mk (Kd.R_elder' (kr_ HO635) (Kd.R_base ho0) hb); have n1_ := Aside0.mk (Kd.R_elder' (kr_ HO647) (Kd.R_base ho0) hb); have n2_ := Aside0.mk (Kd.R_lower (Kd.R_new' (Kd.R_new' ho0 (Kd.R_lt (kr_ HO635))) (Kd.R_lt (kr_ HO647))) (below_size hb_)); have n3_ := Aside0.mk (below_step hb_ hb); clear HO635; clear HO647; clear HB; have HO635 := n0_; have HO647 := n1_; have HO651 := n2_; have HB := n3_; clear n0_ n1_ n2_ n3_; try clear hb; (try clear ho0)) | ((with_reducible refine gate_callee (f := 19) rfl ?_); refine goesL_ (some 64) rfl rfl Tryd.func19 (by kernel_rfl) rfl #[.int .i64 t642, .string t643] rfl ka_ ?_; (with_reducible refine (impl_Encode.calls (hT := ?sideT) k t642 t643 t652 true _ A11.out).mono ?_); (case sideT => first | exact HT.out | exact HT.out.below hb_ | exact HT.out.drawn (by repeat (first | exact Drawn0.refl _ | apply Drawn0.step | assumption))); rintro e w112 ⟨v654, rfl, ho0, hb⟩; refine ⟨_, rfl, ?_⟩; have n0_ := Aside0.mk (Kd.R_elder' (kr_ HO635) (Kd.R_base ho0) hb); have n1_ := Aside0.mk (Kd.R_elder' (kr_ HO647) (Kd.R_base ho0) hb); have n2_ := Aside0.mk (Kd.R_elder' (kr_ HO651) (Kd.R_base ho0) hb); have n3_ := Aside0.mk (Kd.R_lower (Kd.R_new' (Kd.R_new' (Kd.R_new' ho0 (Kd.R_lt (kr_ HO635))) (Kd.R_lt (kr_ HO647))) (Kd.R_lt (kr_ HO651))) (below_size hb_)); have n4_ := Aside0.mk (below_step hb_ hb); clear HO635; clear HO647; clear HO651; clear HB; have HO635 := n0_; have HO647 := n1_; have HO651 := n2_; have HO655 := n3_; have HB := n4_; clear n0_ n1_ n2_ n3_ n4_; try clear hb; (try clear ho0); have hcv113 := own_string (P := Tryd.prog) Tryd.underlying23 Tryd.underlying5 Tryd.underlying9 (Kd.own_of_R HO647.out); try have hcn113 := fun n_ : Nat => own_string (P := Tryd.prog) Tryd.underlying23 Tryd.underlying5 Tryd.underlying9 (Kd.own_of_R (Kd.R_drewN HO647.out n_)); have hcv114 := own_string (P := Tryd.prog) Tryd.underlying23 Tryd.underlying5 Tryd.underlying9 (Kd.own_of_R HO651.out); try have hcn114 := fun n_ : Nat => own_string (P := Tryd.prog) Tryd.underlying23 Tryd.underlying5 Tryd.underlying9 (Kd.own_of_R (Kd.R_drewN HO651.out n_))) | (go_at_call 65; (with_reducible refine (impl_Utf8Ok.calls (hT := ?sideT) t636 true _ A16.out).mono ?_); (case sideT => first | exact HT.out | exact HT.out.below hb_ | exact HT.out.drawn (by repeat (first | exact Drawn0.refl _ | apply Drawn0.step | assumption))); rintro e w115 ⟨rfl, hb⟩; have n0_ := Aside0.mk (Kd.R_below (kr_ HO635) hb); have n1_ := Aside0.mk (Kd.R_below (kr_ HO647) hb); have n2_ := Aside0.mk (Kd.R_below (kr_ HO651) hb); have n3_ := Aside0.mk (Kd.R_below (kr_ HO655) hb); have n4_ := Aside0.mk (below_step hb_ hb); clear HO635; clear HO647; clear HO651; clear HO655; clear HB; have HO635 := n0_; have HO647 := n1_; have HO651 := n2_; have HO655 := n3_; have HB := n4_; clear n0_ n1_ n2_ n3_ n4_; try clear hb; have hcv116 := own_string (P := Tryd.prog) Tryd.underlying23 Tryd.underlying5 Tryd.underlying9 (Kd.own_of_R HO647.out); try have hcn116 := fun n_ : Nat => own_string (P := Tryd.prog) Tryd.underlying23 Tryd.underlying5 Tryd.underlying9 (Kd.own_of_R (Kd.R_drewN HO647.out n_)); have hcv117 := own_string (P := Tryd.prog) Tryd.underlying23 Tryd.underlying5 Tryd.underlying9 (Kd.own_of_R HO655.out); try have hcn117 := fun n_ : Nat => own_string (P := Tryd.prog) Tryd.underlying23 Tryd.underlying5 Tryd.underlying9 (Kd.own_of_R (Kd.R_drewN HO655.out n_))))
            go_ret
            exact ⟨rf_, hb_⟩
           ·rw [if_neg c103] at H
            have c103b0 : decide (0 < t637) = false := decide_eq_false c103
            clear c103
            obtain rfl := Option.some.inj H
            clear hr_
            go_enter Tryd.func15, Tryd.ntmps15
            go_wp2_with (first | ((with_reducible refine gate_callee (f := 42) rfl ?_); refine goesL_ (some 20) rfl rfl Tryd.func42 (by kernel_rfl) rfl #[.slice A0 l0.length c0] rfl ka_ ?_; (with_reducible refine (laws_big.calls _ _ l0 false _ ?side1 ?side2 A2.out).mono ?_); (case side1 => repeat (first | exact HR0.out | (with_reducible refine Kd.C_alloc ?_ _) | (with_reducible refine Kd.C_drewN ?_ _) | (with_reducible refine Kd.C_drew ?_))); (case side2 => exact HC0.out); rintro e w' ⟨rfl, ⟨nd, rfl⟩⟩; refine ⟨_, rfl, ?_⟩) | ((with_reducible refine gate_callee (f := 56) rfl ?_); refine goesL_ (some 23) rfl rfl Tryd.func56 (by kernel_rfl) rfl #[.slice A0 l0.length c0] rfl ka_ ?_; (with_reducible refine (spec_DrawDecodeLossy.calls k _ _ l0 t632 t633 _ ?side1 ?side2 A4.out).mono ?_); (case side1 => repeat (first | exact HR0.out | (with_reducible refine Kd.C_alloc ?_ _) | (with_reducible refine Kd.C_drewN ?_ _) | (with_reducible refine Kd.C_drew ?_))); (case side2 => exact HC0.out); rintro e w118 ⟨v634, rfl, ho0, hb⟩; refine ⟨_, rfl, ?_⟩; have n0_ := Aside0.mk (Kd.R_lower ho0 (below_size hb_)); have n1_ := Aside0.mk (below_step hb_ hb); clear HB; have HO635 := n0_; have HB := n1_; clear n0_ n1_; try clear hb; (try clear ho0); obtain ⟨Ao119, co119, eo119⟩ := Kd.R_slice HO635.out; subst eo119) | ((with_reducible refine gate_callee (f := 66) rfl ?_); refine goesL_ (some 29) rfl rfl Tryd.func66 (by kernel_rfl) rfl #[.int .i64 t632, .slice Ao119 t633.length co119] rfl ka_ ?_; (with_reducible refine (impl_DecodeLossy.calls (hT := ?sideT) k t632 _ _ t633 t636 t637 _ ?side1 ?side2 A5.out).mono ?_); (case sideT => first | exact HT.out | exact HT.out.below hb_ | exact HT.out.drawn (by repeat (first | exact Drawn0.refl _ | apply Drawn0.step | assumption))); (case side1 => exact kc_ (Kd.R_reads' HO635.out).2.2); (case side2 => exact (Kd.R_reads' HO635.out).2.1); rintro e w120 ⟨rfl, hb⟩; refine ⟨_, rfl, ?_⟩; have n0_ := Aside0.mk (Kd.R_below (kr_ HO635) hb); have n1_ := Aside0.mk (below_step hb_ hb); clear HO635; clear HB; have HO635 := n0_; have HB := n1_; clear n0_ n1_; try clear hb) | ((with_reducible refine gate_callee (f := 67) rfl ?_); refine goesL_ (some 35) rfl rfl Tryd.func67 (by kernel_rfl) rfl #[.int .i64 t632, .slice Ao119 t633.length co119] rfl ka_ ?_; (with_reducible refine (spec_DecodeLossy.calls k t632 _ _ t633 t638 t639 _ ?side1 ?side2 A6.out).mono ?_); (case side1 => exact kc_ (Kd.R_reads' HO635.out).2.2); (case side2 => exact (Kd.R_reads' HO635.out).2.1); rintro e w121 ⟨rfl, hb⟩; refine ⟨_, rfl, ?_⟩; have n0_ := Aside0.mk (Kd.R_below (kr_ HO635) hb); have n1_ := Aside0.mk (below_step hb_ hb); clear HO635; clear HB; have HO635 := n0_; have HB := n1_; clear n0_ n1_; try clear hb) | ((with_reducible refine gate_callee (f := 44) rfl ?_); refine goesL_ (some 41) rfl rfl Tryd.func44 (by kernel_rfl) rfl #[.int .i64 t632, .slice Ao119 t633.length co119] rfl ka_ ?_; (with_reducible refine (impl_Decode.calls (hT := ?sideT) k t632 _ _ t633 t640 false _ ?side1 ?side2 A7.out).mono ?_); (case sideT => first | exact HT.out | exact HT.out.below hb_ | exact HT.out.drawn (by repeat (first | exact Drawn0.refl _ | apply Drawn0.step | assumption))); (case side1 => exact kc_ (Kd.R_reads' HO635.out).2.2); (case side2 => exact (Kd.R_reads' HO635.out).2.1); rintro e w122 ⟨rfl, hb⟩; refine ⟨_, rfl, ?_⟩; have n0_ := Aside0.mk (Kd.R_below (kr_ HO635) hb); have n1_ := Aside0.mk (below_step hb_ hb); clear HO635; clear HB; have HO635 := n0_; have HB := n1_; clear n0_ n1_; try clear hb) | ((with_reducible refine gate_callee (f := 68) rfl ?_); refine goesL_ (some 46) rfl rfl Tryd.func68 (by kernel_rfl) rfl #[.slice A0 l0.length c0] rfl ka_ ?_; (with_reducible refine (spec_DrawEncodeLossy.calls k _ _ l0 t642 t643 _ ?side1 ?side2 A8.out).mono ?_); (case side1 => repeat (first | exact (Kd.C_below HR0.out HB.out) | (with_reducible refine Kd.C_alloc ?_ _) | (with_reducible refine Kd.C_drewN ?_ _) | (with_reducible refine Kd.C_drew ?_))); (case side2 => exact HC0.out); rintro e w123 ⟨rfl, hb⟩; refine ⟨_, rfl, ?_⟩; have n0_ := Aside0.mk (Kd.R_below (kr_ HO635) hb); have n1_ := Aside0.mk (below_step hb_ hb); clear HO635; clear HB; have HO635 := n0_; have HB := n1_; clear n0_ n1_; try clear hb) | ((with_reducible refine gate_callee (f := 24) rfl ?_); refine goesL_ (some 52) rfl rfl Tryd.func24 (by kernel_rfl) rfl #[.int .i64 t642, .string t643] rfl ka_ ?_; (with_reducible refine (impl_EncodeLossy.calls (hT := ?sideT) k t642 t643 t644 t645 _ A9.out).mono ?_); (case sideT => first | exact HT.out | exact HT.out.below hb_ | exact HT.out.drawn (by repeat (first | exact Drawn0.refl _ | apply Drawn0.step | assumption))); rintro e w124 ⟨v646, rfl, ho0, hb⟩; refine ⟨_, rfl, ?_⟩; have n0_ := Aside0.mk (Kd.R_elder' (kr_ HO635) (Kd.R_base ho0) hb); have n1_ := Aside0.mk (Kd.R_lower (Kd.R_new' ho0 (Kd.R_lt (kr_ HO635))) (below_size hb_)); have n2_ := Aside0.mk (below_step hb_ hb); clear HO635; clear HB; have HO635 := n0_; have HO647 := n1_; have HB := n2_; clear n0_ n1_ n2_; try clear hb; (try clear ho0)) | ((with_reducible refine gate_callee (f := 23) rfl ?_); refine goesL_ (some 58) rfl rfl Tryd.func23 (by kernel_rfl) rfl #[.int .i64 t642, .string t643] rfl ka_ ?_; (with_reducible refine (spec_EncodeLossy.calls k t642 t643 t648 t649 _ A10.out).mono ?_); rintro e w125 ⟨v650, rfl, ho0, hb⟩; refine ⟨_, rfl, ?_⟩; have n0_ := Aside0.mk (Kd.R_elder' (kr_ HO635) (Kd.R_base ho0) hb); have n1_ := Aside0.mk (Kd.R_elder' (kr_ HO647) (Kd.R_base ho0) hb); have n2_ := Aside0.mk (Kd.R_lower (Kd.R_new' (Kd.R_new' ho0 (Kd.R_lt (kr_ HO635))) (Kd.R_lt (kr_ HO647))) (below_size hb_)); have n3_ := Aside0.mk (below_step hb_ hb); clear HO635; clear HO647; clear HB; have HO635 := n0_; have HO647 := n1_; have HO651 := n2_; have HB := n3_; clear n0_ n1_ n2_ n3_; try clear hb; (try clear ho0)) | ((with_reducible refine gate_callee (f := 19) rfl ?_); refine goesL_ (some 64) rfl rfl Tryd.func19 (by kernel_rfl) rfl #[.int .i64 t642, .string t643] rfl ka_ ?_; (with_reducible refine (impl_Encode.calls (hT := ?sideT) k t642 t643 t652 true _ A11.out).mono ?_); (case sideT => first | exact HT.out | exact HT.out.below hb_ | exact HT.out.drawn (by repeat (first | exact Drawn0.refl _ | apply Drawn0.step | assumption))); rintro e w126 ⟨v654, rfl, ho0, hb⟩; refine ⟨_, rfl, ?_⟩; have n0_ := Aside0.mk (Kd.R_elder' (kr_ HO635) (Kd.R_base ho0) hb); have n1_ := Aside0.mk (Kd.R_elder' (kr_ HO647) (Kd.R_base ho0) hb); have n2_ := Aside0.mk (Kd.R_elder' (kr_ HO651) (Kd.R_base ho0) hb); have n3_ := Aside0.mk (Kd.R_lower (Kd.R_new' (Kd.R_new' (Kd.R_new' ho0 (Kd.R_lt (kr_ HO635))) (Kd.R_lt (kr_ HO647))) (Kd.R_lt (kr_ HO651))) (below_size hb_)); have n4_ := Aside0.mk (below_step hb_ hb); clear HO635; clear HO647; clear HO651; clear HB; have HO635 := n0_; have HO647 := n1_; have HO651 := n2_; have HO655 := n3_; have HB := n4_; clear n0_ n1_ n2_ n3_ n4_; try clear hb; (try clear ho0); have hcv127 := own_string (P := Tryd.prog) Tryd.underlying23 Tryd.underlying5 Tryd.underlying9 (Kd.own_of_R HO647.out); try have hcn127 := fun n_ : Nat => own_string (P := Tryd.prog) Tryd.underlying23 Tryd.underlying5 Tryd.underlying9 (Kd.own_of_R (Kd.R_drewN HO647.out n_)); have hcv128 := own_string (P := Tryd.prog) Tryd.underlying23 Tryd.underlying5 Tryd.underlying9 (Kd.own_of_R HO651.out); try have hcn128 := fun n_ : Nat => own_string (P := Tryd.prog) Tryd.underlying23 Tryd.underlying5 Tryd.underlying9 (Kd.own_of_R (Kd.R_drewN HO651.out n_))) | (go_at_call 65; (with_reducible refine (impl_Utf8Ok.calls (hT := ?sideT) t636 true _ A16.out).mono ?_); (case sideT => first | exact HT.out | exact HT.out.below hb_ | exact HT.out.drawn (by repeat (first | exact Drawn0.refl _ | apply Drawn0.step | assumption))); rintro e w129 ⟨rfl, hb⟩; have n0_ := Aside0.mk (Kd.R_below (kr_ HO635) hb); have n1_ := Aside0.mk (Kd.R_below (kr_ HO647) hb); have n2_ := Aside0.mk (Kd.R_below (kr_ HO651) hb); have n3_ := Aside0.mk (Kd.R_below (kr_ HO655) hb); have n4_ := Aside0.mk (below_step hb_ hb); clear HO635; clear HO647; clear HO651; clear HO655; clear HB; have HO635 := n0_; have HO647 := n1_; have HO651 := n2_; have HO655 := n3_; have HB := n4_; clear n0_ n1_ n2_ n3_ n4_; try clear hb; have hcv130 := own_string (P := Tryd.prog) Tryd.underlying23 Tryd.underlying5 Tryd.underlying9 (Kd.own_of_R HO647.out); try have hcn130 := fun n_ : Nat => own_string (P := Tryd.prog) Tryd.underlying23 Tryd.underlying5 Tryd.underlying9 (Kd.own_of_R (Kd.R_drewN HO647.out n_)); have hcv131 := own_string (P := Tryd.prog) Tryd.underlying23 Tryd.underlying5 Tryd.underlying9 (Kd.own_of_R HO655.out); try have hcn131 := fun n_ : Nat => own_string (P := Tryd.prog) Tryd.underlying23 Tryd.underlying5 Tryd.underlying9 (Kd.own_of_R (Kd.R_drewN HO655.out n_))))
            go_ret
            exact ⟨rf_, hb_⟩
          ·rw [if_neg c102] at H
           have c102b0 : ((strOfNums t644).toList == (strOfNums t652).toList) = false := beq_eq_false_iff_ne.mpr c102
           have c102b1 : ((strOfNums t644).toList != (strOfNums t652).toList) = true := bne_iff_ne.mpr c102
           obtain rfl := Option.some.inj H
           cases hr_
         ·rw [if_neg c101] at H
          have c101b0 : (t645 == 0) = false := beq_eq_false_iff_ne.mpr c101
          have c101b1 : (t645 != 0) = true := bne_iff_ne.mpr c101
          obtain rfl := Option.some.inj H
          cases hr_
        ·replace c100 := Bool.eq_false_iff.mpr c100
         subst c100
         rw [if_neg (show ¬ (false = true) by decide)] at H
         by_cases c158 : t637 > 0
         ·rw [if_pos c158] at H
          have c158b0 : decide (0 < t637) = true := decide_eq_true c158
          clear c158
          obtain rfl := Option.some.inj H
          clear hr_
          go_enter Tryd.func15, Tryd.ntmps15
          go_wp2_with (first | ((with_reducible refine gate_callee (f := 42) rfl ?_); refine goesL_ (some 20) rfl rfl Tryd.func42 (by kernel_rfl) rfl #[.slice A0 l0.length c0] rfl ka_ ?_; (with_reducible refine (laws_big.calls _ _ l0 false _ ?side1 ?side2 A2.out).mono ?_); (case side1 => repeat (first | exact HR0.out | (with_reducible refine Kd.C_alloc ?_ _) | (with_reducible refine Kd.C_drewN ?_ _) | (with_reducible refine Kd.C_drew ?_))); (case side2 => exact HC0.out); rintro e w' ⟨rfl, ⟨nd, rfl⟩⟩; refine ⟨_, rfl, ?_⟩) | ((with_reducible refine gate_callee (f := 56) rfl ?_); refine goesL_ (some 23) rfl rfl Tryd.func56 (by kernel_rfl) rfl #[.slice A0 l0.length c0] rfl ka_ ?_; (with_reducible refine (spec_DrawDecodeLossy.calls k _ _ l0 t632 t633 _ ?side1 ?side2 A4.out).mono ?_); (case side1 => repeat (first | exact HR0.out | (with_reducible refine Kd.C_alloc ?_ _) | (with_reducible refine Kd.C_drewN ?_ _) | (with_reducible refine Kd.C_drew ?_))); (case side2 => exact HC0.out); rintro e w159 ⟨v634, rfl, ho0, hb⟩; refine ⟨_, rfl, ?_⟩; have n0_ := Aside0.mk (Kd.R_lower ho0 (below_size hb_)); have n1_ := Aside0.mk (below_step hb_ hb); clear HB; have HO635 := n0_; have HB := n1_; clear n0_ n1_; try clear hb; (try clear ho0); obtain ⟨Ao160, co160, eo160⟩ := Kd.R_slice HO635.out; subst eo160) | ((with_reducible refine gate_callee (f := 66) rfl ?_); refine goesL_ (some 29) rfl rfl Tryd.func66 (by kernel_rfl) rfl #[.int .i64 t632, .slice Ao160 t633.length co160] rfl ka_ ?_; (with_reducible refine (impl_DecodeLossy.calls (hT := ?sideT) k t632 _ _ t633 t636 t637 _ ?side1 ?side2 A5.out).mono ?_); (case sideT => first | exact HT.out | exact HT.out.below hb_ | exact HT.out.drawn (by repeat (first | exact Drawn0.refl _ | apply Drawn0.step | assumption))); (case side1 => exact kc_ (Kd.R_reads' HO635.out).2.2); (case side2 => exact (Kd.R_reads' HO635.out).2.1); rintro e w161 ⟨rfl, hb⟩; refine ⟨_, rfl, ?_⟩; have n0_ := Aside0.mk (Kd.R_below (kr_ HO635) hb); have n1_ := Aside0.mk (below_step hb_ hb); clear HO635; clear HB; have HO635 := n0_; have HB := n1_; clear n0_ n1_; try clear hb) | ((with_reducible refine gate_callee (f := 67) rfl ?_); refine goesL_ (some 35) rfl rfl Tryd.func67 (by kernel_rfl) rfl #[.int .i64 t632, .slice Ao160 t633.length co160] rfl ka_ ?_; (with_reducible refine (spec_DecodeLossy.calls k t632 _ _ t633 t638 t639 _ ?side1 ?side2 A6.out).mono ?_); (case side1 => exact kc_ (Kd.R_reads' HO635.out).2.2); (case side2 => exact (Kd.R_reads' HO635.out).2.1); rintro e w162 ⟨rfl, hb⟩; refine ⟨_, rfl, ?_⟩; have n0_ := Aside0.mk (Kd.R_below (kr_ HO635) hb); have n1_ := Aside0.mk (below_step hb_ hb); clear HO635; clear HB; have HO635 := n0_; have HB := n1_; clear n0_ n1_; try clear hb) | ((with_reducible refine gate_callee (f := 44) rfl ?_); refine goesL_ (some 41) rfl rfl Tryd.func44 (by kernel_rfl) rfl #[.int .i64 t632, .slice Ao160 t633.length co160] rfl ka_ ?_; (with_reducible refine (impl_Decode.calls (hT := ?sideT) k t632 _ _ t633 t640 false _ ?side1 ?side2 A7.out).mono ?_); (case sideT => first | exact HT.out | exact HT.out.below hb_ | exact HT.out.drawn (by repeat (first | exact Drawn0.refl _ | apply Drawn0.step | assumption))); (case side1 => exact kc_ (Kd.R_reads' HO635.out).2.2); (case side2 => exact (Kd.R_reads' HO635.out).2.1); rintro e w163 ⟨rfl, hb⟩; refine ⟨_, rfl, ?_⟩; have n0_ := Aside0.mk (Kd.R_below (kr_ HO635) hb); have n1_ := Aside0.mk (below_step hb_ hb); clear HO635; clear HB; have HO635 := n0_; have HB := n1_; clear n0_ n1_; try clear hb) | ((with_reducible refine gate_callee (f := 68) rfl ?_); refine goesL_ (some 46) rfl rfl Tryd.func68 (by kernel_rfl) rfl #[.slice A0 l0.length c0] rfl ka_ ?_; (with_reducible refine (spec_DrawEncodeLossy.calls k _ _ l0 t642 t643 _ ?side1 ?side2 A8.out).mono ?_); (case side1 => repeat (first | exact (Kd.C_below HR0.out HB.out) | (with_reducible refine Kd.C_alloc ?_ _) | (with_reducible refine Kd.C_drewN ?_ _) | (with_reducible refine Kd.C_drew ?_))); (case side2 => exact HC0.out); rintro e w164 ⟨rfl, hb⟩; refine ⟨_, rfl, ?_⟩; have n0_ := Aside0.mk (Kd.R_below (kr_ HO635) hb); have n1_ := Aside0.mk (below_step hb_ hb); clear HO635; clear HB; have HO635 := n0_; have HB := n1_; clear n0_ n1_; try clear hb) | ((with_reducible refine gate_callee (f := 24) rfl ?_); refine goesL_ (some 52) rfl rfl Tryd.func24 (by kernel_rfl) rfl #[.int .i64 t642, .string t643] rfl ka_ ?_; (with_reducible refine (impl_EncodeLossy.calls (hT := ?sideT) k t642 t643 t644 t645 _ A9.out).mono ?_); (case sideT => first | exact HT.out | exact HT.out.below hb_ | exact HT.out.drawn (by repeat (first | exact Drawn0.refl _ | apply Drawn0.step | assumption))); rintro e w165 ⟨v646, rfl, ho0, hb⟩; refine ⟨_, rfl, ?_⟩; have n0_ := Aside0.mk (Kd.R_elder' (kr_ HO635) (Kd.R_base ho0) hb); have n1_ := Aside0.mk (Kd.R_lower (Kd.R_new' ho0 (Kd.R_lt (kr_ HO635))) (below_size hb_)); have n2_ := Aside0.mk (below_step hb_ hb); clear HO635; clear HB; have HO635 := n0_; have HO647 := n1_; have HB := n2_; clear n0_ n1_ n2_; try clear hb; (try clear ho0)) | ((with_reducible refine gate_callee (f := 23) rfl ?_); refine goesL_ (some 58) rfl rfl Tryd.func23 (by kernel_rfl) rfl #[.int .i64 t642, .string t643] rfl ka_ ?_; (with_reducible refine (spec_EncodeLossy.calls k t642 t643 t648 t649 _ A10.out).mono ?_); rintro e w166 ⟨v650, rfl, ho0, hb⟩; refine ⟨_, rfl, ?_⟩; have n0_ := Aside0.mk (Kd.R_elder' (kr_ HO635) (Kd.R_base ho0) hb); have n1_ := Aside0.mk (Kd.R_elder' (kr_ HO647) (Kd.R_base ho0) hb); have n2_ := Aside0.mk (Kd.R_lower (Kd.R_new' (Kd.R_new' ho0 (Kd.R_lt (kr_ HO635))) (Kd.R_lt (kr_ HO647))) (below_size hb_)); have n3_ := Aside0.mk (below_step hb_ hb); clear HO635; clear HO647; clear HB; have HO635 := n0_; have HO647 := n1_; have HO651 := n2_; have HB := n3_; clear n0_ n1_ n2_ n3_; try clear hb; (try clear ho0)) | ((with_reducible refine gate_callee (f := 19) rfl ?_); refine goesL_ (some 64) rfl rfl Tryd.func19 (by kernel_rfl) rfl #[.int .i64 t642, .string t643] rfl ka_ ?_; (with_reducible refine (impl_Encode.calls (hT := ?sideT) k t642 t643 t652 false _ A11.out).mono ?_); (case sideT => first | exact HT.out | exact HT.out.below hb_ | exact HT.out.drawn (by repeat (first | exact Drawn0.refl _ | apply Drawn0.step | assumption))); rintro e w167 ⟨v654, rfl, ho0, hb⟩; refine ⟨_, rfl, ?_⟩; have n0_ := Aside0.mk (Kd.R_elder' (kr_ HO635) (Kd.R_base ho0) hb); have n1_ := Aside0.mk (Kd.R_elder' (kr_ HO647) (Kd.R_base ho0) hb); have n2_ := Aside0.mk (Kd.R_elder' (kr_ HO651) (Kd.R_base ho0) hb); have n3_ := Aside0.mk (Kd.R_lower (Kd.R_new' (Kd.R_new' (Kd.R_new' ho0 (Kd.R_lt (kr_ HO635))) (Kd.R_lt (kr_ HO647))) (Kd.R_lt (kr_ HO651))) (below_size hb_)); have n4_ := Aside0.mk (below_step hb_ hb); clear HO635; clear HO647; clear HO651; clear HB; have HO635 := n0_; have HO647 := n1_; have HO651 := n2_; have HO655 := n3_; have HB := n4_; clear n0_ n1_ n2_ n3_ n4_; try clear hb; (try clear ho0); have hcv168 := own_string (P := Tryd.prog) Tryd.underlying23 Tryd.underlying5 Tryd.underlying9 (Kd.own_of_R HO647.out); try have hcn168 := fun n_ : Nat => own_string (P := Tryd.prog) Tryd.underlying23 Tryd.underlying5 Tryd.underlying9 (Kd.own_of_R (Kd.R_drewN HO647.out n_)); have hcv169 := own_string (P := Tryd.prog) Tryd.underlying23 Tryd.underlying5 Tryd.underlying9 (Kd.own_of_R HO651.out); try have hcn169 := fun n_ : Nat => own_string (P := Tryd.prog) Tryd.underlying23 Tryd.underlying5 Tryd.underlying9 (Kd.own_of_R (Kd.R_drewN HO651.out n_))) | (go_at_call 65; (with_reducible refine (impl_Utf8Ok.calls (hT := ?sideT) t636 true _ A16.out).mono ?_); (case sideT => first | exact HT.out | exact HT.out.below hb_ | exact HT.out.drawn (by repeat (first | exact Drawn0.refl _ | apply Drawn0.step | assumption))); rintro e w170 ⟨rfl, hb⟩; have n0_ := Aside0.mk (Kd.R_below (kr_ HO635) hb); have n1_ := Aside0.mk (Kd.R_below (kr_ HO647) hb); have n2_ := Aside0.mk (Kd.R_below (kr_ HO651) hb); have n3_ := Aside0.mk (Kd.R_below (kr_ HO655) hb); have n4_ := Aside0.mk (below_step hb_ hb); clear HO635; clear HO647; clear HO651; clear HO655; clear HB; have HO635 := n0_; have HO647 := n1_; have HO651 := n2_; have HO655 := n3_; have HB := n4_; clear n0_ n1_ n2_ n3_ n4_; try clear hb))
          go_ret
          exact ⟨rf_, hb_⟩
         ·rw [if_neg c158] at H
          have c158b0 : decide (0 < t637) = false := decide_eq_false c158
          clear c158
          obtain rfl := Option.some.inj H
          clear hr_
          go_enter Tryd.func15, Tryd.ntmps15
          go_wp2_with (first | ((with_reducible refine gate_callee (f := 42) rfl ?_); refine goesL_ (some 20) rfl rfl Tryd.func42 (by kernel_rfl) rfl #[.slice A0 l0.length c0] rfl ka_ ?_; (with_reducible refine (laws_big.calls _ _ l0 false _ ?side1 ?side2 A2.out).mono ?_); (case side1 => repeat (first | exact HR0.out | (with_reducible refine Kd.C_alloc ?_ _) | (with_reducible refine Kd.C_drewN ?_ _) | (with_reducible refine Kd.C_drew ?_))); (case side2 => exact HC0.out); rintro e w' ⟨rfl, ⟨nd, rfl⟩⟩; refine ⟨_, rfl, ?_⟩) | ((with_reducible refine gate_callee (f := 56) rfl ?_); refine goesL_ (some 23) rfl rfl Tryd.func56 (by kernel_rfl) rfl #[.slice A0 l0.length c0] rfl ka_ ?_; (with_reducible refine (spec_DrawDecodeLossy.calls k _ _ l0 t632 t633 _ ?side1 ?side2 A4.out).mono ?_); (case side1 => repeat (first | exact HR0.out | (with_reducible refine Kd.C_alloc ?_ _) | (with_reducible refine Kd.C_drewN ?_ _) | (with_reducible refine Kd.C_drew ?_))); (case side2 => exact HC0.out); rintro e w171 ⟨v634, rfl, ho0, hb⟩; refine ⟨_, rfl, ?_⟩; have n0_ := Aside0.mk (Kd.R_lower ho0 (below_size hb_)); have n1_ := Aside0.mk (below_step hb_ hb); clear HB; have HO635 := n0_; have HB := n1_; clear n0_ n1_; try clear hb; (try clear ho0); obtain ⟨Ao172, co172, eo172⟩ := Kd.R_slice HO635.out; subst eo172) | ((with_reducible refine gate_callee (f := 66) rfl ?_); refine goesL_ (some 29) rfl rfl Tryd.func66 (by kernel_rfl) rfl #[.int .i64 t632, .slice Ao172 t633.length co172] rfl ka_ ?_; (with_reducible refine (impl_DecodeLossy.calls (hT := ?sideT) k t632 _ _ t633 t636 t637 _ ?side1 ?side2 A5.out).mono ?_); (case sideT => first | exact HT.out | exact HT.out.below hb_ | exact HT.out.drawn (by repeat (first | exact Drawn0.refl _ | apply Drawn0.step | assumption))); (case side1 => exact kc_ (Kd.R_reads' HO635.out).2.2); (case side2 => exact (Kd.R_reads' HO635.out).2.1); rintro e w173 ⟨rfl, hb⟩; refine ⟨_, rfl, ?_⟩; have n0_ := Aside0.mk (Kd.R_below (kr_ HO635) hb); have n1_ := Aside0.mk (below_step hb_ hb); clear HO635; clear HB; have HO635 := n0_; have HB := n1_; clear n0_ n1_; try clear hb) | ((with_reducible refine gate_callee (f := 67) rfl ?_); refine goesL_ (some 35) rfl rfl Tryd.func67 (by kernel_rfl) rfl #[.int .i64 t632, .slice Ao172 t633.length co172] rfl ka_ ?_; (with_reducible refine (spec_DecodeLossy.calls k t632 _ _ t633 t638 t639 _ ?side1 ?side2 A6.out).mono ?_); (case side1 => exact kc_ (Kd.R_reads' HO635.out).2.2); (case side2 => exact (Kd.R_reads' HO635.out).2.1); rintro e w174 ⟨rfl, hb⟩; refine ⟨_, rfl, ?_⟩; have n0_ := Aside0.mk (Kd.R_below (kr_ HO635) hb); have n1_ := Aside0.mk (below_step hb_ hb); clear HO635; clear HB; have HO635 := n0_; have HB := n1_; clear n0_ n1_; try clear hb) | ((with_reducible refine gate_callee (f := 44) rfl ?_); refine goesL_ (some 41) rfl rfl Tryd.func44 (by kernel_rfl) rfl #[.int .i64 t632, .slice Ao172 t633.length co172] rfl ka_ ?_; (with_reducible refine (impl_Decode.calls (hT := ?sideT) k t632 _ _ t633 t640 false _ ?side1 ?side2 A7.out).mono ?_); (case sideT => first | exact HT.out | exact HT.out.below hb_ | exact HT.out.drawn (by repeat (first | exact Drawn0.refl _ | apply Drawn0.step | assumption))); (case side1 => exact kc_ (Kd.R_reads' HO635.out).2.2); (case side2 => exact (Kd.R_reads' HO635.out).2.1); rintro e w175 ⟨rfl, hb⟩; refine ⟨_, rfl, ?_⟩; have n0_ := Aside0.mk (Kd.R_below (kr_ HO635) hb); have n1_ := Aside0.mk (below_step hb_ hb); clear HO635; clear HB; have HO635 := n0_; have HB := n1_; clear n0_ n1_; try clear hb) | ((with_reducible refine gate_callee (f := 68) rfl ?_); refine goesL_ (some 46) rfl rfl Tryd.func68 (by kernel_rfl) rfl #[.slice A0 l0.length c0] rfl ka_ ?_; (with_reducible refine (spec_DrawEncodeLossy.calls k _ _ l0 t642 t643 _ ?side1 ?side2 A8.out).mono ?_); (case side1 => repeat (first | exact (Kd.C_below HR0.out HB.out) | (with_reducible refine Kd.C_alloc ?_ _) | (with_reducible refine Kd.C_drewN ?_ _) | (with_reducible refine Kd.C_drew ?_))); (case side2 => exact HC0.out); rintro e w176 ⟨rfl, hb⟩; refine ⟨_, rfl, ?_⟩; have n0_ := Aside0.mk (Kd.R_below (kr_ HO635) hb); have n1_ := Aside0.mk (below_step hb_ hb); clear HO635; clear HB; have HO635 := n0_; have HB := n1_; clear n0_ n1_; try clear hb) | ((with_reducible refine gate_callee (f := 24) rfl ?_); refine goesL_ (some 52) rfl rfl Tryd.func24 (by kernel_rfl) rfl #[.int .i64 t642, .string t643] rfl ka_ ?_; (with_reducible refine (impl_EncodeLossy.calls (hT := ?sideT) k t642 t643 t644 t645 _ A9.out).mono ?_); (case sideT => first | exact HT.out | exact HT.out.below hb_ | exact HT.out.drawn (by repeat (first | exact Drawn0.refl _ | apply Drawn0.step | assumption))); rintro e w177 ⟨v646, rfl, ho0, hb⟩; refine ⟨_, rfl, ?_⟩; have n0_ := Aside0.mk (Kd.R_elder' (kr_ HO635) (Kd.R_base ho0) hb); have n1_ := Aside0.mk (Kd.R_lower (Kd.R_new' ho0 (Kd.R_lt (kr_ HO635))) (below_size hb_)); have n2_ := Aside0.mk (below_step hb_ hb); clear HO635; clear HB; have HO635 := n0_; have HO647 := n1_; have HB := n2_; clear n0_ n1_ n2_; try clear hb; (try clear ho0)) | ((with_reducible refine gate_callee (f := 23) rfl ?_); refine goesL_ (some 58) rfl rfl Tryd.func23 (by kernel_rfl) rfl #[.int .i64 t642, .string t643] rfl ka_ ?_; (with_reducible refine (spec_EncodeLossy.calls k t642 t643 t648 t649 _ A10.out).mono ?_); rintro e w178 ⟨v650, rfl, ho0, hb⟩; refine ⟨_, rfl, ?_⟩; have n0_ := Aside0.mk (Kd.R_elder' (kr_ HO635) (Kd.R_base ho0) hb); have n1_ := Aside0.mk (Kd.R_elder' (kr_ HO647) (Kd.R_base ho0) hb); have n2_ := Aside0.mk (Kd.R_lower (Kd.R_new' (Kd.R_new' ho0 (Kd.R_lt (kr_ HO635))) (Kd.R_lt (kr_ HO647))) (below_size hb_)); have n3_ := Aside0.mk (below_step hb_ hb); clear HO635; clear HO647; clear HB; have HO635 := n0_; have HO647 := n1_; have HO651 := n2_; have HB := n3_; clear n0_ n1_ n2_ n3_; try clear hb; (try clear ho0)) | ((with_reducible refine gate_callee (f := 19) rfl ?_); refine goesL_ (some 64) rfl rfl Tryd.func19 (by kernel_rfl) rfl #[.int .i64 t642, .string t643] rfl ka_ ?_; (with_reducible refine (impl_Encode.calls (hT := ?sideT) k t642 t643 t652 false _ A11.out).mono ?_); (case sideT => first | exact HT.out | exact HT.out.below hb_ | exact HT.out.drawn (by repeat (first | exact Drawn0.refl _ | apply Drawn0.step | assumption))); rintro e w179 ⟨v654, rfl, ho0, hb⟩; refine ⟨_, rfl, ?_⟩; have n0_ := Aside0.mk (Kd.R_elder' (kr_ HO635) (Kd.R_base ho0) hb); have n1_ := Aside0.mk (Kd.R_elder' (kr_ HO647) (Kd.R_base ho0) hb); have n2_ := Aside0.mk (Kd.R_elder' (kr_ HO651) (Kd.R_base ho0) hb); have n3_ := Aside0.mk (Kd.R_lower (Kd.R_new' (Kd.R_new' (Kd.R_new' ho0 (Kd.R_lt (kr_ HO635))) (Kd.R_lt (kr_ HO647))) (Kd.R_lt (kr_ HO651))) (below_size hb_)); have n4_ := Aside0.mk (below_step hb_ hb); clear HO635; clear HO647; clear HO651; clear HB; have HO635 := n0_; have HO647 := n1_; have HO651 := n2_; have HO655 := n3_; have HB := n4_; clear n0_ n1_ n2_ n3_ n4_; try clear hb; (try clear ho0); have hcv180 := own_string (P := Tryd.prog) Tryd.underlying23 Tryd.underlying5 Tryd.underlying9 (Kd.own_of_R HO647.out); try have hcn180 := fun n_ : Nat => own_string (P := Tryd.prog) Tryd.underlying23 Tryd.underlying5 Tryd.underlying9 (Kd.own_of_R (Kd.R_drewN HO647.out n_)); have hcv181 := own_string (P := Tryd.prog) Tryd.underlying23 Tryd.underlying5 Tryd.underlying9 (Kd.own_of_R HO651.out); try have hcn181 := fun n_ : Nat => own_string (P := Tryd.prog) Tryd.underlying23 Tryd.underlying5 Tryd.underlying9 (Kd.own_of_R (Kd.R_drewN HO651.out n_))) | (go_at_call 65; (with_reducible refine (impl_Utf8Ok.calls (hT := ?sideT) t636 true _ A16.out).mono ?_); (case sideT => first | exact HT.out | exact HT.out.below hb_ | exact HT.out.drawn (by repeat (first | exact Drawn0.refl _ | apply Drawn0.step | assumption))); rintro e w182 ⟨rfl, hb⟩; have n0_ := Aside0.mk (Kd.R_below (kr_ HO635) hb); have n1_ := Aside0.mk (Kd.R_below (kr_ HO647) hb); have n2_ := Aside0.mk (Kd.R_below (kr_ HO651) hb); have n3_ := Aside0.mk (Kd.R_below (kr_ HO655) hb); have n4_ := Aside0.mk (below_step hb_ hb); clear HO635; clear HO647; clear HO651; clear HO655; clear HB; have HO635 := n0_; have HO647 := n1_; have HO651 := n2_; have HO655 := n3_; have HB := n4_; clear n0_ n1_ n2_ n3_ n4_; try clear hb))
          go_ret
          exact ⟨rf_, hb_⟩
      ·replace c17 := Bool.eq_false_iff.mpr c17
       subst c17
       rw [if_neg (show ¬ (false = true) by decide)] at H
       obtain rfl := Option.some.inj H
       cases hr_
     ·rw [if_neg c15] at H
      have c15b0 : (t645 == t649) = false := beq_eq_false_iff_ne.mpr c15
      have c15b1 : (t645 != t649) = true := bne_iff_ne.mpr c15
      obtain rfl := Option.some.inj H
      cases hr_
    ·rw [if_neg c14] at H
     have c14b0 : ((strOfNums t644).toList == (strOfNums t648).toList) = false := beq_eq_false_iff_ne.mpr c14
     have c14b1 : ((strOfNums t644).toList != (strOfNums t648).toList) = true := bne_iff_ne.mpr c14
     obtain rfl := Option.some.inj H
     cases hr_
   ·rw [if_neg c13] at H
    have c13b0 : (t637 == t639) = false := beq_eq_false_iff_ne.mpr c13
    have c13b1 : (t637 != t639) = true := bne_iff_ne.mpr c13
    obtain rfl := Option.some.inj H
    cases hr_
  ·rw [if_neg c12] at H
   have c12b0 : (t636.toList == t638.toList) = false := beq_eq_false_iff_ne.mpr c12
   have c12b1 : (t636.toList != t638.toList) = true := bne_iff_ne.mpr c12
   obtain rfl := Option.some.inj H
   cases hr_
/-- THE ONE PURE STATEMENT of laws_FnLossy: yours. -/
def laws_FnLossy.Pure : Prop := ∀ (l0 : List Int), l0.length ≤ maxLen → l0.length * 1 ≤ 140737488351232 → (∀ x ∈ l0, (Lit.int .u8 x).wf = true) → ∃ k, laws_FnLossy.f k l0 = some true
theorem laws_FnLossy.walk (P : laws_FnLossy.Pure) (a0 : Option Addr) (len0 cap0 : Nat) (z0 : List Int) (w : World) (hT : TabsOk w) (w0 : (a0 = none ∧ len0 = 0 ∧ cap0 = 0 ∧ z0 = []) ∨ ∃ x, a0 = some x ∧ len0 ≤ cap0 ∧ cap0 ≤ maxLen ∧ z0.length = cap0 ∧ (∀ i, i < z0.length → w.cell? (x.add i) = some (.int .u8 (z0.getD i 0))) ∧ ∀ n ∈ z0, (Lit.int .u8 n).wf = true) (y0 : len0 * 1 ≤ 140737488351232) :
  Calls Tryd.prog 15 #[.slice a0 len0 cap0] w fun e w' => e = .returned (.bool true) ∧ Below w.heap.size w w' := by
 obtain ⟨l0, rfl, hr0, hm0, hw0, hc0⟩ := ReadsInt.ofRowC w0
 obtain ⟨k, h⟩ := P l0 hm0 y0 hw0
 refine (laws_FnLossy.calls (hT := hT) k _ _ l0 true w (Kd.C_of_reads (d := (0 : Int)) (h1 := fun _ => rfl) hr0) hc0 h rfl).mono ?_
 rintro e w' ⟨rfl, hd⟩
 exact ⟨rfl, hd⟩
end Go.Proofs.YtpmimhbnmjffpaaDoor.QFnLossy
