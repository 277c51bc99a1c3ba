/- The functions that a law reaches, each as a plain function, and that Go comes to just its answer: written by the session's program pp.py (the kit's print, with a few rows turned). -/
import Derived.Test.YtpmimhbnmjffpaaDoorQFnStreamsx0
import Derived.Test.YtpmimhbnmjffpaaDoorQFnStreamsx5
import Derived.Test.YtpmimhbnmjffpaaDoorQFnStreamsx6
namespace Go.Proofs.YtpmimhbnmjffpaaDoor.QFnStreams
open Go.RowKit Go.Proofs.YtpmimhbnmjffpaaDoorW.PrintWords Go.Proofs.YtpmimhbnmjffpaaDoorW.PrintLast Go.Proofs.YtpmimhbnmjffpaaDoorW.PrintMore Go.Proofs.YtpmimhbnmjffpaaDoor.Xw Go.Proofs.YtpmimhbnmjffpaaDoor.Xs Go.Proofs.YtpmimhbnmjffpaaDoor.Ext
attribute [local go_sem] max2_int min2_int max_two min_two max_three min_three max_four min_four   -- for this text's walks alone
set_option linter.unusedVariables false
set_option linter.unusedSimpArgs false

/-! ### spec_l6Utf: function 106 -/
def spec_l6Utf.l0 : Nat → List Int → Int → List Int → List Int → Option (Bool)
 | 0, _, _, _, _ => none
 | k + 1, x0, x3, x4, x5 => if (x4.length : Int) < x3 then (if x4.length < 140737488355328 then (if x5.length < 140737488355328 then (spec_l6Utf.l0 k x0 x3 (x4 ++ [128]) (x5 ++ [191])) else (none)) else (none)) else (if (x0.length : Int) = 1 then (if 0 < (x0.length : Int) then (if (rd x0 0) = 224 then (if 1 < (x4.length : Int) then ((spec_GetSign.f k (x4.set (1 : Int).toNat 160) 0).bind fun bt537 => ((spec_GetSign.f k x5 0).bind fun bt540 => (if bt537.2.2 = true then (some bt540.2.2) else (some false)))) else (none)) else (if (rd x0 0) = 237 then (if 1 < (x5.length : Int) then ((spec_GetSign.f k x4 0).bind fun bt544 => ((spec_GetSign.f k (x5.set (1 : Int).toNat 159) 0).bind fun bt547 => (if bt544.2.2 = true then (some bt547.2.2) else (some false)))) else (none)) else (if (rd x0 0) = 240 then (if 1 < (x4.length : Int) then ((spec_GetSign.f k (x4.set (1 : Int).toNat 144) 0).bind fun bt551 => ((spec_GetSign.f k x5 0).bind fun bt554 => (if bt551.2.2 = true then (some bt554.2.2) else (some false)))) else (none)) else (if (rd x0 0) = 244 then (if 1 < (x5.length : Int) then ((spec_GetSign.f k x4 0).bind fun bt558 => ((spec_GetSign.f k (x5.set (1 : Int).toNat 143) 0).bind fun bt561 => (if bt558.2.2 = true then (some bt561.2.2) else (some false)))) else (none)) else ((spec_GetSign.f k x4 0).bind fun bt564 => ((spec_GetSign.f k x5 0).bind fun bt567 => (if bt564.2.2 = true then (some bt567.2.2) else (some false)))))))) else (none)) else ((spec_GetSign.f k x4 0).bind fun bt570 => ((spec_GetSign.f k x5 0).bind fun bt573 => (if bt570.2.2 = true then (some bt573.2.2) else (some false)))))
def spec_l6Utf.f (k : Nat) (l0 : List Int) : Option (Bool) := if (l0.length : Int) = 0 then (some false) else (if 0 < (l0.length : Int) then ((spec_l2Len.f (rd l0 0)).bind fun t516 => (if t516 ≤ (l0.length : Int) then (some false) else ((some (([] : List Int) : List Int)).bind fun y517 => (if y517.length + l0.length < 140737488355328 then ((some (([] : List Int) : List Int)).bind fun y523 => (if y523.length + l0.length < 140737488355328 then (spec_l6Utf.l0 k l0 t516 (y517 ++ l0) (y523 ++ l0)) else (none))) else (none))))) else (none))
theorem spec_l6Utf.mono_l : ∀ k, (∀ y0 y1 y2 y3, LeO (spec_l6Utf.l0 k y0 y1 y2 y3) (spec_l6Utf.l0 (k + 1) y0 y1 y2 y3))
 | 0 => fun _ _ _ _ r h => by simp [spec_l6Utf.l0] at h
 | k + 1 => by
  have ih0 := spec_l6Utf.mono_l k
  ·intro y0 y1 y2 y3
   unfold spec_l6Utf.l0
   repeat' first
   | (with_reducible exact ih0 _ _ _ _)
   | (with_reducible exact spec_GetSign.mono _ _ _)
   | (with_reducible exact LeO.refl _)
   | (with_reducible exact LeO.none _)
   | (with_reducible refine LeO.ite ?_ ?_)
   | (with_reducible refine LeO.bind ?_ (fun _ => ?_))
   | exact ih0 _ _ _ _
   | exact spec_GetSign.mono _ _ _
   | exact LeO.none _
   | refine LeO.ite ?_ ?_
   | refine LeO.bind ?_ (fun _ => ?_)
theorem spec_l6Utf.mono : ∀ a0 k, LeO (spec_l6Utf.f k a0) (spec_l6Utf.f (k + 1) a0) := by
 intro a0 k
 have ih0 := spec_l6Utf.mono_l k
 unfold spec_l6Utf.f
 repeat' first
   | (with_reducible exact ih0 _ _ _ _)
   | (with_reducible exact spec_GetSign.mono _ _ _)
   | (with_reducible exact LeO.refl _)
   | (with_reducible exact LeO.none _)
   | (with_reducible refine LeO.ite ?_ ?_)
   | (with_reducible refine LeO.bind ?_ (fun _ => ?_))
   | exact ih0 _ _ _ _
   | exact spec_GetSign.mono _ _ _
   | exact LeO.none _
   | refine LeO.ite ?_ ?_
   | refine LeO.bind ?_ (fun _ => ?_)
set_option maxHeartbeats 8000000 in
set_option maxRecDepth 100000 in
theorem spec_l6Utf.calls (k : Nat) (A0 : Option Addr) (c0 : Nat) (l0 : List Int) (r : Bool) (w : World) (hr0 : Kd.C (Kd.int .u8) w A0 l0.length l0) (hc0 : l0.length ≤ c0) (h : spec_l6Utf.f k l0 = some r) :
  Calls Tryd.prog 106 #[.slice A0 l0.length c0] w fun e w' => e = .returned (.bool r) ∧ Below w.heap.size w w' := by
 have HR0 := Aside0.mk hr0
 have HC0 := Aside0.mk hc0
 clear hr0 hc0
 have HB := Aside0.mk (Below.refl w.heap.size w)
 have H : (if (l0.length : Int) = 0 then (some false) else (if 0 < (l0.length : Int) then ((spec_l2Len.f (rd l0 0)).bind fun t516 => (if t516 ≤ (l0.length : Int) then (some false) else ((some (([] : List Int) : List Int)).bind fun y517 => (if y517.length + l0.length < 140737488355328 then ((some (([] : List Int) : List Int)).bind fun y523 => (if y523.length + l0.length < 140737488355328 then (spec_l6Utf.l0 k l0 t516 (y517 ++ l0) (y523 ++ l0)) else (none))) else (none))))) else (none))) = some r := h
 clear h
 by_cases c2 : (l0.length : Int) = 0
 ·rw [if_pos c2] at H
  have c2b0 : ((l0.length : Int) == 0) = true := beq_iff_eq.mpr c2
  have c2b1 : ((l0.length : Int) != 0) = false := bne_eq_false_iff_eq.mpr c2
  clear c2
  obtain rfl := Option.some.inj H
  go_enter Tryd.func106, Tryd.ntmps106
  go_wp2
  go_ret
  exact ⟨rf_, hb_⟩
 ·rw [if_neg c2] at H
  have c2b0 : ((l0.length : Int) == 0) = false := beq_eq_false_iff_ne.mpr c2
  have c2b1 : ((l0.length : Int) != 0) = true := bne_iff_ne.mpr c2
  have c2b2 : ¬ (l0 = []) := fun h_ => c2 (by rw [h_]; rfl)
  by_cases c3 : 0 < (l0.length : Int)
  ·rw [if_pos c3] at H
   have c3b0 : decide (0 < (l0.length : Int)) = true := decide_eq_true c3
   have c3b1 : decide (0 < l0.length) = true := decide_eq_true (by omega)
   clear c3
   replace H := Option.bind_eq_some_iff.mp H
   obtain ⟨t516, A40, H⟩ := H
   try dsimp only at H
   have A4 := Aside0.mk A40
   clear A40
   by_cases c5 : t516 ≤ (l0.length : Int)
   ·rw [if_pos c5] at H
    have c5b0 : decide (t516 ≤ (l0.length : Int)) = true := decide_eq_true c5
    clear c5
    obtain rfl := Option.some.inj H
    have p515 : 0 ≤ (0 : Int) := (by omega)
    have q515 : 0 < (l0.length : Int) := of_decide_eq_true as_
    obtain ⟨ad515, e515, hx515_0⟩ := Kd.at_int HR0.out 0 p515 q515
    cases e515
    have qi515 : (0 < l0.length) = True := eq_true (by omega)
    (try rw [show ((0 : Int)).toNat = 0 from rfl] at hx515_0)
    (try rw [Addr.add_zero'] at hx515_0)
    replace p515 := eq_true p515
    replace q515 := eq_true q515
    go_enter Tryd.func106, Tryd.ntmps106
    go_wp2_with (first | ((with_reducible refine gate_callee (f := 120) rfl ?_); refine goesL_ (some 18) rfl rfl Tryd.func120 (by kernel_rfl) rfl #[.int .u8 (rd l0 0)] rfl ka_ ?_; (with_reducible refine (spec_l2Len.calls (rd l0 0) t516 _ A4.out).mono ?_); rintro e w' ⟨rfl, ⟨nd, rfl⟩⟩; refine ⟨_, rfl, ?_⟩))
    go_ret
    exact ⟨rf_, hb_⟩
   ·rw [if_neg c5] at H
    have c5b0 : decide (t516 ≤ (l0.length : Int)) = false := decide_eq_false c5
    clear c5
    obtain ⟨y517, hy517⟩ : ∃ y_ : List Int, y_ = (([] : List Int)) := ⟨_, rfl⟩
    replace H : (if y517.length + l0.length < 140737488355328 then ((some (([] : List Int) : List Int)).bind fun y523 => (if y523.length + l0.length < 140737488355328 then (spec_l6Utf.l0 k l0 t516 (y517 ++ l0) (y523 ++ l0)) else (none))) else (none)) = some r := by first | (rw [hy517]; with_reducible exact H) | (have H2_ := (Option.bind_some _ _).symm.trans H; rw [hy517]; with_reducible exact H2_) | (have H2_ := (Option.bind_some _ _).symm.trans H; with_reducible exact H2_) | with_reducible exact H | (rw [hy517]; exact H) | exact H
    have Ny517 := Aside0.mk hy517
    clear hy517
    by_cases c6 : y517.length + l0.length < 140737488355328
    ·rw [if_pos c6] at H
     have LMc6 := Aside0.mk c6
     clear c6
     obtain ⟨y520, hy520⟩ : ∃ y_ : List Int, y_ = (y517 ++ l0) := ⟨_, rfl⟩
     replace H : ((some (([] : List Int) : List Int)).bind fun y523 => (if y523.length + l0.length < 140737488355328 then (spec_l6Utf.l0 k l0 t516 y520 (y523 ++ l0)) else (none))) = some r := by first | (rw [hy520]; with_reducible exact H) | (have H2_ := (Option.bind_some _ _).symm.trans H; rw [hy520]; with_reducible exact H2_) | (have H2_ := (Option.bind_some _ _).symm.trans H; with_reducible exact H2_) | with_reducible exact H | (rw [hy520]; exact H) | exact H
     have Ny520 := Aside0.mk hy520
     clear hy520
     obtain ⟨y523, hy523⟩ : ∃ y_ : List Int, y_ = (([] : List Int)) := ⟨_, rfl⟩
     replace H : (if y523.length + l0.length < 140737488355328 then (spec_l6Utf.l0 k l0 t516 y520 (y523 ++ l0)) else (none)) = some r := by first | (rw [hy523]; with_reducible exact H) | (have H2_ := (Option.bind_some _ _).symm.trans H; rw [hy523]; with_reducible exact H2_) | (have H2_ := (Option.bind_some _ _).symm.trans H; with_reducible exact H2_) | with_reducible exact H | (rw [hy523]; exact H) | exact H
     have Ny523 := Aside0.mk hy523
     clear hy523
     by_cases c7 : y523.length + l0.length < 140737488355328
     ·rw [if_pos c7] at H
      have LMc7 := Aside0.mk c7
      clear c7
      obtain ⟨y526, hy526⟩ : ∃ y_ : List Int, y_ = (y523 ++ l0) := ⟨_, rfl⟩
      replace H : (spec_l6Utf.l0 k l0 t516 y520 y526) = some r := by first | (rw [hy526]; with_reducible exact H) | (have H2_ := (Option.bind_some _ _).symm.trans H; rw [hy526]; with_reducible exact H2_) | (have H2_ := (Option.bind_some _ _).symm.trans H; with_reducible exact H2_) | with_reducible exact H | (rw [hy526]; exact H) | exact H
      have Ny526 := Aside0.mk hy526
      clear hy526
      have H' := Aside0.mk H
      clear H
      have p515 : 0 ≤ (0 : Int) := (by omega)
      have q515 : 0 < (l0.length : Int) := of_decide_eq_true as_
      obtain ⟨ad515, e515, hx515_0⟩ := Kd.at_int HR0.out 0 p515 q515
      cases e515
      have qi515 : (0 < l0.length) = True := eq_true (by omega)
      (try rw [show ((0 : Int)).toNat = 0 from rfl] at hx515_0)
      (try rw [Addr.add_zero'] at hx515_0)
      replace p515 := eq_true p515
      replace q515 := eq_true q515
      go_enter Tryd.func106, Tryd.ntmps106
      go_wp2_with (first | ((with_reducible refine gate_callee (f := 120) rfl ?_); refine goesL_ (some 18) rfl rfl Tryd.func120 (by kernel_rfl) rfl #[.int .u8 (rd l0 0)] rfl ka_ ?_; (with_reducible refine (spec_l2Len.calls (rd l0 0) t516 _ A4.out).mono ?_); rintro e w' ⟨rfl, ⟨nd, rfl⟩⟩; refine ⟨_, rfl, ?_⟩) | ((with_reducible refine gate_dst (N := 23) rfl ?_); refine Kd.R_lit (Kd.int .u8) _ 5 ?hg (N := 23) ?hd (xs := ([] : List Int)) (inner := []) (ok := fun _ => True) (okp := fun _ => True) ?hr ?hp (fun _ hk => hk) trivial (Below.refl _ _) (Nat.le_refl _) (by simp) ?_; (case hd => rfl); (case hg => rfl); (case hr => first | (go_simp; done) | (go_simp; rfl)); (case hp => exact (Reps.none _ _)); intro v518 w8 ho9 hb hg_ hnew_; clear hg_ hnew_; (first | rw [← Ny517.out] at ho9 | (simp only [Int.reduceToNat] at ho9; rw [← Ny517.out] at ho9)); have n0_ := Aside0.mk (Kd.R_lower ho9 (below_size hb_)); have n1_ := Aside0.mk (below_step hb_ hb); clear HB; have HO519 := n0_; have HB := n1_; clear n0_ n1_; clear hb ho9) | ((with_reducible refine gate_builtin (b := .append) (xs := #[.tmp 23, .tmp 24]) rfl ?_); at_builtin; refine Kd.R_append_rows (Kd.int .u8) (w0 := w) w.heap.size rfl (.tmp 23) (.tmp 24) 23 5 (.int .u8 0) 1 rfl Tryd.underlying23 info5 rfl (by decide) (by omega) v518 y517 l0 _ _ _ (fun _ => True) (fun _ => False) rfl rfl ?aO ?aR (fun _ _ h => h) (fun _ h => h.elim) ?aF ?aB ?aS ?aL ?_; (case aR => repeat (first | exact (Kd.C_below HR0.out HB.out) | (with_reducible refine Kd.C_alloc ?_ _) | (with_reducible refine Kd.C_drewN ?_ _) | (with_reducible refine Kd.C_drew ?_))); (case aB => exact hb_); (case aF => exact (fun _ _ => trivial)); (case aO => exact (kr_ HO519)); (case aS => exact (below_size hb_)); (case aL => have := LMc6.out; omega); intro v521 w10 ho hb hg hat; rw [← Ny520.out] at ho; have n0_ := Aside0.mk (hb); have n1_ := Aside0.mk (ho); clear HB; clear HO519; have HB := n0_; have HO522 := n1_; clear n0_ n1_; clear ho hb hg hat) | ((with_reducible refine gate_dst (N := 26) rfl ?_); refine Kd.R_lit (Kd.int .u8) _ 5 ?hg (N := 26) ?hd (xs := ([] : List Int)) (inner := []) (ok := fun _ => True) (okp := fun _ => True) ?hr ?hp (fun _ hk => hk) trivial (Below.refl _ _) (Nat.le_refl _) (by simp) ?_; (case hd => rfl); (case hg => rfl); (case hr => first | (go_simp; done) | (go_simp; rfl)); (case hp => exact (Reps.none _ _)); intro v524 w11 ho12 hb hg_ hnew_; clear hg_ hnew_; (first | rw [← Ny523.out] at ho12 | (simp only [Int.reduceToNat] at ho12; rw [← Ny523.out] at ho12)); have n0_ := Aside0.mk (Kd.R_elder' (kr_ HO522) (Kd.R_base ho12) hb); have n1_ := Aside0.mk (Kd.R_lower (Kd.R_new' ho12 (Kd.R_lt (kr_ HO522))) (below_size hb_)); have n2_ := Aside0.mk (below_step hb_ hb); clear HO522; clear HB; have HO522 := n0_; have HO525 := n1_; have HB := n2_; clear n0_ n1_ n2_; clear hb ho12) | ((with_reducible refine gate_builtin (b := .append) (xs := #[.tmp 26, .tmp 27]) rfl ?_); at_builtin; refine Kd.R_append_rows (Kd.int .u8) (w0 := w) w.heap.size rfl (.tmp 26) (.tmp 27) 23 5 (.int .u8 0) 1 rfl Tryd.underlying23 info5 rfl (by decide) (by omega) v524 y523 l0 _ _ _ (fun k_ => some k_ ≠ (v521 : Value).ownBlock) (fun _ => False) rfl rfl ?aO ?aR (fun _ _ h => h) (fun _ h => h.elim) ?aF ?aB ?aS ?aL ?_; (case aR => repeat (first | exact (Kd.C_below HR0.out HB.out) | (with_reducible refine Kd.C_alloc ?_ _) | (with_reducible refine Kd.C_drewN ?_ _) | (with_reducible refine Kd.C_drew ?_))); (case aB => exact hb_); (case aF => exact (fun k_ hk => Kd.fresh' (Kd.R_lt (kr_ HO522)) k_ hk)); (case aO => exact (by (with_reducible repeat (first | apply Kd.R_alloc | apply Kd.R_drewN | apply Kd.R_drew)); exact Kd.R_mono HO525.out (fun _ hk => hk.2))); (case aS => exact (below_size hb_)); (case aL => have := LMc7.out; omega); intro v527 w13 ho hb hg hat; rw [← Ny526.out] at ho; have n0_ := Aside0.mk (Kd.R_after (ok := (fun _ => True)) (kr_ HO522) hg hat); have n1_ := Aside0.mk (hb); have n2_ := Aside0.mk (ho); clear HO522; clear HB; clear HO525; have HO522 := n0_; have HB := n1_; have HO528 := n2_; clear n0_ n1_ n2_; clear ho hb hg hat))
      go_loopg [4, 5] k (fun kq v4 v5 w' => ∃ (x4_1 : List Int) (x5_1 : List Int), Aside0 (spec_l6Utf.l0 kq l0 t516 x4_1 x5_1 = some r) ∧ Aside0 (kq ≤ k) ∧ Aside0 (Kd.R (Kd.int .u8) 5 w' w.heap.size (fun k_ => some k_ ≠ (v5 : Value).ownBlock) v4 x4_1) ∧ Aside0 (Kd.R (Kd.int .u8) 5 w' w.heap.size (fun k_ => some k_ ≠ (v4 : Value).ownBlock) v5 x5_1) ∧ Aside0 (Below w.heap.size w w'))
      case atStart => exact ⟨(y520), (y526), H', ⟨Nat.le_refl _⟩, ⟨by (with_reducible repeat (first | apply Kd.R_alloc | apply Kd.R_drewN | apply Kd.R_drew)); exact Kd.R_mono HO522.out (fun _ hk => hk.2)⟩, ⟨by (with_reducible repeat (first | apply Kd.R_alloc | apply Kd.R_drewN | apply Kd.R_drew)); exact HO528.out⟩, ⟨by repeat (first | (with_reducible first | exact HB.out | apply below_alloc | apply pw_below_drewN | apply below_drew1) | exact HB.out)⟩⟩
      case round =>
       clear H'
       try clear c1
       try clear c2
       try clear c2b0
       try clear c2b1
       try clear c2b2
       try clear p2
       try clear c3
       try clear c3b0
       try clear c3b1
       try clear c5
       try clear c5b0
       try clear p5
       try clear q5
       try clear hx5
       try clear qi5
       try clear c6
       try clear c7
       try clear c10
       try clear c12
       try clear hx515_0
       try clear p515
       try clear q515
       obtain ⟨x4_1, x5_1, HA, HK1, HO_4, HO_5, HB⟩ := hrel
       cases gk with
       | zero => exact absurd HA.out (by simp [spec_l6Utf.l0])
       | succ k1 =>
        have H := HA.out
        clear HA
        simp only [spec_l6Utf.l0] at H
        by_cases c14 : (x4_1.length : Int) < t516
        ·rw [if_pos c14] at H
         have c14b0 : decide ((x4_1.length : Int) < t516) = true := decide_eq_true c14
         clear c14
         by_cases c15 : x4_1.length < 140737488355328
         ·rw [if_pos c15] at H
          have LMc15 := Aside0.mk c15
          clear c15
          obtain ⟨y529, hy529⟩ : ∃ y_ : List Int, y_ = (x4_1 ++ [128]) := ⟨_, rfl⟩
          replace H : (if x5_1.length < 140737488355328 then (spec_l6Utf.l0 k1 l0 t516 y529 (x5_1 ++ [191])) else (none)) = some r := by first | (rw [hy529]; with_reducible exact H) | (have H2_ := (Option.bind_some _ _).symm.trans H; rw [hy529]; with_reducible exact H2_) | (have H2_ := (Option.bind_some _ _).symm.trans H; with_reducible exact H2_) | with_reducible exact H | (rw [hy529]; exact H) | exact H
          have Ny529 := Aside0.mk hy529
          clear hy529
          by_cases c16 : x5_1.length < 140737488355328
          ·rw [if_pos c16] at H
           have LMc16 := Aside0.mk c16
           clear c16
           obtain ⟨y532, hy532⟩ : ∃ y_ : List Int, y_ = (x5_1 ++ [191]) := ⟨_, rfl⟩
           replace H : (spec_l6Utf.l0 k1 l0 t516 y529 y532) = some r := by first | (rw [hy532]; with_reducible exact H) | (have H2_ := (Option.bind_some _ _).symm.trans H; rw [hy532]; with_reducible exact H2_) | (have H2_ := (Option.bind_some _ _).symm.trans H; with_reducible exact H2_) | with_reducible exact H | (rw [hy532]; exact H) | exact H
           have Ny532 := Aside0.mk hy532
           clear hy532
           have H' := Aside0.mk H
           clear H
           obtain ⟨Ao17, co17, eo17⟩ := Kd.R_slice HO_4.out
           subst eo17
           go_wp2_with (first | ((with_reducible refine gate_builtin (b := .append) (xs := #[.tmp 33, .tmp 34]) rfl ?_); at_builtin; refine Kd.R_append (Kd.int .u8) (w0 := w) w.heap.size rfl (.tmp 33) (.tmp 34) 23 5 (.int .u8 0) 1 rfl Tryd.underlying23 info5 rfl (by decide) (by omega) (.slice Ao17 x4_1.length co17) x4_1 128 [.int .u8 128] (fun k_ => some k_ ≠ (u5 : Value).ownBlock) (fun _ => False) rfl rfl ?aP (fun _ hk => hk.elim) ?aF ?aO ?aB ?aS ?aL ?_; (case aP => exact rfl); (case aB => exact hb_); (case aF => exact (fun k_ hk => Kd.fresh' (Kd.R_lt (kr_ HO_5)) k_ hk)); (case aO => exact (kr_ HO_4)); (case aS => exact (below_size hb_)); (case aL => have := LMc15.out; omega); intro v530 w18 ho hb hg hat; rw [← Ny529.out] at ho; have n0_ := Aside0.mk (Kd.R_after (ok := (fun _ => True)) (by (with_reducible repeat (first | apply Kd.R_alloc | apply Kd.R_drewN | apply Kd.R_drew)); exact Kd.R_mono HO_5.out (fun _ hk => ⟨trivial, hk⟩)) hg hat); have n1_ := Aside0.mk (hb); have n2_ := Aside0.mk (ho); clear HO_5; clear HB; clear HO_4; have HO_5 := n0_; have HB := n1_; have HO531 := n2_; clear n0_ n1_ n2_; clear ho hb hg hat) | ((with_reducible refine gate_builtin (b := .append) (xs := #[.tmp 36, .tmp 37]) rfl ?_); at_builtin; refine Kd.R_append (Kd.int .u8) (w0 := w) w.heap.size rfl (.tmp 36) (.tmp 37) 23 5 (.int .u8 0) 1 rfl Tryd.underlying23 info5 rfl (by decide) (by omega) u5 x5_1 191 [.int .u8 191] (fun k_ => some k_ ≠ (v530 : Value).ownBlock) (fun _ => False) rfl rfl ?aP (fun _ hk => hk.elim) ?aF ?aO ?aB ?aS ?aL ?_; (case aP => exact rfl); (case aB => exact hb_); (case aF => exact (fun k_ hk => Kd.fresh' (Kd.R_lt (kr_ HO531)) k_ hk)); (case aO => exact (by (with_reducible repeat (first | apply Kd.R_alloc | apply Kd.R_drewN | apply Kd.R_drew)); exact Kd.R_mono HO_5.out (fun _ hk => hk.2))); (case aS => exact (below_size hb_)); (case aL => have := LMc16.out; omega); intro v533 w19 ho hb hg hat; rw [← Ny532.out] at ho; have n0_ := Aside0.mk (Kd.R_after (ok := (fun _ => True)) (by (with_reducible repeat (first | apply Kd.R_alloc | apply Kd.R_drewN | apply Kd.R_drew)); exact Kd.R_mono HO531.out (fun _ hk => ⟨trivial, hk⟩)) hg hat); have n1_ := Aside0.mk (hb); have n2_ := Aside0.mk (ho); clear HO531; clear HB; clear HO_5; have HO531 := n0_; have HB := n1_; have HO534 := n2_; clear n0_ n1_ n2_; clear ho hb hg hat))
           go_roundg k1
           case measure => have := HK1.out; omega
           case rel => exact ⟨(y529), (y532), H', ⟨by have := HK1.out; omega⟩, ⟨by (with_reducible repeat (first | apply Kd.R_alloc | apply Kd.R_drewN | apply Kd.R_drew)); exact Kd.R_mono HO531.out (fun _ hk => hk.2)⟩, ⟨by (with_reducible repeat (first | apply Kd.R_alloc | apply Kd.R_drewN | apply Kd.R_drew)); exact HO534.out⟩, ⟨by repeat (first | (with_reducible first | exact HB.out | apply below_alloc | apply pw_below_drewN | apply below_drew1) | exact HB.out)⟩⟩
          ·rw [if_neg c16] at H
           exact absurd H (by simp)
         ·rw [if_neg c15] at H
          exact absurd H (by simp)
        ·rw [if_neg c14] at H
         have c14b0 : decide ((x4_1.length : Int) < t516) = false := decide_eq_false c14
         clear c14
         by_cases c20 : (l0.length : Int) = 1
         ·rw [if_pos c20] at H
          have c20b0 : ((l0.length : Int) == 1) = true := beq_iff_eq.mpr c20
          have c20b1 : ((l0.length : Int) != 1) = false := bne_eq_false_iff_eq.mpr c20
          clear c20
          by_cases c21 : 0 < (l0.length : Int)
          ·rw [if_pos c21] at H
           have c21b0 : decide (0 < (l0.length : Int)) = true := decide_eq_true c21
           have c21b1 : decide (0 < l0.length) = true := decide_eq_true (by omega)
           clear c21
           by_cases c22 : (rd l0 0) = 224
           ·rw [if_pos c22] at H
            have c22b0 : ((rd l0 0) == 224) = true := beq_iff_eq.mpr c22
            have c22b1 : ((rd l0 0) != 224) = false := bne_eq_false_iff_eq.mpr c22
            clear c22
            by_cases c23 : 1 < (x4_1.length : Int)
            ·rw [if_pos c23] at H
             have c23b0 : decide (1 < (x4_1.length : Int)) = true := decide_eq_true c23
             have c23b1 : decide (1 < x4_1.length) = true := decide_eq_true (by omega)
             clear c23
             obtain ⟨y536, hy536⟩ : ∃ y_ : List Int, y_ = (x4_1.set (1 : Int).toNat 160) := ⟨_, rfl⟩
             replace H : ((spec_GetSign.f k1 y536 0).bind fun bt537 => ((spec_GetSign.f k1 x5_1 0).bind fun bt540 => (if bt537.2.2 = true then (some bt540.2.2) else (some false)))) = some r := by first | (rw [hy536]; with_reducible exact H) | (have H2_ := (Option.bind_some _ _).symm.trans H; rw [hy536]; with_reducible exact H2_) | (have H2_ := (Option.bind_some _ _).symm.trans H; with_reducible exact H2_) | with_reducible exact H | (rw [hy536]; exact H) | exact H
             have Ny536 := Aside0.mk hy536
             clear hy536
             replace H := Option.bind_eq_some_iff.mp H
             obtain ⟨⟨t537, t538, t539⟩, A250, H⟩ := H
             try dsimp only at H
             have A25 := Aside0.mk A250
             clear A250
             replace H := Option.bind_eq_some_iff.mp H
             obtain ⟨⟨t540, t541, t542⟩, A260, H⟩ := H
             try dsimp only at H
             have A26 := Aside0.mk A260
             clear A260
             by_cases c27 : t539 = true
             ·subst c27
              rw [if_pos rfl] at H
              obtain rfl := Option.some.inj H
              obtain ⟨Ao28, co28, eo28⟩ := Kd.R_slice HO_4.out
              subst eo28
              have p535 : 0 ≤ (0 : Int) := (by omega)
              have q535 : 0 < (l0.length : Int) := of_decide_eq_true as_
              obtain ⟨ad535, e535, hx535_0⟩ := Kd.at_int HR0.out 0 p535 q535
              obtain rfl : ad515 = ad535 := (by injection e535)
              have qi535 : (0 < l0.length) = True := eq_true (by omega)
              (try rw [show ((0 : Int)).toNat = 0 from rfl] at hx535_0)
              (try rw [Addr.add_zero'] at hx535_0)
              replace hx535_0 := (HB.out.cell (World.block_lt_of_cell? w _ hx535_0)).trans hx535_0
              replace p535 := eq_true p535
              replace q535 := eq_true q535
              have p24 : 0 ≤ (1 : Int) := (by omega)
              have q24 : (1 : Int) < ((x4_1.length : Int) : Int) := of_decide_eq_true as_
              have qi24 : (1 < x4_1.length) = True := eq_true (by omega)
              obtain ⟨go24, co24, eo24, gb24, gl24, cl24, HG24⟩ := Kd.R_form HO_4.out (by omega)
              (first | cases eo24 | (injection eo24 with ea_ en_ ec_; (first | subst ea_ | (injection ea_ with ea_; subst ea_)); subst ec_; clear en_))
              have GB24 := Aside0.mk gb24
              have GG24 := Aside0.mk HG24
              clear gb24 gl24 HG24
              obtain ⟨hx24_0, hf24_0⟩ := Kd.R_celln 0 HO_4.out (1 : Int) p24 q24
              (try rw [show ((1 : Int)).toNat = 1 from rfl] at hx24_0)
              (try simp only [Nat.reduceMul, Nat.zero_mul, Nat.zero_add, Nat.reduceAdd] at hx24_0)
              (try rw [show ((1 : Int)).toNat = 1 from rfl] at hf24_0)
              (try simp only [Nat.reduceMul, Nat.zero_mul, Nat.zero_add, Nat.reduceAdd] at hf24_0)
              replace p24 := eq_true p24
              replace q24 := eq_true q24
              have HP29 := Kd.R_putg HO_4.out (1 : Int) 160
              go_wp2_with (first | ((with_reducible refine gate_store (t := 5) (p := 48) rfl ?_); refine store_event (t := 5) (p := 48) (v := ?vo_w30) (w1 := (wr.setCell ⟨go24, (1 : Int).toNat, none⟩ (.int .u8 160))) ?hg ?ho ?hn ?hr ?_; (case ho => rfl); (case hg => rfl); (case hn => rfl); (case hr => first | (go_simp; done) | (go_simp; rfl)); intro w30 hw; have hg : wr.grownBy w30 (some go24) := (by rw [hw]; exact HP29.2); have hp_ : Kd.R (Kd.int .u8) 5 w30 w.heap.size (fun k_ => some k_ ≠ (u5 : Value).ownBlock) (.slice (some ⟨go24, 0, none⟩) x4_1.length co28) y536 := (by rw [hw, Ny536.out]; exact HP29.1); clear HP29; have n0_ := Aside0.mk (hp_); have n1_ := Aside0.mk (Kd.R_after (v := (.slice (some ⟨go24, 0, none⟩) x4_1.length co28)) (v1 := (.slice (some ⟨go24, 0, none⟩) x4_1.length co28)) (ok := (fun _ => True)) (by (with_reducible repeat (first | apply Kd.R_alloc | apply Kd.R_drewN | apply Kd.R_drew)); exact Kd.R_mono HO_5.out (fun _ hk => ⟨trivial, hk⟩)) hg (.inl rfl)); have n2_ := Aside0.mk ((by rw [hw]; exact below_set (HB.out) GB24.out : Below w.heap.size w w30)); clear HO_4; clear HO_5; clear HB; have HO_4 := n0_; have HO_5 := n1_; have HB := n2_; clear n0_ n1_ n2_; clear hg hw hp_) | ((with_reducible refine gate_callee (f := 98) rfl ?_); refine goesL_ (some 63) rfl rfl Tryd.func98 (by kernel_rfl) rfl #[.slice (some ⟨go24, 0, none⟩) y536.length co28, .int .i64 0] rfl (by (try simp only [List.map_toArray, List.map_cons, List.map_nil]); first | done | (rw [show y536.length = x4_1.length from (Kd.R_reads' HO_4.out).1.symm] <;> rfl) | rfl | (simp only [List.length_drop, List.length_take]; rfl)) ?_; (with_reducible refine (spec_GetSign.calls k1 _ _ y536 0 t537 t538 true _ ?side1 ?side2 A25.out).mono ?_); (case side1 => exact kc_ (Kd.R_reads' HO_4.out).2.2); (case side2 => rw [show y536.length = x4_1.length from (Kd.R_reads' HO_4.out).1.symm]; exact (Kd.R_reads' HO_4.out).2.1); rintro e w31 ⟨rfl, hb⟩; refine ⟨_, rfl, ?_⟩; have n0_ := Aside0.mk (Kd.R_below (kr_ HO_4) hb); have n1_ := Aside0.mk (Kd.R_below (kr_ HO_5) hb); have n2_ := Aside0.mk (below_step hb_ hb); clear HO_4; clear HO_5; clear HB; have HO_4 := n0_; have HO_5 := n1_; have HB := n2_; clear n0_ n1_ n2_; try clear hb; obtain ⟨Ao32, co32, eo32⟩ := Kd.R_slice HO_5.out; subst eo32) | ((with_reducible refine gate_callee (f := 98) rfl ?_); refine goesL_ (some 69) rfl rfl Tryd.func98 (by kernel_rfl) rfl #[.slice Ao32 x5_1.length co32, .int .i64 0] rfl ka_ ?_; (with_reducible refine (spec_GetSign.calls k1 _ _ x5_1 0 t540 t541 t542 _ ?side1 ?side2 A26.out).mono ?_); (case side1 => exact kc_ (Kd.R_reads' HO_5.out).2.2); (case side2 => exact (Kd.R_reads' HO_5.out).2.1); rintro e w33 ⟨rfl, hb⟩; refine ⟨_, rfl, ?_⟩; have n0_ := Aside0.mk (Kd.R_below (kr_ HO_4) hb); have n1_ := Aside0.mk (Kd.R_below (kr_ HO_5) hb); have n2_ := Aside0.mk (below_step hb_ hb); clear HO_4; clear HO_5; clear HB; have HO_4 := n0_; have HO_5 := n1_; have HB := n2_; clear n0_ n1_ n2_; try clear hb))
              go_ret
              exact ⟨rf_, hb_⟩
             ·replace c27 := Bool.eq_false_iff.mpr c27
              subst c27
              rw [if_neg (show ¬ (false = true) by decide)] at H
              obtain rfl := Option.some.inj H
              obtain ⟨Ao34, co34, eo34⟩ := Kd.R_slice HO_4.out
              subst eo34
              have p535 : 0 ≤ (0 : Int) := (by omega)
              have q535 : 0 < (l0.length : Int) := of_decide_eq_true as_
              obtain ⟨ad535, e535, hx535_0⟩ := Kd.at_int HR0.out 0 p535 q535
              obtain rfl : ad515 = ad535 := (by injection e535)
              have qi535 : (0 < l0.length) = True := eq_true (by omega)
              (try rw [show ((0 : Int)).toNat = 0 from rfl] at hx535_0)
              (try rw [Addr.add_zero'] at hx535_0)
              replace hx535_0 := (HB.out.cell (World.block_lt_of_cell? w _ hx535_0)).trans hx535_0
              replace p535 := eq_true p535
              replace q535 := eq_true q535
              have p24 : 0 ≤ (1 : Int) := (by omega)
              have q24 : (1 : Int) < ((x4_1.length : Int) : Int) := of_decide_eq_true as_
              have qi24 : (1 < x4_1.length) = True := eq_true (by omega)
              obtain ⟨go24, co24, eo24, gb24, gl24, cl24, HG24⟩ := Kd.R_form HO_4.out (by omega)
              (first | cases eo24 | (injection eo24 with ea_ en_ ec_; (first | subst ea_ | (injection ea_ with ea_; subst ea_)); subst ec_; clear en_))
              have GB24 := Aside0.mk gb24
              have GG24 := Aside0.mk HG24
              clear gb24 gl24 HG24
              obtain ⟨hx24_0, hf24_0⟩ := Kd.R_celln 0 HO_4.out (1 : Int) p24 q24
              (try rw [show ((1 : Int)).toNat = 1 from rfl] at hx24_0)
              (try simp only [Nat.reduceMul, Nat.zero_mul, Nat.zero_add, Nat.reduceAdd] at hx24_0)
              (try rw [show ((1 : Int)).toNat = 1 from rfl] at hf24_0)
              (try simp only [Nat.reduceMul, Nat.zero_mul, Nat.zero_add, Nat.reduceAdd] at hf24_0)
              replace p24 := eq_true p24
              replace q24 := eq_true q24
              have HP35 := Kd.R_putg HO_4.out (1 : Int) 160
              go_wp2_with (first | ((with_reducible refine gate_store (t := 5) (p := 48) rfl ?_); refine store_event (t := 5) (p := 48) (v := ?vo_w36) (w1 := (wr.setCell ⟨go24, (1 : Int).toNat, none⟩ (.int .u8 160))) ?hg ?ho ?hn ?hr ?_; (case ho => rfl); (case hg => rfl); (case hn => rfl); (case hr => first | (go_simp; done) | (go_simp; rfl)); intro w36 hw; have hg : wr.grownBy w36 (some go24) := (by rw [hw]; exact HP35.2); have hp_ : Kd.R (Kd.int .u8) 5 w36 w.heap.size (fun k_ => some k_ ≠ (u5 : Value).ownBlock) (.slice (some ⟨go24, 0, none⟩) x4_1.length co34) y536 := (by rw [hw, Ny536.out]; exact HP35.1); clear HP35; have n0_ := Aside0.mk (hp_); have n1_ := Aside0.mk (Kd.R_after (v := (.slice (some ⟨go24, 0, none⟩) x4_1.length co34)) (v1 := (.slice (some ⟨go24, 0, none⟩) x4_1.length co34)) (ok := (fun _ => True)) (by (with_reducible repeat (first | apply Kd.R_alloc | apply Kd.R_drewN | apply Kd.R_drew)); exact Kd.R_mono HO_5.out (fun _ hk => ⟨trivial, hk⟩)) hg (.inl rfl)); have n2_ := Aside0.mk ((by rw [hw]; exact below_set (HB.out) GB24.out : Below w.heap.size w w36)); clear HO_4; clear HO_5; clear HB; have HO_4 := n0_; have HO_5 := n1_; have HB := n2_; clear n0_ n1_ n2_; clear hg hw hp_) | ((with_reducible refine gate_callee (f := 98) rfl ?_); refine goesL_ (some 63) rfl rfl Tryd.func98 (by kernel_rfl) rfl #[.slice (some ⟨go24, 0, none⟩) y536.length co34, .int .i64 0] rfl (by (try simp only [List.map_toArray, List.map_cons, List.map_nil]); first | done | (rw [show y536.length = x4_1.length from (Kd.R_reads' HO_4.out).1.symm] <;> rfl) | rfl | (simp only [List.length_drop, List.length_take]; rfl)) ?_; (with_reducible refine (spec_GetSign.calls k1 _ _ y536 0 t537 t538 false _ ?side1 ?side2 A25.out).mono ?_); (case side1 => exact kc_ (Kd.R_reads' HO_4.out).2.2); (case side2 => rw [show y536.length = x4_1.length from (Kd.R_reads' HO_4.out).1.symm]; exact (Kd.R_reads' HO_4.out).2.1); rintro e w37 ⟨rfl, hb⟩; refine ⟨_, rfl, ?_⟩; have n0_ := Aside0.mk (Kd.R_below (kr_ HO_4) hb); have n1_ := Aside0.mk (Kd.R_below (kr_ HO_5) hb); have n2_ := Aside0.mk (below_step hb_ hb); clear HO_4; clear HO_5; clear HB; have HO_4 := n0_; have HO_5 := n1_; have HB := n2_; clear n0_ n1_ n2_; try clear hb; obtain ⟨Ao38, co38, eo38⟩ := Kd.R_slice HO_5.out; subst eo38) | ((with_reducible refine gate_callee (f := 98) rfl ?_); refine goesL_ (some 69) rfl rfl Tryd.func98 (by kernel_rfl) rfl #[.slice Ao38 x5_1.length co38, .int .i64 0] rfl ka_ ?_; (with_reducible refine (spec_GetSign.calls k1 _ _ x5_1 0 t540 t541 t542 _ ?side1 ?side2 A26.out).mono ?_); (case side1 => exact kc_ (Kd.R_reads' HO_5.out).2.2); (case side2 => exact (Kd.R_reads' HO_5.out).2.1); rintro e w39 ⟨rfl, hb⟩; refine ⟨_, rfl, ?_⟩; have n0_ := Aside0.mk (Kd.R_below (kr_ HO_4) hb); have n1_ := Aside0.mk (Kd.R_below (kr_ HO_5) hb); have n2_ := Aside0.mk (below_step hb_ hb); clear HO_4; clear HO_5; clear HB; have HO_4 := n0_; have HO_5 := n1_; have HB := n2_; clear n0_ n1_ n2_; try clear hb))
              go_ret
              exact ⟨rf_, hb_⟩
            ·rw [if_neg c23] at H
             exact absurd H (by simp)
           ·rw [if_neg c22] at H
            have c22b0 : ((rd l0 0) == 224) = false := beq_eq_false_iff_ne.mpr c22
            have c22b1 : ((rd l0 0) != 224) = true := bne_iff_ne.mpr c22
            by_cases c40 : (rd l0 0) = 237
            ·rw [if_pos c40] at H
             have c40b0 : ((rd l0 0) == 237) = true := beq_iff_eq.mpr c40
             have c40b1 : ((rd l0 0) != 237) = false := bne_eq_false_iff_eq.mpr c40
             clear c40
             by_cases c41 : 1 < (x5_1.length : Int)
             ·rw [if_pos c41] at H
              have c41b0 : decide (1 < (x5_1.length : Int)) = true := decide_eq_true c41
              have c41b1 : decide (1 < x5_1.length) = true := decide_eq_true (by omega)
              clear c41
              obtain ⟨y543, hy543⟩ : ∃ y_ : List Int, y_ = (x5_1.set (1 : Int).toNat 159) := ⟨_, rfl⟩
              replace H : ((spec_GetSign.f k1 x4_1 0).bind fun bt544 => ((spec_GetSign.f k1 y543 0).bind fun bt547 => (if bt544.2.2 = true then (some bt547.2.2) else (some false)))) = some r := by first | (rw [hy543]; with_reducible exact H) | (have H2_ := (Option.bind_some _ _).symm.trans H; rw [hy543]; with_reducible exact H2_) | (have H2_ := (Option.bind_some _ _).symm.trans H; with_reducible exact H2_) | with_reducible exact H | (rw [hy543]; exact H) | exact H
              have Ny543 := Aside0.mk hy543
              clear hy543
              replace H := Option.bind_eq_some_iff.mp H
              obtain ⟨⟨t544, t545, t546⟩, A430, H⟩ := H
              try dsimp only at H
              have A43 := Aside0.mk A430
              clear A430
              replace H := Option.bind_eq_some_iff.mp H
              obtain ⟨⟨t547, t548, t549⟩, A440, H⟩ := H
              try dsimp only at H
              have A44 := Aside0.mk A440
              clear A440
              by_cases c45 : t546 = true
              ·subst c45
               rw [if_pos rfl] at H
               obtain rfl := Option.some.inj H
               obtain ⟨Ao46, co46, eo46⟩ := Kd.R_slice HO_4.out
               subst eo46
               have p535 : 0 ≤ (0 : Int) := (by omega)
               have q535 : 0 < (l0.length : Int) := of_decide_eq_true as_
               obtain ⟨ad535, e535, hx535_0⟩ := Kd.at_int HR0.out 0 p535 q535
               obtain rfl : ad515 = ad535 := (by injection e535)
               have qi535 : (0 < l0.length) = True := eq_true (by omega)
               (try rw [show ((0 : Int)).toNat = 0 from rfl] at hx535_0)
               (try rw [Addr.add_zero'] at hx535_0)
               replace hx535_0 := (HB.out.cell (World.block_lt_of_cell? w _ hx535_0)).trans hx535_0
               replace p535 := eq_true p535
               replace q535 := eq_true q535
               have p42 : 0 ≤ (1 : Int) := (by omega)
               have q42 : (1 : Int) < ((x5_1.length : Int) : Int) := of_decide_eq_true as_
               have qi42 : (1 < x5_1.length) = True := eq_true (by omega)
               obtain ⟨go42, co42, eo42, gb42, gl42, cl42, HG42⟩ := Kd.R_form HO_5.out (by omega)
               (first | cases eo42 | (injection eo42 with ea_ en_ ec_; (first | subst ea_ | (injection ea_ with ea_; subst ea_)); subst ec_; clear en_))
               have GB42 := Aside0.mk gb42
               have GG42 := Aside0.mk HG42
               clear gb42 gl42 HG42
               obtain ⟨hx42_0, hf42_0⟩ := Kd.R_celln 0 HO_5.out (1 : Int) p42 q42
               (try rw [show ((1 : Int)).toNat = 1 from rfl] at hx42_0)
               (try simp only [Nat.reduceMul, Nat.zero_mul, Nat.zero_add, Nat.reduceAdd] at hx42_0)
               (try rw [show ((1 : Int)).toNat = 1 from rfl] at hf42_0)
               (try simp only [Nat.reduceMul, Nat.zero_mul, Nat.zero_add, Nat.reduceAdd] at hf42_0)
               replace p42 := eq_true p42
               replace q42 := eq_true q42
               have HP47 := Kd.R_putg HO_5.out (1 : Int) 159
               go_wp2_with (first | ((with_reducible refine gate_store (t := 5) (p := 52) rfl ?_); refine store_event (t := 5) (p := 52) (v := ?vo_w48) (w1 := (wr.setCell ⟨go42, (1 : Int).toNat, none⟩ (.int .u8 159))) ?hg ?ho ?hn ?hr ?_; (case ho => rfl); (case hg => rfl); (case hn => rfl); (case hr => first | (go_simp; done) | (go_simp; rfl)); intro w48 hw; have hg : wr.grownBy w48 (some go42) := (by rw [hw]; exact HP47.2); have hp_ : Kd.R (Kd.int .u8) 5 w48 w.heap.size (fun k_ => some k_ ≠ (.slice Ao46 x4_1.length co46 : Value).ownBlock) (.slice (some ⟨go42, 0, none⟩) x5_1.length co42) y543 := (by rw [hw, Ny543.out]; exact HP47.1); clear HP47; have n0_ := Aside0.mk (Kd.R_after (v := (.slice (some ⟨go42, 0, none⟩) x5_1.length co42)) (v1 := (.slice (some ⟨go42, 0, none⟩) x5_1.length co42)) (ok := (fun _ => True)) (by (with_reducible repeat (first | apply Kd.R_alloc | apply Kd.R_drewN | apply Kd.R_drew)); exact Kd.R_mono HO_4.out (fun _ hk => ⟨trivial, hk⟩)) hg (.inl rfl)); have n1_ := Aside0.mk (hp_); have n2_ := Aside0.mk ((by rw [hw]; exact below_set (HB.out) GB42.out : Below w.heap.size w w48)); clear HO_4; clear HO_5; clear HB; have HO_4 := n0_; have HO_5 := n1_; have HB := n2_; clear n0_ n1_ n2_; clear hg hw hp_) | ((with_reducible refine gate_callee (f := 98) rfl ?_); refine goesL_ (some 63) rfl rfl Tryd.func98 (by kernel_rfl) rfl #[.slice Ao46 x4_1.length co46, .int .i64 0] rfl ka_ ?_; (with_reducible refine (spec_GetSign.calls k1 _ _ x4_1 0 t544 t545 true _ ?side1 ?side2 A43.out).mono ?_); (case side1 => exact kc_ (Kd.R_reads' HO_4.out).2.2); (case side2 => exact (Kd.R_reads' HO_4.out).2.1); rintro e w49 ⟨rfl, hb⟩; refine ⟨_, rfl, ?_⟩; have n0_ := Aside0.mk (Kd.R_below (kr_ HO_4) hb); have n1_ := Aside0.mk (Kd.R_below (kr_ HO_5) hb); have n2_ := Aside0.mk (below_step hb_ hb); clear HO_4; clear HO_5; clear HB; have HO_4 := n0_; have HO_5 := n1_; have HB := n2_; clear n0_ n1_ n2_; try clear hb) | ((with_reducible refine gate_callee (f := 98) rfl ?_); refine goesL_ (some 69) rfl rfl Tryd.func98 (by kernel_rfl) rfl #[.slice (some ⟨go42, 0, none⟩) y543.length co42, .int .i64 0] rfl (by (try simp only [List.map_toArray, List.map_cons, List.map_nil]); first | done | (rw [show y543.length = x5_1.length from (Kd.R_reads' HO_5.out).1.symm] <;> rfl) | rfl | (simp only [List.length_drop, List.length_take]; rfl)) ?_; (with_reducible refine (spec_GetSign.calls k1 _ _ y543 0 t547 t548 t549 _ ?side1 ?side2 A44.out).mono ?_); (case side1 => exact kc_ (Kd.R_reads' HO_5.out).2.2); (case side2 => rw [show y543.length = x5_1.length from (Kd.R_reads' HO_5.out).1.symm]; exact (Kd.R_reads' HO_5.out).2.1); rintro e w50 ⟨rfl, hb⟩; refine ⟨_, rfl, ?_⟩; have n0_ := Aside0.mk (Kd.R_below (kr_ HO_4) hb); have n1_ := Aside0.mk (Kd.R_below (kr_ HO_5) hb); have n2_ := Aside0.mk (below_step hb_ hb); clear HO_4; clear HO_5; clear HB; have HO_4 := n0_; have HO_5 := n1_; have HB := n2_; clear n0_ n1_ n2_; try clear hb))
               go_ret
               exact ⟨rf_, hb_⟩
              ·replace c45 := Bool.eq_false_iff.mpr c45
               subst c45
               rw [if_neg (show ¬ (false = true) by decide)] at H
               obtain rfl := Option.some.inj H
               obtain ⟨Ao51, co51, eo51⟩ := Kd.R_slice HO_4.out
               subst eo51
               have p535 : 0 ≤ (0 : Int) := (by omega)
               have q535 : 0 < (l0.length : Int) := of_decide_eq_true as_
               obtain ⟨ad535, e535, hx535_0⟩ := Kd.at_int HR0.out 0 p535 q535
               obtain rfl : ad515 = ad535 := (by injection e535)
               have qi535 : (0 < l0.length) = True := eq_true (by omega)
               (try rw [show ((0 : Int)).toNat = 0 from rfl] at hx535_0)
               (try rw [Addr.add_zero'] at hx535_0)
               replace hx535_0 := (HB.out.cell (World.block_lt_of_cell? w _ hx535_0)).trans hx535_0
               replace p535 := eq_true p535
               replace q535 := eq_true q535
               have p42 : 0 ≤ (1 : Int) := (by omega)
               have q42 : (1 : Int) < ((x5_1.length : Int) : Int) := of_decide_eq_true as_
               have qi42 : (1 < x5_1.length) = True := eq_true (by omega)
               obtain ⟨go42, co42, eo42, gb42, gl42, cl42, HG42⟩ := Kd.R_form HO_5.out (by omega)
               (first | cases eo42 | (injection eo42 with ea_ en_ ec_; (first | subst ea_ | (injection ea_ with ea_; subst ea_)); subst ec_; clear en_))
               have GB42 := Aside0.mk gb42
               have GG42 := Aside0.mk HG42
               clear gb42 gl42 HG42
               obtain ⟨hx42_0, hf42_0⟩ := Kd.R_celln 0 HO_5.out (1 : Int) p42 q42
               (try rw [show ((1 : Int)).toNat = 1 from rfl] at hx42_0)
               (try simp only [Nat.reduceMul, Nat.zero_mul, Nat.zero_add, Nat.reduceAdd] at hx42_0)
               (try rw [show ((1 : Int)).toNat = 1 from rfl] at hf42_0)
               (try simp only [Nat.reduceMul, Nat.zero_mul, Nat.zero_add, Nat.reduceAdd] at hf42_0)
               replace p42 := eq_true p42
               replace q42 := eq_true q42
               have HP52 := Kd.R_putg HO_5.out (1 : Int) 159
               go_wp2_with (first | ((with_reducible refine gate_store (t := 5) (p := 52) rfl ?_); refine store_event (t := 5) (p := 52) (v := ?vo_w53) (w1 := (wr.setCell ⟨go42, (1 : Int).toNat, none⟩ (.int .u8 159))) ?hg ?ho ?hn ?hr ?_; (case ho => rfl); (case hg => rfl); (case hn => rfl); (case hr => first | (go_simp; done) | (go_simp; rfl)); intro w53 hw; have hg : wr.grownBy w53 (some go42) := (by rw [hw]; exact HP52.2); have hp_ : Kd.R (Kd.int .u8) 5 w53 w.heap.size (fun k_ => some k_ ≠ (.slice Ao51 x4_1.length co51 : Value).ownBlock) (.slice (some ⟨go42, 0, none⟩) x5_1.length co42) y543 := (by rw [hw, Ny543.out]; exact HP52.1); clear HP52; have n0_ := Aside0.mk (Kd.R_after (v := (.slice (some ⟨go42, 0, none⟩) x5_1.length co42)) (v1 := (.slice (some ⟨go42, 0, none⟩) x5_1.length co42)) (ok := (fun _ => True)) (by (with_reducible repeat (first | apply Kd.R_alloc | apply Kd.R_drewN | apply Kd.R_drew)); exact Kd.R_mono HO_4.out (fun _ hk => ⟨trivial, hk⟩)) hg (.inl rfl)); have n1_ := Aside0.mk (hp_); have n2_ := Aside0.mk ((by rw [hw]; exact below_set (HB.out) GB42.out : Below w.heap.size w w53)); clear HO_4; clear HO_5; clear HB; have HO_4 := n0_; have HO_5 := n1_; have HB := n2_; clear n0_ n1_ n2_; clear hg hw hp_) | ((with_reducible refine gate_callee (f := 98) rfl ?_); refine goesL_ (some 63) rfl rfl Tryd.func98 (by kernel_rfl) rfl #[.slice Ao51 x4_1.length co51, .int .i64 0] rfl ka_ ?_; (with_reducible refine (spec_GetSign.calls k1 _ _ x4_1 0 t544 t545 false _ ?side1 ?side2 A43.out).mono ?_); (case side1 => exact kc_ (Kd.R_reads' HO_4.out).2.2); (case side2 => exact (Kd.R_reads' HO_4.out).2.1); rintro e w54 ⟨rfl, hb⟩; refine ⟨_, rfl, ?_⟩; have n0_ := Aside0.mk (Kd.R_below (kr_ HO_4) hb); have n1_ := Aside0.mk (Kd.R_below (kr_ HO_5) hb); have n2_ := Aside0.mk (below_step hb_ hb); clear HO_4; clear HO_5; clear HB; have HO_4 := n0_; have HO_5 := n1_; have HB := n2_; clear n0_ n1_ n2_; try clear hb) | ((with_reducible refine gate_callee (f := 98) rfl ?_); refine goesL_ (some 69) rfl rfl Tryd.func98 (by kernel_rfl) rfl #[.slice (some ⟨go42, 0, none⟩) y543.length co42, .int .i64 0] rfl (by (try simp only [List.map_toArray, List.map_cons, List.map_nil]); first | done | (rw [show y543.length = x5_1.length from (Kd.R_reads' HO_5.out).1.symm] <;> rfl) | rfl | (simp only [List.length_drop, List.length_take]; rfl)) ?_; (with_reducible refine (spec_GetSign.calls k1 _ _ y543 0 t547 t548 t549 _ ?side1 ?side2 A44.out).mono ?_); (case side1 => exact kc_ (Kd.R_reads' HO_5.out).2.2); (case side2 => rw [show y543.length = x5_1.length from (Kd.R_reads' HO_5.out).1.symm]; exact (Kd.R_reads' HO_5.out).2.1); rintro e w55 ⟨rfl, hb⟩; refine ⟨_, rfl, ?_⟩; have n0_ := Aside0.mk (Kd.R_below (kr_ HO_4) hb); have n1_ := Aside0.mk (Kd.R_below (kr_ HO_5) hb); have n2_ := Aside0.mk (below_step hb_ hb); clear HO_4; clear HO_5; clear HB; have HO_4 := n0_; have HO_5 := n1_; have HB := n2_; clear n0_ n1_ n2_; try clear hb))
               go_ret
               exact ⟨rf_, hb_⟩
             ·rw [if_neg c41] at H
              exact absurd H (by simp)
            ·rw [if_neg c40] at H
             have c40b0 : ((rd l0 0) == 237) = false := beq_eq_false_iff_ne.mpr c40
             have c40b1 : ((rd l0 0) != 237) = true := bne_iff_ne.mpr c40
             by_cases c56 : (rd l0 0) = 240
             ·rw [if_pos c56] at H
              have c56b0 : ((rd l0 0) == 240) = true := beq_iff_eq.mpr c56
              have c56b1 : ((rd l0 0) != 240) = false := bne_eq_false_iff_eq.mpr c56
              clear c56
              by_cases c57 : 1 < (x4_1.length : Int)
              ·rw [if_pos c57] at H
               have c57b0 : decide (1 < (x4_1.length : Int)) = true := decide_eq_true c57
               have c57b1 : decide (1 < x4_1.length) = true := decide_eq_true (by omega)
               clear c57
               obtain ⟨y550, hy550⟩ : ∃ y_ : List Int, y_ = (x4_1.set (1 : Int).toNat 144) := ⟨_, rfl⟩
               replace H : ((spec_GetSign.f k1 y550 0).bind fun bt551 => ((spec_GetSign.f k1 x5_1 0).bind fun bt554 => (if bt551.2.2 = true then (some bt554.2.2) else (some false)))) = some r := by first | (rw [hy550]; with_reducible exact H) | (have H2_ := (Option.bind_some _ _).symm.trans H; rw [hy550]; with_reducible exact H2_) | (have H2_ := (Option.bind_some _ _).symm.trans H; with_reducible exact H2_) | with_reducible exact H | (rw [hy550]; exact H) | exact H
               have Ny550 := Aside0.mk hy550
               clear hy550
               replace H := Option.bind_eq_some_iff.mp H
               obtain ⟨⟨t551, t552, t553⟩, A590, H⟩ := H
               try dsimp only at H
               have A59 := Aside0.mk A590
               clear A590
               replace H := Option.bind_eq_some_iff.mp H
               obtain ⟨⟨t554, t555, t556⟩, A600, H⟩ := H
               try dsimp only at H
               have A60 := Aside0.mk A600
               clear A600
               by_cases c61 : t553 = true
               ·subst c61
                rw [if_pos rfl] at H
                obtain rfl := Option.some.inj H
                obtain ⟨Ao62, co62, eo62⟩ := Kd.R_slice HO_4.out
                subst eo62
                have p535 : 0 ≤ (0 : Int) := (by omega)
                have q535 : 0 < (l0.length : Int) := of_decide_eq_true as_
                obtain ⟨ad535, e535, hx535_0⟩ := Kd.at_int HR0.out 0 p535 q535
                obtain rfl : ad515 = ad535 := (by injection e535)
                have qi535 : (0 < l0.length) = True := eq_true (by omega)
                (try rw [show ((0 : Int)).toNat = 0 from rfl] at hx535_0)
                (try rw [Addr.add_zero'] at hx535_0)
                replace hx535_0 := (HB.out.cell (World.block_lt_of_cell? w _ hx535_0)).trans hx535_0
                replace p535 := eq_true p535
                replace q535 := eq_true q535
                have p58 : 0 ≤ (1 : Int) := (by omega)
                have q58 : (1 : Int) < ((x4_1.length : Int) : Int) := of_decide_eq_true as_
                have qi58 : (1 < x4_1.length) = True := eq_true (by omega)
                obtain ⟨go58, co58, eo58, gb58, gl58, cl58, HG58⟩ := Kd.R_form HO_4.out (by omega)
                (first | cases eo58 | (injection eo58 with ea_ en_ ec_; (first | subst ea_ | (injection ea_ with ea_; subst ea_)); subst ec_; clear en_))
                have GB58 := Aside0.mk gb58
                have GG58 := Aside0.mk HG58
                clear gb58 gl58 HG58
                obtain ⟨hx58_0, hf58_0⟩ := Kd.R_celln 0 HO_4.out (1 : Int) p58 q58
                (try rw [show ((1 : Int)).toNat = 1 from rfl] at hx58_0)
                (try simp only [Nat.reduceMul, Nat.zero_mul, Nat.zero_add, Nat.reduceAdd] at hx58_0)
                (try rw [show ((1 : Int)).toNat = 1 from rfl] at hf58_0)
                (try simp only [Nat.reduceMul, Nat.zero_mul, Nat.zero_add, Nat.reduceAdd] at hf58_0)
                replace p58 := eq_true p58
                replace q58 := eq_true q58
                have HP63 := Kd.R_putg HO_4.out (1 : Int) 144
                go_wp2_with (first | ((with_reducible refine gate_store (t := 5) (p := 56) rfl ?_); refine store_event (t := 5) (p := 56) (v := ?vo_w64) (w1 := (wr.setCell ⟨go58, (1 : Int).toNat, none⟩ (.int .u8 144))) ?hg ?ho ?hn ?hr ?_; (case ho => rfl); (case hg => rfl); (case hn => rfl); (case hr => first | (go_simp; done) | (go_simp; rfl)); intro w64 hw; have hg : wr.grownBy w64 (some go58) := (by rw [hw]; exact HP63.2); have hp_ : Kd.R (Kd.int .u8) 5 w64 w.heap.size (fun k_ => some k_ ≠ (u5 : Value).ownBlock) (.slice (some ⟨go58, 0, none⟩) x4_1.length co62) y550 := (by rw [hw, Ny550.out]; exact HP63.1); clear HP63; have n0_ := Aside0.mk (hp_); have n1_ := Aside0.mk (Kd.R_after (v := (.slice (some ⟨go58, 0, none⟩) x4_1.length co62)) (v1 := (.slice (some ⟨go58, 0, none⟩) x4_1.length co62)) (ok := (fun _ => True)) (by (with_reducible repeat (first | apply Kd.R_alloc | apply Kd.R_drewN | apply Kd.R_drew)); exact Kd.R_mono HO_5.out (fun _ hk => ⟨trivial, hk⟩)) hg (.inl rfl)); have n2_ := Aside0.mk ((by rw [hw]; exact below_set (HB.out) GB58.out : Below w.heap.size w w64)); clear HO_4; clear HO_5; clear HB; have HO_4 := n0_; have HO_5 := n1_; have HB := n2_; clear n0_ n1_ n2_; clear hg hw hp_) | ((with_reducible refine gate_callee (f := 98) rfl ?_); refine goesL_ (some 63) rfl rfl Tryd.func98 (by kernel_rfl) rfl #[.slice (some ⟨go58, 0, none⟩) y550.length co62, .int .i64 0] rfl (by (try simp only [List.map_toArray, List.map_cons, List.map_nil]); first | done | (rw [show y550.length = x4_1.length from (Kd.R_reads' HO_4.out).1.symm] <;> rfl) | rfl | (simp only [List.length_drop, List.length_take]; rfl)) ?_; (with_reducible refine (spec_GetSign.calls k1 _ _ y550 0 t551 t552 true _ ?side1 ?side2 A59.out).mono ?_); (case side1 => exact kc_ (Kd.R_reads' HO_4.out).2.2); (case side2 => rw [show y550.length = x4_1.length from (Kd.R_reads' HO_4.out).1.symm]; exact (Kd.R_reads' HO_4.out).2.1); rintro e w65 ⟨rfl, hb⟩; refine ⟨_, rfl, ?_⟩; have n0_ := Aside0.mk (Kd.R_below (kr_ HO_4) hb); have n1_ := Aside0.mk (Kd.R_below (kr_ HO_5) hb); have n2_ := Aside0.mk (below_step hb_ hb); clear HO_4; clear HO_5; clear HB; have HO_4 := n0_; have HO_5 := n1_; have HB := n2_; clear n0_ n1_ n2_; try clear hb; obtain ⟨Ao66, co66, eo66⟩ := Kd.R_slice HO_5.out; subst eo66) | ((with_reducible refine gate_callee (f := 98) rfl ?_); refine goesL_ (some 69) rfl rfl Tryd.func98 (by kernel_rfl) rfl #[.slice Ao66 x5_1.length co66, .int .i64 0] rfl ka_ ?_; (with_reducible refine (spec_GetSign.calls k1 _ _ x5_1 0 t554 t555 t556 _ ?side1 ?side2 A60.out).mono ?_); (case side1 => exact kc_ (Kd.R_reads' HO_5.out).2.2); (case side2 => exact (Kd.R_reads' HO_5.out).2.1); rintro e w67 ⟨rfl, hb⟩; refine ⟨_, rfl, ?_⟩; have n0_ := Aside0.mk (Kd.R_below (kr_ HO_4) hb); have n1_ := Aside0.mk (Kd.R_below (kr_ HO_5) hb); have n2_ := Aside0.mk (below_step hb_ hb); clear HO_4; clear HO_5; clear HB; have HO_4 := n0_; have HO_5 := n1_; have HB := n2_; clear n0_ n1_ n2_; try clear hb))
                go_ret
                exact ⟨rf_, hb_⟩
               ·replace c61 := Bool.eq_false_iff.mpr c61
                subst c61
                rw [if_neg (show ¬ (false = true) by decide)] at H
                obtain rfl := Option.some.inj H
                obtain ⟨Ao68, co68, eo68⟩ := Kd.R_slice HO_4.out
                subst eo68
                have p535 : 0 ≤ (0 : Int) := (by omega)
                have q535 : 0 < (l0.length : Int) := of_decide_eq_true as_
                obtain ⟨ad535, e535, hx535_0⟩ := Kd.at_int HR0.out 0 p535 q535
                obtain rfl : ad515 = ad535 := (by injection e535)
                have qi535 : (0 < l0.length) = True := eq_true (by omega)
                (try rw [show ((0 : Int)).toNat = 0 from rfl] at hx535_0)
                (try rw [Addr.add_zero'] at hx535_0)
                replace hx535_0 := (HB.out.cell (World.block_lt_of_cell? w _ hx535_0)).trans hx535_0
                replace p535 := eq_true p535
                replace q535 := eq_true q535
                have p58 : 0 ≤ (1 : Int) := (by omega)
                have q58 : (1 : Int) < ((x4_1.length : Int) : Int) := of_decide_eq_true as_
                have qi58 : (1 < x4_1.length) = True := eq_true (by omega)
                obtain ⟨go58, co58, eo58, gb58, gl58, cl58, HG58⟩ := Kd.R_form HO_4.out (by omega)
                (first | cases eo58 | (injection eo58 with ea_ en_ ec_; (first | subst ea_ | (injection ea_ with ea_; subst ea_)); subst ec_; clear en_))
                have GB58 := Aside0.mk gb58
                have GG58 := Aside0.mk HG58
                clear gb58 gl58 HG58
                obtain ⟨hx58_0, hf58_0⟩ := Kd.R_celln 0 HO_4.out (1 : Int) p58 q58
                (try rw [show ((1 : Int)).toNat = 1 from rfl] at hx58_0)
                (try simp only [Nat.reduceMul, Nat.zero_mul, Nat.zero_add, Nat.reduceAdd] at hx58_0)
                (try rw [show ((1 : Int)).toNat = 1 from rfl] at hf58_0)
                (try simp only [Nat.reduceMul, Nat.zero_mul, Nat.zero_add, Nat.reduceAdd] at hf58_0)
                replace p58 := eq_true p58
                replace q58 := eq_true q58
                have HP69 := Kd.R_putg HO_4.out (1 : Int) 144
                go_wp2_with (first | ((with_reducible refine gate_store (t := 5) (p := 56) rfl ?_); refine store_event (t := 5) (p := 56) (v := ?vo_w70) (w1 := (wr.setCell ⟨go58, (1 : Int).toNat, none⟩ (.int .u8 144))) ?hg ?ho ?hn ?hr ?_; (case ho => rfl); (case hg => rfl); (case hn => rfl); (case hr => first | (go_simp; done) | (go_simp; rfl)); intro w70 hw; have hg : wr.grownBy w70 (some go58) := (by rw [hw]; exact HP69.2); have hp_ : Kd.R (Kd.int .u8) 5 w70 w.heap.size (fun k_ => some k_ ≠ (u5 : Value).ownBlock) (.slice (some ⟨go58, 0, none⟩) x4_1.length co68) y550 := (by rw [hw, Ny550.out]; exact HP69.1); clear HP69; have n0_ := Aside0.mk (hp_); have n1_ := Aside0.mk (Kd.R_after (v := (.slice (some ⟨go58, 0, none⟩) x4_1.length co68)) (v1 := (.slice (some ⟨go58, 0, none⟩) x4_1.length co68)) (ok := (fun _ => True)) (by (with_reducible repeat (first | apply Kd.R_alloc | apply Kd.R_drewN | apply Kd.R_drew)); exact Kd.R_mono HO_5.out (fun _ hk => ⟨trivial, hk⟩)) hg (.inl rfl)); have n2_ := Aside0.mk ((by rw [hw]; exact below_set (HB.out) GB58.out : Below w.heap.size w w70)); clear HO_4; clear HO_5; clear HB; have HO_4 := n0_; have HO_5 := n1_; have HB := n2_; clear n0_ n1_ n2_; clear hg hw hp_) | ((with_reducible refine gate_callee (f := 98) rfl ?_); refine goesL_ (some 63) rfl rfl Tryd.func98 (by kernel_rfl) rfl #[.slice (some ⟨go58, 0, none⟩) y550.length co68, .int .i64 0] rfl (by (try simp only [List.map_toArray, List.map_cons, List.map_nil]); first | done | (rw [show y550.length = x4_1.length from (Kd.R_reads' HO_4.out).1.symm] <;> rfl) | rfl | (simp only [List.length_drop, List.length_take]; rfl)) ?_; (with_reducible refine (spec_GetSign.calls k1 _ _ y550 0 t551 t552 false _ ?side1 ?side2 A59.out).mono ?_); (case side1 => exact kc_ (Kd.R_reads' HO_4.out).2.2); (case side2 => rw [show y550.length = x4_1.length from (Kd.R_reads' HO_4.out).1.symm]; exact (Kd.R_reads' HO_4.out).2.1); rintro e w71 ⟨rfl, hb⟩; refine ⟨_, rfl, ?_⟩; have n0_ := Aside0.mk (Kd.R_below (kr_ HO_4) hb); have n1_ := Aside0.mk (Kd.R_below (kr_ HO_5) hb); have n2_ := Aside0.mk (below_step hb_ hb); clear HO_4; clear HO_5; clear HB; have HO_4 := n0_; have HO_5 := n1_; have HB := n2_; clear n0_ n1_ n2_; try clear hb; obtain ⟨Ao72, co72, eo72⟩ := Kd.R_slice HO_5.out; subst eo72) | ((with_reducible refine gate_callee (f := 98) rfl ?_); refine goesL_ (some 69) rfl rfl Tryd.func98 (by kernel_rfl) rfl #[.slice Ao72 x5_1.length co72, .int .i64 0] rfl ka_ ?_; (with_reducible refine (spec_GetSign.calls k1 _ _ x5_1 0 t554 t555 t556 _ ?side1 ?side2 A60.out).mono ?_); (case side1 => exact kc_ (Kd.R_reads' HO_5.out).2.2); (case side2 => exact (Kd.R_reads' HO_5.out).2.1); rintro e w73 ⟨rfl, hb⟩; refine ⟨_, rfl, ?_⟩; have n0_ := Aside0.mk (Kd.R_below (kr_ HO_4) hb); have n1_ := Aside0.mk (Kd.R_below (kr_ HO_5) hb); have n2_ := Aside0.mk (below_step hb_ hb); clear HO_4; clear HO_5; clear HB; have HO_4 := n0_; have HO_5 := n1_; have HB := n2_; clear n0_ n1_ n2_; try clear hb))
                go_ret
                exact ⟨rf_, hb_⟩
              ·rw [if_neg c57] at H
               exact absurd H (by simp)
             ·rw [if_neg c56] at H
              have c56b0 : ((rd l0 0) == 240) = false := beq_eq_false_iff_ne.mpr c56
              have c56b1 : ((rd l0 0) != 240) = true := bne_iff_ne.mpr c56
              by_cases c74 : (rd l0 0) = 244
              ·rw [if_pos c74] at H
               have c74b0 : ((rd l0 0) == 244) = true := beq_iff_eq.mpr c74
               have c74b1 : ((rd l0 0) != 244) = false := bne_eq_false_iff_eq.mpr c74
               clear c74
               by_cases c75 : 1 < (x5_1.length : Int)
               ·rw [if_pos c75] at H
                have c75b0 : decide (1 < (x5_1.length : Int)) = true := decide_eq_true c75
                have c75b1 : decide (1 < x5_1.length) = true := decide_eq_true (by omega)
                clear c75
                obtain ⟨y557, hy557⟩ : ∃ y_ : List Int, y_ = (x5_1.set (1 : Int).toNat 143) := ⟨_, rfl⟩
                replace H : ((spec_GetSign.f k1 x4_1 0).bind fun bt558 => ((spec_GetSign.f k1 y557 0).bind fun bt561 => (if bt558.2.2 = true then (some bt561.2.2) else (some false)))) = some r := by first | (rw [hy557]; with_reducible exact H) | (have H2_ := (Option.bind_some _ _).symm.trans H; rw [hy557]; with_reducible exact H2_) | (have H2_ := (Option.bind_some _ _).symm.trans H; with_reducible exact H2_) | with_reducible exact H | (rw [hy557]; exact H) | exact H
                have Ny557 := Aside0.mk hy557
                clear hy557
                replace H := Option.bind_eq_some_iff.mp H
                obtain ⟨⟨t558, t559, t560⟩, A770, H⟩ := H
                try dsimp only at H
                have A77 := Aside0.mk A770
                clear A770
                replace H := Option.bind_eq_some_iff.mp H
                obtain ⟨⟨t561, t562, t563⟩, A780, H⟩ := H
                try dsimp only at H
                have A78 := Aside0.mk A780
                clear A780
                by_cases c79 : t560 = true
                ·subst c79
                 rw [if_pos rfl] at H
                 obtain rfl := Option.some.inj H
                 obtain ⟨Ao80, co80, eo80⟩ := Kd.R_slice HO_4.out
                 subst eo80
                 have p535 : 0 ≤ (0 : Int) := (by omega)
                 have q535 : 0 < (l0.length : Int) := of_decide_eq_true as_
                 obtain ⟨ad535, e535, hx535_0⟩ := Kd.at_int HR0.out 0 p535 q535
                 obtain rfl : ad515 = ad535 := (by injection e535)
                 have qi535 : (0 < l0.length) = True := eq_true (by omega)
                 (try rw [show ((0 : Int)).toNat = 0 from rfl] at hx535_0)
                 (try rw [Addr.add_zero'] at hx535_0)
                 replace hx535_0 := (HB.out.cell (World.block_lt_of_cell? w _ hx535_0)).trans hx535_0
                 replace p535 := eq_true p535
                 replace q535 := eq_true q535
                 have p76 : 0 ≤ (1 : Int) := (by omega)
                 have q76 : (1 : Int) < ((x5_1.length : Int) : Int) := of_decide_eq_true as_
                 have qi76 : (1 < x5_1.length) = True := eq_true (by omega)
                 obtain ⟨go76, co76, eo76, gb76, gl76, cl76, HG76⟩ := Kd.R_form HO_5.out (by omega)
                 (first | cases eo76 | (injection eo76 with ea_ en_ ec_; (first | subst ea_ | (injection ea_ with ea_; subst ea_)); subst ec_; clear en_))
                 have GB76 := Aside0.mk gb76
                 have GG76 := Aside0.mk HG76
                 clear gb76 gl76 HG76
                 obtain ⟨hx76_0, hf76_0⟩ := Kd.R_celln 0 HO_5.out (1 : Int) p76 q76
                 (try rw [show ((1 : Int)).toNat = 1 from rfl] at hx76_0)
                 (try simp only [Nat.reduceMul, Nat.zero_mul, Nat.zero_add, Nat.reduceAdd] at hx76_0)
                 (try rw [show ((1 : Int)).toNat = 1 from rfl] at hf76_0)
                 (try simp only [Nat.reduceMul, Nat.zero_mul, Nat.zero_add, Nat.reduceAdd] at hf76_0)
                 replace p76 := eq_true p76
                 replace q76 := eq_true q76
                 have HP81 := Kd.R_putg HO_5.out (1 : Int) 143
                 go_wp2_with (first | ((with_reducible refine gate_store (t := 5) (p := 60) rfl ?_); refine store_event (t := 5) (p := 60) (v := ?vo_w82) (w1 := (wr.setCell ⟨go76, (1 : Int).toNat, none⟩ (.int .u8 143))) ?hg ?ho ?hn ?hr ?_; (case ho => rfl); (case hg => rfl); (case hn => rfl); (case hr => first | (go_simp; done) | (go_simp; rfl)); intro w82 hw; have hg : wr.grownBy w82 (some go76) := (by rw [hw]; exact HP81.2); have hp_ : Kd.R (Kd.int .u8) 5 w82 w.heap.size (fun k_ => some k_ ≠ (.slice Ao80 x4_1.length co80 : Value).ownBlock) (.slice (some ⟨go76, 0, none⟩) x5_1.length co76) y557 := (by rw [hw, Ny557.out]; exact HP81.1); clear HP81; have n0_ := Aside0.mk (Kd.R_after (v := (.slice (some ⟨go76, 0, none⟩) x5_1.length co76)) (v1 := (.slice (some ⟨go76, 0, none⟩) x5_1.length co76)) (ok := (fun _ => True)) (by (with_reducible repeat (first | apply Kd.R_alloc | apply Kd.R_drewN | apply Kd.R_drew)); exact Kd.R_mono HO_4.out (fun _ hk => ⟨trivial, hk⟩)) hg (.inl rfl)); have n1_ := Aside0.mk (hp_); have n2_ := Aside0.mk ((by rw [hw]; exact below_set (HB.out) GB76.out : Below w.heap.size w w82)); clear HO_4; clear HO_5; clear HB; have HO_4 := n0_; have HO_5 := n1_; have HB := n2_; clear n0_ n1_ n2_; clear hg hw hp_) | ((with_reducible refine gate_callee (f := 98) rfl ?_); refine goesL_ (some 63) rfl rfl Tryd.func98 (by kernel_rfl) rfl #[.slice Ao80 x4_1.length co80, .int .i64 0] rfl ka_ ?_; (with_reducible refine (spec_GetSign.calls k1 _ _ x4_1 0 t558 t559 true _ ?side1 ?side2 A77.out).mono ?_); (case side1 => exact kc_ (Kd.R_reads' HO_4.out).2.2); (case side2 => exact (Kd.R_reads' HO_4.out).2.1); rintro e w83 ⟨rfl, hb⟩; refine ⟨_, rfl, ?_⟩; have n0_ := Aside0.mk (Kd.R_below (kr_ HO_4) hb); have n1_ := Aside0.mk (Kd.R_below (kr_ HO_5) hb); have n2_ := Aside0.mk (below_step hb_ hb); clear HO_4; clear HO_5; clear HB; have HO_4 := n0_; have HO_5 := n1_; have HB := n2_; clear n0_ n1_ n2_; try clear hb) | ((with_reducible refine gate_callee (f := 98) rfl ?_); refine goesL_ (some 69) rfl rfl Tryd.func98 (by kernel_rfl) rfl #[.slice (some ⟨go76, 0, none⟩) y557.length co76, .int .i64 0] rfl (by (try simp only [List.map_toArray, List.map_cons, List.map_nil]); first | done | (rw [show y557.length = x5_1.length from (Kd.R_reads' HO_5.out).1.symm] <;> rfl) | rfl | (simp only [List.length_drop, List.length_take]; rfl)) ?_; (with_reducible refine (spec_GetSign.calls k1 _ _ y557 0 t561 t562 t563 _ ?side1 ?side2 A78.out).mono ?_); (case side1 => exact kc_ (Kd.R_reads' HO_5.out).2.2); (case side2 => rw [show y557.length = x5_1.length from (Kd.R_reads' HO_5.out).1.symm]; exact (Kd.R_reads' HO_5.out).2.1); rintro e w84 ⟨rfl, hb⟩; refine ⟨_, rfl, ?_⟩; have n0_ := Aside0.mk (Kd.R_below (kr_ HO_4) hb); have n1_ := Aside0.mk (Kd.R_below (kr_ HO_5) hb); have n2_ := Aside0.mk (below_step hb_ hb); clear HO_4; clear HO_5; clear HB; have HO_4 := n0_; have HO_5 := n1_; have HB := n2_; clear n0_ n1_ n2_; try clear hb))
                 go_ret
                 exact ⟨rf_, hb_⟩
                ·replace c79 := Bool.eq_false_iff.mpr c79
                 subst c79
                 rw [if_neg (show ¬ (false = true) by decide)] at H
                 obtain rfl := Option.some.inj H
                 obtain ⟨Ao85, co85, eo85⟩ := Kd.R_slice HO_4.out
                 subst eo85
                 have p535 : 0 ≤ (0 : Int) := (by omega)
                 have q535 : 0 < (l0.length : Int) := of_decide_eq_true as_
                 obtain ⟨ad535, e535, hx535_0⟩ := Kd.at_int HR0.out 0 p535 q535
                 obtain rfl : ad515 = ad535 := (by injection e535)
                 have qi535 : (0 < l0.length) = True := eq_true (by omega)
                 (try rw [show ((0 : Int)).toNat = 0 from rfl] at hx535_0)
                 (try rw [Addr.add_zero'] at hx535_0)
                 replace hx535_0 := (HB.out.cell (World.block_lt_of_cell? w _ hx535_0)).trans hx535_0
                 replace p535 := eq_true p535
                 replace q535 := eq_true q535
                 have p76 : 0 ≤ (1 : Int) := (by omega)
                 have q76 : (1 : Int) < ((x5_1.length : Int) : Int) := of_decide_eq_true as_
                 have qi76 : (1 < x5_1.length) = True := eq_true (by omega)
                 obtain ⟨go76, co76, eo76, gb76, gl76, cl76, HG76⟩ := Kd.R_form HO_5.out (by omega)
                 (first | cases eo76 | (injection eo76 with ea_ en_ ec_; (first | subst ea_ | (injection ea_ with ea_; subst ea_)); subst ec_; clear en_))
                 have GB76 := Aside0.mk gb76
                 have GG76 := Aside0.mk HG76
                 clear gb76 gl76 HG76
                 obtain ⟨hx76_0, hf76_0⟩ := Kd.R_celln 0 HO_5.out (1 : Int) p76 q76
                 (try rw [show ((1 : Int)).toNat = 1 from rfl] at hx76_0)
                 (try simp only [Nat.reduceMul, Nat.zero_mul, Nat.zero_add, Nat.reduceAdd] at hx76_0)
                 (try rw [show ((1 : Int)).toNat = 1 from rfl] at hf76_0)
                 (try simp only [Nat.reduceMul, Nat.zero_mul, Nat.zero_add, Nat.reduceAdd] at hf76_0)
                 replace p76 := eq_true p76
                 replace q76 := eq_true q76
                 have HP86 := Kd.R_putg HO_5.out (1 : Int) 143
                 go_wp2_with (first | ((with_reducible refine gate_store (t := 5) (p := 60) rfl ?_); refine store_event (t := 5) (p := 60) (v := ?vo_w87) (w1 := (wr.setCell ⟨go76, (1 : Int).toNat, none⟩ (.int .u8 143))) ?hg ?ho ?hn ?hr ?_; (case ho => rfl); (case hg => rfl); (case hn => rfl); (case hr => first | (go_simp; done) | (go_simp; rfl)); intro w87 hw; have hg : wr.grownBy w87 (some go76) := (by rw [hw]; exact HP86.2); have hp_ : Kd.R (Kd.int .u8) 5 w87 w.heap.size (fun k_ => some k_ ≠ (.slice Ao85 x4_1.length co85 : Value).ownBlock) (.slice (some ⟨go76, 0, none⟩) x5_1.length co76) y557 := (by rw [hw, Ny557.out]; exact HP86.1); clear HP86; have n0_ := Aside0.mk (Kd.R_after (v := (.slice (some ⟨go76, 0, none⟩) x5_1.length co76)) (v1 := (.slice (some ⟨go76, 0, none⟩) x5_1.length co76)) (ok := (fun _ => True)) (by (with_reducible repeat (first | apply Kd.R_alloc | apply Kd.R_drewN | apply Kd.R_drew)); exact Kd.R_mono HO_4.out (fun _ hk => ⟨trivial, hk⟩)) hg (.inl rfl)); have n1_ := Aside0.mk (hp_); have n2_ := Aside0.mk ((by rw [hw]; exact below_set (HB.out) GB76.out : Below w.heap.size w w87)); clear HO_4; clear HO_5; clear HB; have HO_4 := n0_; have HO_5 := n1_; have HB := n2_; clear n0_ n1_ n2_; clear hg hw hp_) | ((with_reducible refine gate_callee (f := 98) rfl ?_); refine goesL_ (some 63) rfl rfl Tryd.func98 (by kernel_rfl) rfl #[.slice Ao85 x4_1.length co85, .int .i64 0] rfl ka_ ?_; (with_reducible refine (spec_GetSign.calls k1 _ _ x4_1 0 t558 t559 false _ ?side1 ?side2 A77.out).mono ?_); (case side1 => exact kc_ (Kd.R_reads' HO_4.out).2.2); (case side2 => exact (Kd.R_reads' HO_4.out).2.1); rintro e w88 ⟨rfl, hb⟩; refine ⟨_, rfl, ?_⟩; have n0_ := Aside0.mk (Kd.R_below (kr_ HO_4) hb); have n1_ := Aside0.mk (Kd.R_below (kr_ HO_5) hb); have n2_ := Aside0.mk (below_step hb_ hb); clear HO_4; clear HO_5; clear HB; have HO_4 := n0_; have HO_5 := n1_; have HB := n2_; clear n0_ n1_ n2_; try clear hb) | ((with_reducible refine gate_callee (f := 98) rfl ?_); refine goesL_ (some 69) rfl rfl Tryd.func98 (by kernel_rfl) rfl #[.slice (some ⟨go76, 0, none⟩) y557.length co76, .int .i64 0] rfl (by (try simp only [List.map_toArray, List.map_cons, List.map_nil]); first | done | (rw [show y557.length = x5_1.length from (Kd.R_reads' HO_5.out).1.symm] <;> rfl) | rfl | (simp only [List.length_drop, List.length_take]; rfl)) ?_; (with_reducible refine (spec_GetSign.calls k1 _ _ y557 0 t561 t562 t563 _ ?side1 ?side2 A78.out).mono ?_); (case side1 => exact kc_ (Kd.R_reads' HO_5.out).2.2); (case side2 => rw [show y557.length = x5_1.length from (Kd.R_reads' HO_5.out).1.symm]; exact (Kd.R_reads' HO_5.out).2.1); rintro e w89 ⟨rfl, hb⟩; refine ⟨_, rfl, ?_⟩; have n0_ := Aside0.mk (Kd.R_below (kr_ HO_4) hb); have n1_ := Aside0.mk (Kd.R_below (kr_ HO_5) hb); have n2_ := Aside0.mk (below_step hb_ hb); clear HO_4; clear HO_5; clear HB; have HO_4 := n0_; have HO_5 := n1_; have HB := n2_; clear n0_ n1_ n2_; try clear hb))
                 go_ret
                 exact ⟨rf_, hb_⟩
               ·rw [if_neg c75] at H
                exact absurd H (by simp)
              ·rw [if_neg c74] at H
               have c74b0 : ((rd l0 0) == 244) = false := beq_eq_false_iff_ne.mpr c74
               have c74b1 : ((rd l0 0) != 244) = true := bne_iff_ne.mpr c74
               replace H := Option.bind_eq_some_iff.mp H
               obtain ⟨⟨t564, t565, t566⟩, A900, H⟩ := H
               try dsimp only at H
               have A90 := Aside0.mk A900
               clear A900
               replace H := Option.bind_eq_some_iff.mp H
               obtain ⟨⟨t567, t568, t569⟩, A910, H⟩ := H
               try dsimp only at H
               have A91 := Aside0.mk A910
               clear A910
               by_cases c92 : t566 = true
               ·subst c92
                rw [if_pos rfl] at H
                obtain rfl := Option.some.inj H
                obtain ⟨Ao93, co93, eo93⟩ := Kd.R_slice HO_4.out
                subst eo93
                have p535 : 0 ≤ (0 : Int) := (by omega)
                have q535 : 0 < (l0.length : Int) := of_decide_eq_true as_
                obtain ⟨ad535, e535, hx535_0⟩ := Kd.at_int HR0.out 0 p535 q535
                obtain rfl : ad515 = ad535 := (by injection e535)
                have qi535 : (0 < l0.length) = True := eq_true (by omega)
                (try rw [show ((0 : Int)).toNat = 0 from rfl] at hx535_0)
                (try rw [Addr.add_zero'] at hx535_0)
                replace hx535_0 := (HB.out.cell (World.block_lt_of_cell? w _ hx535_0)).trans hx535_0
                replace p535 := eq_true p535
                replace q535 := eq_true q535
                go_wp2_with (first | ((with_reducible refine gate_callee (f := 98) rfl ?_); refine goesL_ (some 63) rfl rfl Tryd.func98 (by kernel_rfl) rfl #[.slice Ao93 x4_1.length co93, .int .i64 0] rfl ka_ ?_; (with_reducible refine (spec_GetSign.calls k1 _ _ x4_1 0 t564 t565 true _ ?side1 ?side2 A90.out).mono ?_); (case side1 => exact kc_ (Kd.R_reads' HO_4.out).2.2); (case side2 => exact (Kd.R_reads' HO_4.out).2.1); rintro e w94 ⟨rfl, hb⟩; refine ⟨_, rfl, ?_⟩; have n0_ := Aside0.mk (Kd.R_below (kr_ HO_4) hb); have n1_ := Aside0.mk (Kd.R_below (kr_ HO_5) hb); have n2_ := Aside0.mk (below_step hb_ hb); clear HO_4; clear HO_5; clear HB; have HO_4 := n0_; have HO_5 := n1_; have HB := n2_; clear n0_ n1_ n2_; try clear hb; obtain ⟨Ao95, co95, eo95⟩ := Kd.R_slice HO_5.out; subst eo95) | ((with_reducible refine gate_callee (f := 98) rfl ?_); refine goesL_ (some 69) rfl rfl Tryd.func98 (by kernel_rfl) rfl #[.slice Ao95 x5_1.length co95, .int .i64 0] rfl ka_ ?_; (with_reducible refine (spec_GetSign.calls k1 _ _ x5_1 0 t567 t568 t569 _ ?side1 ?side2 A91.out).mono ?_); (case side1 => exact kc_ (Kd.R_reads' HO_5.out).2.2); (case side2 => exact (Kd.R_reads' HO_5.out).2.1); rintro e w96 ⟨rfl, hb⟩; refine ⟨_, rfl, ?_⟩; have n0_ := Aside0.mk (Kd.R_below (kr_ HO_4) hb); have n1_ := Aside0.mk (Kd.R_below (kr_ HO_5) hb); have n2_ := Aside0.mk (below_step hb_ hb); clear HO_4; clear HO_5; clear HB; have HO_4 := n0_; have HO_5 := n1_; have HB := n2_; clear n0_ n1_ n2_; try clear hb))
                go_ret
                exact ⟨rf_, hb_⟩
               ·replace c92 := Bool.eq_false_iff.mpr c92
                subst c92
                rw [if_neg (show ¬ (false = true) by decide)] at H
                obtain rfl := Option.some.inj H
                obtain ⟨Ao97, co97, eo97⟩ := Kd.R_slice HO_4.out
                subst eo97
                have p535 : 0 ≤ (0 : Int) := (by omega)
                have q535 : 0 < (l0.length : Int) := of_decide_eq_true as_
                obtain ⟨ad535, e535, hx535_0⟩ := Kd.at_int HR0.out 0 p535 q535
                obtain rfl : ad515 = ad535 := (by injection e535)
                have qi535 : (0 < l0.length) = True := eq_true (by omega)
                (try rw [show ((0 : Int)).toNat = 0 from rfl] at hx535_0)
                (try rw [Addr.add_zero'] at hx535_0)
                replace hx535_0 := (HB.out.cell (World.block_lt_of_cell? w _ hx535_0)).trans hx535_0
                replace p535 := eq_true p535
                replace q535 := eq_true q535
                go_wp2_with (first | ((with_reducible refine gate_callee (f := 98) rfl ?_); refine goesL_ (some 63) rfl rfl Tryd.func98 (by kernel_rfl) rfl #[.slice Ao97 x4_1.length co97, .int .i64 0] rfl ka_ ?_; (with_reducible refine (spec_GetSign.calls k1 _ _ x4_1 0 t564 t565 false _ ?side1 ?side2 A90.out).mono ?_); (case side1 => exact kc_ (Kd.R_reads' HO_4.out).2.2); (case side2 => exact (Kd.R_reads' HO_4.out).2.1); rintro e w98 ⟨rfl, hb⟩; refine ⟨_, rfl, ?_⟩; have n0_ := Aside0.mk (Kd.R_below (kr_ HO_4) hb); have n1_ := Aside0.mk (Kd.R_below (kr_ HO_5) hb); have n2_ := Aside0.mk (below_step hb_ hb); clear HO_4; clear HO_5; clear HB; have HO_4 := n0_; have HO_5 := n1_; have HB := n2_; clear n0_ n1_ n2_; try clear hb; obtain ⟨Ao99, co99, eo99⟩ := Kd.R_slice HO_5.out; subst eo99) | ((with_reducible refine gate_callee (f := 98) rfl ?_); refine goesL_ (some 69) rfl rfl Tryd.func98 (by kernel_rfl) rfl #[.slice Ao99 x5_1.length co99, .int .i64 0] rfl ka_ ?_; (with_reducible refine (spec_GetSign.calls k1 _ _ x5_1 0 t567 t568 t569 _ ?side1 ?side2 A91.out).mono ?_); (case side1 => exact kc_ (Kd.R_reads' HO_5.out).2.2); (case side2 => exact (Kd.R_reads' HO_5.out).2.1); rintro e w100 ⟨rfl, hb⟩; refine ⟨_, rfl, ?_⟩; have n0_ := Aside0.mk (Kd.R_below (kr_ HO_4) hb); have n1_ := Aside0.mk (Kd.R_below (kr_ HO_5) hb); have n2_ := Aside0.mk (below_step hb_ hb); clear HO_4; clear HO_5; clear HB; have HO_4 := n0_; have HO_5 := n1_; have HB := n2_; clear n0_ n1_ n2_; try clear hb))
                go_ret
                exact ⟨rf_, hb_⟩
          ·rw [if_neg c21] at H
           exact absurd H (by simp)
         ·rw [if_neg c20] at H
          have c20b0 : ((l0.length : Int) == 1) = false := beq_eq_false_iff_ne.mpr c20
          have c20b1 : ((l0.length : Int) != 1) = true := bne_iff_ne.mpr c20
          replace H := Option.bind_eq_some_iff.mp H
          obtain ⟨⟨t570, t571, t572⟩, A1010, H⟩ := H
          try dsimp only at H
          have A101 := Aside0.mk A1010
          clear A1010
          replace H := Option.bind_eq_some_iff.mp H
          obtain ⟨⟨t573, t574, t575⟩, A1020, H⟩ := H
          try dsimp only at H
          have A102 := Aside0.mk A1020
          clear A1020
          by_cases c103 : t572 = true
          ·subst c103
           rw [if_pos rfl] at H
           obtain rfl := Option.some.inj H
           obtain ⟨Ao104, co104, eo104⟩ := Kd.R_slice HO_4.out
           subst eo104
           go_wp2_with (first | ((with_reducible refine gate_callee (f := 98) rfl ?_); refine goesL_ (some 63) rfl rfl Tryd.func98 (by kernel_rfl) rfl #[.slice Ao104 x4_1.length co104, .int .i64 0] rfl ka_ ?_; (with_reducible refine (spec_GetSign.calls k1 _ _ x4_1 0 t570 t571 true _ ?side1 ?side2 A101.out).mono ?_); (case side1 => exact kc_ (Kd.R_reads' HO_4.out).2.2); (case side2 => exact (Kd.R_reads' HO_4.out).2.1); rintro e w105 ⟨rfl, hb⟩; refine ⟨_, rfl, ?_⟩; have n0_ := Aside0.mk (Kd.R_below (kr_ HO_4) hb); have n1_ := Aside0.mk (Kd.R_below (kr_ HO_5) hb); have n2_ := Aside0.mk (below_step hb_ hb); clear HO_4; clear HO_5; clear HB; have HO_4 := n0_; have HO_5 := n1_; have HB := n2_; clear n0_ n1_ n2_; try clear hb; obtain ⟨Ao106, co106, eo106⟩ := Kd.R_slice HO_5.out; subst eo106) | ((with_reducible refine gate_callee (f := 98) rfl ?_); refine goesL_ (some 69) rfl rfl Tryd.func98 (by kernel_rfl) rfl #[.slice Ao106 x5_1.length co106, .int .i64 0] rfl ka_ ?_; (with_reducible refine (spec_GetSign.calls k1 _ _ x5_1 0 t573 t574 t575 _ ?side1 ?side2 A102.out).mono ?_); (case side1 => exact kc_ (Kd.R_reads' HO_5.out).2.2); (case side2 => exact (Kd.R_reads' HO_5.out).2.1); rintro e w107 ⟨rfl, hb⟩; refine ⟨_, rfl, ?_⟩; have n0_ := Aside0.mk (Kd.R_below (kr_ HO_4) hb); have n1_ := Aside0.mk (Kd.R_below (kr_ HO_5) hb); have n2_ := Aside0.mk (below_step hb_ hb); clear HO_4; clear HO_5; clear HB; have HO_4 := n0_; have HO_5 := n1_; have HB := n2_; clear n0_ n1_ n2_; try clear hb))
           go_ret
           exact ⟨rf_, hb_⟩
          ·replace c103 := Bool.eq_false_iff.mpr c103
           subst c103
           rw [if_neg (show ¬ (false = true) by decide)] at H
           obtain rfl := Option.some.inj H
           obtain ⟨Ao108, co108, eo108⟩ := Kd.R_slice HO_4.out
           subst eo108
           go_wp2_with (first | ((with_reducible refine gate_callee (f := 98) rfl ?_); refine goesL_ (some 63) rfl rfl Tryd.func98 (by kernel_rfl) rfl #[.slice Ao108 x4_1.length co108, .int .i64 0] rfl ka_ ?_; (with_reducible refine (spec_GetSign.calls k1 _ _ x4_1 0 t570 t571 false _ ?side1 ?side2 A101.out).mono ?_); (case side1 => exact kc_ (Kd.R_reads' HO_4.out).2.2); (case side2 => exact (Kd.R_reads' HO_4.out).2.1); rintro e w109 ⟨rfl, hb⟩; refine ⟨_, rfl, ?_⟩; have n0_ := Aside0.mk (Kd.R_below (kr_ HO_4) hb); have n1_ := Aside0.mk (Kd.R_below (kr_ HO_5) hb); have n2_ := Aside0.mk (below_step hb_ hb); clear HO_4; clear HO_5; clear HB; have HO_4 := n0_; have HO_5 := n1_; have HB := n2_; clear n0_ n1_ n2_; try clear hb; obtain ⟨Ao110, co110, eo110⟩ := Kd.R_slice HO_5.out; subst eo110) | ((with_reducible refine gate_callee (f := 98) rfl ?_); refine goesL_ (some 69) rfl rfl Tryd.func98 (by kernel_rfl) rfl #[.slice Ao110 x5_1.length co110, .int .i64 0] rfl ka_ ?_; (with_reducible refine (spec_GetSign.calls k1 _ _ x5_1 0 t573 t574 t575 _ ?side1 ?side2 A102.out).mono ?_); (case side1 => exact kc_ (Kd.R_reads' HO_5.out).2.2); (case side2 => exact (Kd.R_reads' HO_5.out).2.1); rintro e w111 ⟨rfl, hb⟩; refine ⟨_, rfl, ?_⟩; have n0_ := Aside0.mk (Kd.R_below (kr_ HO_4) hb); have n1_ := Aside0.mk (Kd.R_below (kr_ HO_5) hb); have n2_ := Aside0.mk (below_step hb_ hb); clear HO_4; clear HO_5; clear HB; have HO_4 := n0_; have HO_5 := n1_; have HB := n2_; clear n0_ n1_ n2_; try clear hb))
           go_ret
           exact ⟨rf_, hb_⟩
     ·rw [if_neg c7] at H
      exact absurd H (by simp)
    ·rw [if_neg c6] at H
     exact absurd H (by simp)
  ·rw [if_neg c3] at H
   exact absurd H (by simp)

/-! ### spec_l6Begins: function 80 -/
def spec_l6Begins.f (k : Nat) (a0 : Int) (l1 : List Int) : Option (Bool) := if a0 = 5 then (if (l1.length : Int) = 1 then (if 0 < (l1.length : Int) then (if (rd l1 0) = 164 then (some true) else (some ((rd l1 0) == 165))) else (none)) else (some false)) else (if a0 = 0 then ((spec_l6Utf.f k l1).bind fun t578 => (some t578)) else (some false))
theorem spec_l6Begins.mono : ∀ a0 a1 k, LeO (spec_l6Begins.f k a0 a1) (spec_l6Begins.f (k + 1) a0 a1) := by
 intro a0 a1 k
 unfold spec_l6Begins.f
 repeat' first
   | (with_reducible exact spec_l6Utf.mono _ _)
   | (with_reducible exact LeO.refl _)
   | (with_reducible exact LeO.none _)
   | (with_reducible refine LeO.ite ?_ ?_)
   | (with_reducible refine LeO.bind ?_ (fun _ => ?_))
   | exact spec_l6Utf.mono _ _
   | exact LeO.none _
   | refine LeO.ite ?_ ?_
   | refine LeO.bind ?_ (fun _ => ?_)
set_option maxHeartbeats 8000000 in
set_option maxRecDepth 100000 in
theorem spec_l6Begins.calls (k : Nat) (a0 : Int) (A1 : Option Addr) (c1 : Nat) (l1 : List Int) (r : Bool) (w : World) (hr1 : Kd.C (Kd.int .u8) w A1 l1.length l1) (hc1 : l1.length ≤ c1) (h : spec_l6Begins.f k a0 l1 = some r) :
  Calls Tryd.prog 80 #[.int .i64 a0, .slice A1 l1.length c1] w fun e w' => e = .returned (.bool r) ∧ Below w.heap.size w w' := by
 have HR1 := Aside0.mk hr1
 have HC1 := Aside0.mk hc1
 clear hr1 hc1
 have HB := Aside0.mk (Below.refl w.heap.size w)
 have H : (if a0 = 5 then (if (l1.length : Int) = 1 then (if 0 < (l1.length : Int) then (if (rd l1 0) = 164 then (some true) else (some ((rd l1 0) == 165))) else (none)) else (some false)) else (if a0 = 0 then ((spec_l6Utf.f k l1).bind fun t578 => (some t578)) else (some false))) = some r := h
 clear h
 by_cases c3 : a0 = 5
 ·rw [if_pos c3] at H
  have c3b0 : (a0 == 5) = true := beq_iff_eq.mpr c3
  have c3b1 : (a0 != 5) = false := bne_eq_false_iff_eq.mpr c3
  clear c3
  by_cases c4 : (l1.length : Int) = 1
  ·rw [if_pos c4] at H
   have c4b0 : ((l1.length : Int) == 1) = true := beq_iff_eq.mpr c4
   have c4b1 : ((l1.length : Int) != 1) = false := bne_eq_false_iff_eq.mpr c4
   clear c4
   by_cases c5 : 0 < (l1.length : Int)
   ·rw [if_pos c5] at H
    have c5b0 : decide (0 < (l1.length : Int)) = true := decide_eq_true c5
    have c5b1 : decide (0 < l1.length) = true := decide_eq_true (by omega)
    clear c5
    by_cases c6 : (rd l1 0) = 164
    ·rw [if_pos c6] at H
     have c6b0 : ((rd l1 0) == 164) = true := beq_iff_eq.mpr c6
     have c6b1 : ((rd l1 0) != 164) = false := bne_eq_false_iff_eq.mpr c6
     clear c6
     obtain rfl := Option.some.inj H
     have p576 : 0 ≤ (0 : Int) := (by omega)
     have q576 : 0 < (l1.length : Int) := of_decide_eq_true as_
     obtain ⟨ad576, e576, hx576_0⟩ := Kd.at_int HR1.out 0 p576 q576
     cases e576
     have qi576 : (0 < l1.length) = True := eq_true (by omega)
     (try rw [show ((0 : Int)).toNat = 0 from rfl] at hx576_0)
     (try rw [Addr.add_zero'] at hx576_0)
     replace p576 := eq_true p576
     replace q576 := eq_true q576
     go_enter Tryd.func80, Tryd.ntmps80
     go_wp2
     go_ret
     exact ⟨rf_, hb_⟩
    ·rw [if_neg c6] at H
     have c6b0 : ((rd l1 0) == 164) = false := beq_eq_false_iff_ne.mpr c6
     have c6b1 : ((rd l1 0) != 164) = true := bne_iff_ne.mpr c6
     obtain rfl := Option.some.inj H
     have p576 : 0 ≤ (0 : Int) := (by omega)
     have q576 : 0 < (l1.length : Int) := of_decide_eq_true as_
     obtain ⟨ad576, e576, hx576_0⟩ := Kd.at_int HR1.out 0 p576 q576
     cases e576
     have qi576 : (0 < l1.length) = True := eq_true (by omega)
     (try rw [show ((0 : Int)).toNat = 0 from rfl] at hx576_0)
     (try rw [Addr.add_zero'] at hx576_0)
     replace p576 := eq_true p576
     replace q576 := eq_true q576
     have p577 : 0 ≤ (0 : Int) := (by omega)
     have q577 : 0 < (l1.length : Int) := of_decide_eq_true as_
     obtain ⟨ad577, e577, hx577_0⟩ := Kd.at_int HR1.out 0 p577 q577
     obtain rfl : ad576 = ad577 := (by injection e577)
     have qi577 : (0 < l1.length) = True := eq_true (by omega)
     (try rw [show ((0 : Int)).toNat = 0 from rfl] at hx577_0)
     (try rw [Addr.add_zero'] at hx577_0)
     replace p577 := eq_true p577
     replace q577 := eq_true q577
     go_enter Tryd.func80, Tryd.ntmps80
     go_wp2
     go_ret
     exact ⟨rf_, hb_⟩
   ·rw [if_neg c5] at H
    exact absurd H (by simp)
  ·rw [if_neg c4] at H
   have c4b0 : ((l1.length : Int) == 1) = false := beq_eq_false_iff_ne.mpr c4
   have c4b1 : ((l1.length : Int) != 1) = true := bne_iff_ne.mpr c4
   obtain rfl := Option.some.inj H
   go_enter Tryd.func80, Tryd.ntmps80
   go_wp2
   go_ret
   exact ⟨rf_, hb_⟩
 ·rw [if_neg c3] at H
  have c3b0 : (a0 == 5) = false := beq_eq_false_iff_ne.mpr c3
  have c3b1 : (a0 != 5) = true := bne_iff_ne.mpr c3
  by_cases c7 : a0 = 0
  ·rw [if_pos c7] at H
   have c7b0 : (a0 == 0) = true := beq_iff_eq.mpr c7
   have c7b1 : (a0 != 0) = false := bne_eq_false_iff_eq.mpr c7
   clear c7
   replace H := Option.bind_eq_some_iff.mp H
   obtain ⟨t578, A80, H⟩ := H
   try dsimp only at H
   have A8 := Aside0.mk A80
   clear A80
   obtain rfl := Option.some.inj H
   go_enter Tryd.func80, Tryd.ntmps80
   go_wp2_with (first | ((with_reducible refine gate_callee (f := 106) rfl ?_); refine goesL_ (some 26) rfl rfl Tryd.func106 (by kernel_rfl) rfl #[.slice A1 l1.length c1] rfl ka_ ?_; (with_reducible refine (spec_l6Utf.calls k _ _ l1 t578 _ ?side1 ?side2 A8.out).mono ?_); (case side1 => repeat (first | exact HR1.out | (with_reducible refine Kd.C_alloc ?_ _) | (with_reducible refine Kd.C_drewN ?_ _) | (with_reducible refine Kd.C_drew ?_))); (case side2 => exact HC1.out); rintro e w9 ⟨rfl, hb⟩; refine ⟨_, rfl, ?_⟩; have n0_ := Aside0.mk (below_step hb_ hb); clear HB; have HB := n0_; clear n0_; try clear hb))
   go_ret
   exact ⟨rf_, hb_⟩
  ·rw [if_neg c7] at H
   have c7b0 : (a0 == 0) = false := beq_eq_false_iff_ne.mpr c7
   have c7b1 : (a0 != 0) = true := bne_iff_ne.mpr c7
   obtain rfl := Option.some.inj H
   go_enter Tryd.func80, Tryd.ntmps80
   go_wp2
   go_ret
   exact ⟨rf_, hb_⟩

end Go.Proofs.YtpmimhbnmjffpaaDoor.QFnStreams
