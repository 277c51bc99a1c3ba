/- The functions that a law reaches, each as a plain function, and that Go comes to just its answer: written by the session's program pp.py (the kit's print, with a few rows turned). -/
import Derived.Test.YtpmimhbnmjffpaaDoorQFnExactFeedx0
import Derived.Test.YtpmimhbnmjffpaaDoorQFnExactFeedx1
import Derived.Test.YtpmimhbnmjffpaaDoorQFnExactFeedx2
namespace Go.Proofs.YtpmimhbnmjffpaaDoor.QFnExactFeed
open Go.RowKit Go.Proofs.YtpmimhbnmjffpaaDoorW.PrintWords Go.Proofs.YtpmimhbnmjffpaaDoorW.PrintLast Go.Proofs.YtpmimhbnmjffpaaDoorW.PrintMore Go.Proofs.YtpmimhbnmjffpaaDoor.Xw Go.Proofs.YtpmimhbnmjffpaaDoor.Xs Go.Proofs.YtpmimhbnmjffpaaDoor.Ext
attribute [local go_sem] max2_int min2_int max_two min_two max_three min_three max_four min_four   -- for this text's walks alone
set_option linter.unusedVariables false
set_option linter.unusedSimpArgs false

/-! ### spec_l6Utf: function 106 -/
def spec_l6Utf.l0 : Nat → List Int → Int → List Int → List Int → Option (Bool)
 | 0, _, _, _, _ => none
 | k + 1, x0, x3, x4, x5 => if (x4.length : Int) < x3 then (if x4.length < 140737488355328 then (if x5.length < 140737488355328 then (spec_l6Utf.l0 k x0 x3 (x4 ++ [128]) (x5 ++ [191])) else (none)) else (none)) else (if (x0.length : Int) = 1 then (if 0 < (x0.length : Int) then (if (rd x0 0) = 224 then (if 1 < (x4.length : Int) then ((spec_GetSign.f k (x4.set (1 : Int).toNat 160) 0).bind fun bt181 => ((spec_GetSign.f k x5 0).bind fun bt184 => (if bt181.2.2 = true then (some bt184.2.2) else (some false)))) else (none)) else (if (rd x0 0) = 237 then (if 1 < (x5.length : Int) then ((spec_GetSign.f k x4 0).bind fun bt188 => ((spec_GetSign.f k (x5.set (1 : Int).toNat 159) 0).bind fun bt191 => (if bt188.2.2 = true then (some bt191.2.2) else (some false)))) else (none)) else (if (rd x0 0) = 240 then (if 1 < (x4.length : Int) then ((spec_GetSign.f k (x4.set (1 : Int).toNat 144) 0).bind fun bt195 => ((spec_GetSign.f k x5 0).bind fun bt198 => (if bt195.2.2 = true then (some bt198.2.2) else (some false)))) else (none)) else (if (rd x0 0) = 244 then (if 1 < (x5.length : Int) then ((spec_GetSign.f k x4 0).bind fun bt202 => ((spec_GetSign.f k (x5.set (1 : Int).toNat 143) 0).bind fun bt205 => (if bt202.2.2 = true then (some bt205.2.2) else (some false)))) else (none)) else ((spec_GetSign.f k x4 0).bind fun bt208 => ((spec_GetSign.f k x5 0).bind fun bt211 => (if bt208.2.2 = true then (some bt211.2.2) else (some false)))))))) else (none)) else ((spec_GetSign.f k x4 0).bind fun bt214 => ((spec_GetSign.f k x5 0).bind fun bt217 => (if bt214.2.2 = true then (some bt217.2.2) else (some false)))))
def spec_l6Utf.f (k : Nat) (l0 : List Int) : Option (Bool) := if (l0.length : Int) = 0 then (some false) else (if 0 < (l0.length : Int) then ((spec_l2Len.f (rd l0 0)).bind fun t160 => (if t160 ≤ (l0.length : Int) then (some false) else ((some (([] : List Int) : List Int)).bind fun y161 => (if y161.length + l0.length < 140737488355328 then ((some (([] : List Int) : List Int)).bind fun y167 => (if y167.length + l0.length < 140737488355328 then (spec_l6Utf.l0 k l0 t160 (y161 ++ l0) (y167 ++ l0)) else (none))) else (none))))) else (none))
theorem spec_l6Utf.mono_l : ∀ k, (∀ y0 y1 y2 y3, LeO (spec_l6Utf.l0 k y0 y1 y2 y3) (spec_l6Utf.l0 (k + 1) y0 y1 y2 y3))
 | 0 => fun _ _ _ _ r h => by simp [spec_l6Utf.l0] at h
 | k + 1 => by
  have ih0 := spec_l6Utf.mono_l k
  ·intro y0 y1 y2 y3
   unfold spec_l6Utf.l0
   repeat' first
   | (with_reducible exact ih0 _ _ _ _)
   | (with_reducible exact spec_GetSign.mono _ _ _)
   | (with_reducible exact LeO.refl _)
   | (with_reducible exact LeO.none _)
   | (with_reducible refine LeO.ite ?_ ?_)
   | (with_reducible refine LeO.bind ?_ (fun _ => ?_))
   | exact ih0 _ _ _ _
   | exact spec_GetSign.mono _ _ _
   | exact LeO.none _
   | refine LeO.ite ?_ ?_
   | refine LeO.bind ?_ (fun _ => ?_)
theorem spec_l6Utf.mono : ∀ a0 k, LeO (spec_l6Utf.f k a0) (spec_l6Utf.f (k + 1) a0) := by
 intro a0 k
 have ih0 := spec_l6Utf.mono_l k
 unfold spec_l6Utf.f
 repeat' first
   | (with_reducible exact ih0 _ _ _ _)
   | (with_reducible exact spec_GetSign.mono _ _ _)
   | (with_reducible exact LeO.refl _)
   | (with_reducible exact LeO.none _)
   | (with_reducible refine LeO.ite ?_ ?_)
   | (with_reducible refine LeO.bind ?_ (fun _ => ?_))
   | exact ih0 _ _ _ _
   | exact spec_GetSign.mono _ _ _
   | exact LeO.none _
   | refine LeO.ite ?_ ?_
   | refine LeO.bind ?_ (fun _ => ?_)
set_option maxHeartbeats 8000000 in
set_option maxRecDepth 100000 in
theorem spec_l6Utf.calls (k : Nat) (A0 : Option Addr) (c0 : Nat) (l0 : List Int) (r : Bool) (w : World) (hr0 : Kd.C (Kd.int .u8) w A0 l0.length l0) (hc0 : l0.length ≤ c0) (h : spec_l6Utf.f k l0 = some r) :
  Calls Tryd.prog 106 #[.slice A0 l0.length c0] w fun e w' => e = .returned (.bool r) ∧ Below w.heap.size w w' := by
 have HR0 := Aside0.mk hr0
 have HC0 := Aside0.mk hc0
 clear hr0 hc0
 have HB := Aside0.mk (Below.refl w.heap.size w)
 have H : (if (l0.length : Int) = 0 then (some false) else (if 0 < (l0.length : Int) then ((spec_l2Len.f (rd l0 0)).bind fun t160 => (if t160 ≤ (l0.length : Int) then (some false) else ((some (([] : List Int) : List Int)).bind fun y161 => (if y161.length + l0.length < 140737488355328 then ((some (([] : List Int) : List Int)).bind fun y167 => (if y167.length + l0.length < 140737488355328 then (spec_l6Utf.l0 k l0 t160 (y161 ++ l0) (y167 ++ l0)) else (none))) else (none))))) else (none))) = some r := h
 clear h
 by_cases c2 : (l0.length : Int) = 0
 ·rw [if_pos c2] at H
  have c2b0 : ((l0.length : Int) == 0) = true := beq_iff_eq.mpr c2
  have c2b1 : ((l0.length : Int) != 0) = false := bne_eq_false_iff_eq.mpr c2
  clear c2
  obtain rfl := Option.some.inj H
  go_enter Tryd.func106, Tryd.ntmps106
  go_wp2
  go_ret
  exact ⟨rf_, hb_⟩
 ·rw [if_neg c2] at H
  have c2b0 : ((l0.length : Int) == 0) = false := beq_eq_false_iff_ne.mpr c2
  have c2b1 : ((l0.length : Int) != 0) = true := bne_iff_ne.mpr c2
  have c2b2 : ¬ (l0 = []) := fun h_ => c2 (by rw [h_]; rfl)
  by_cases c3 : 0 < (l0.length : Int)
  ·rw [if_pos c3] at H
   have c3b0 : decide (0 < (l0.length : Int)) = true := decide_eq_true c3
   have c3b1 : decide (0 < l0.length) = true := decide_eq_true (by omega)
   clear c3
   replace H := Option.bind_eq_some_iff.mp H
   obtain ⟨t160, A40, H⟩ := H
   try dsimp only at H
   have A4 := Aside0.mk A40
   clear A40
   by_cases c5 : t160 ≤ (l0.length : Int)
   ·rw [if_pos c5] at H
    have c5b0 : decide (t160 ≤ (l0.length : Int)) = true := decide_eq_true c5
    clear c5
    obtain rfl := Option.some.inj H
    have p159 : 0 ≤ (0 : Int) := (by omega)
    have q159 : 0 < (l0.length : Int) := of_decide_eq_true as_
    obtain ⟨ad159, e159, hx159_0⟩ := Kd.at_int HR0.out 0 p159 q159
    cases e159
    have qi159 : (0 < l0.length) = True := eq_true (by omega)
    (try rw [show ((0 : Int)).toNat = 0 from rfl] at hx159_0)
    (try rw [Addr.add_zero'] at hx159_0)
    replace p159 := eq_true p159
    replace q159 := eq_true q159
    go_enter Tryd.func106, Tryd.ntmps106
    go_wp2_with (first | ((with_reducible refine gate_callee (f := 120) rfl ?_); refine goesL_ (some 18) rfl rfl Tryd.func120 (by kernel_rfl) rfl #[.int .u8 (rd l0 0)] rfl ka_ ?_; (with_reducible refine (spec_l2Len.calls (rd l0 0) t160 _ A4.out).mono ?_); rintro e w' ⟨rfl, ⟨nd, rfl⟩⟩; refine ⟨_, rfl, ?_⟩))
    go_ret
    exact ⟨rf_, hb_⟩
   ·rw [if_neg c5] at H
    have c5b0 : decide (t160 ≤ (l0.length : Int)) = false := decide_eq_false c5
    clear c5
    obtain ⟨y161, hy161⟩ : ∃ y_ : List Int, y_ = (([] : List Int)) := ⟨_, rfl⟩
    replace H : (if y161.length + l0.length < 140737488355328 then ((some (([] : List Int) : List Int)).bind fun y167 => (if y167.length + l0.length < 140737488355328 then (spec_l6Utf.l0 k l0 t160 (y161 ++ l0) (y167 ++ l0)) else (none))) else (none)) = some r := by first | (rw [hy161]; with_reducible exact H) | (have H2_ := (Option.bind_some _ _).symm.trans H; rw [hy161]; with_reducible exact H2_) | (have H2_ := (Option.bind_some _ _).symm.trans H; with_reducible exact H2_) | with_reducible exact H | (rw [hy161]; exact H) | exact H
    have Ny161 := Aside0.mk hy161
    clear hy161
    by_cases c6 : y161.length + l0.length < 140737488355328
    ·rw [if_pos c6] at H
     have LMc6 := Aside0.mk c6
     clear c6
     obtain ⟨y164, hy164⟩ : ∃ y_ : List Int, y_ = (y161 ++ l0) := ⟨_, rfl⟩
     replace H : ((some (([] : List Int) : List Int)).bind fun y167 => (if y167.length + l0.length < 140737488355328 then (spec_l6Utf.l0 k l0 t160 y164 (y167 ++ l0)) else (none))) = some r := by first | (rw [hy164]; with_reducible exact H) | (have H2_ := (Option.bind_some _ _).symm.trans H; rw [hy164]; with_reducible exact H2_) | (have H2_ := (Option.bind_some _ _).symm.trans H; with_reducible exact H2_) | with_reducible exact H | (rw [hy164]; exact H) | exact H
     have Ny164 := Aside0.mk hy164
     clear hy164
     obtain ⟨y167, hy167⟩ : ∃ y_ : List Int, y_ = (([] : List Int)) := ⟨_, rfl⟩
     replace H : (if y167.length + l0.length < 140737488355328 then (spec_l6Utf.l0 k l0 t160 y164 (y167 ++ l0)) else (none)) = some r := by first | (rw [hy167]; with_reducible exact H) | (have H2_ := (Option.bind_some _ _).symm.trans H; rw [hy167]; with_reducible exact H2_) | (have H2_ := (Option.bind_some _ _).symm.trans H; with_reducible exact H2_) | with_reducible exact H | (rw [hy167]; exact H) | exact H
     have Ny167 := Aside0.mk hy167
     clear hy167
     by_cases c7 : y167.length + l0.length < 140737488355328
     ·rw [if_pos c7] at H
      have LMc7 := Aside0.mk c7
      clear c7
      obtain ⟨y170, hy170⟩ : ∃ y_ : List Int, y_ = (y167 ++ l0) := ⟨_, rfl⟩
      replace H : (spec_l6Utf.l0 k l0 t160 y164 y170) = some r := by first | (rw [hy170]; with_reducible exact H) | (have H2_ := (Option.bind_some _ _).symm.trans H; rw [hy170]; with_reducible exact H2_) | (have H2_ := (Option.bind_some _ _).symm.trans H; with_reducible exact H2_) | with_reducible exact H | (rw [hy170]; exact H) | exact H
      have Ny170 := Aside0.mk hy170
      clear hy170
      have H' := Aside0.mk H
      clear H
      have p159 : 0 ≤ (0 : Int) := (by omega)
      have q159 : 0 < (l0.length : Int) := of_decide_eq_true as_
      obtain ⟨ad159, e159, hx159_0⟩ := Kd.at_int HR0.out 0 p159 q159
      cases e159
      have qi159 : (0 < l0.length) = True := eq_true (by omega)
      (try rw [show ((0 : Int)).toNat = 0 from rfl] at hx159_0)
      (try rw [Addr.add_zero'] at hx159_0)
      replace p159 := eq_true p159
      replace q159 := eq_true q159
      go_enter Tryd.func106, Tryd.ntmps106
      go_wp2_with (first | ((with_reducible refine gate_callee (f := 120) rfl ?_); refine goesL_ (some 18) rfl rfl Tryd.func120 (by kernel_rfl) rfl #[.int .u8 (rd l0 0)] rfl ka_ ?_; (with_reducible refine (spec_l2Len.calls (rd l0 0) t160 _ A4.out).mono ?_); rintro e w' ⟨rfl, ⟨nd, rfl⟩⟩; refine ⟨_, rfl, ?_⟩) | ((with_reducible refine gate_dst (N := 23) rfl ?_); refine Kd.R_lit (Kd.int .u8) _ 5 ?hg (N := 23) ?hd (xs := ([] : List Int)) (inner := []) (ok := fun _ => True) (okp := fun _ => True) ?hr ?hp (fun _ hk => hk) trivial (Below.refl _ _) (Nat.le_refl _) (by simp) ?_; (case hd => rfl); (case hg => rfl); (case hr => first | (go_simp; done) | (go_simp; rfl)); (case hp => exact (Reps.none _ _)); intro v162 w8 ho9 hb hg_ hnew_; clear hg_ hnew_; (first | rw [← Ny161.out] at ho9 | (simp only [Int.reduceToNat] at ho9; rw [← Ny161.out] at ho9)); have n0_ := Aside0.mk (Kd.R_lower ho9 (below_size hb_)); have n1_ := Aside0.mk (below_step hb_ hb); clear HB; have HO163 := n0_; have HB := n1_; clear n0_ n1_; clear hb ho9) | ((with_reducible refine gate_builtin (b := .append) (xs := #[.tmp 23, .tmp 24]) rfl ?_); at_builtin; refine Kd.R_append_rows (Kd.int .u8) (w0 := w) w.heap.size rfl (.tmp 23) (.tmp 24) 23 5 (.int .u8 0) 1 rfl Tryd.underlying23 info5 rfl (by decide) (by omega) v162 y161 l0 _ _ _ (fun _ => True) (fun _ => False) rfl rfl ?aO ?aR (fun _ _ h => h) (fun _ h => h.elim) ?aF ?aB ?aS ?aL ?_; (case aR => repeat (first | exact (Kd.C_below HR0.out HB.out) | (with_reducible refine Kd.C_alloc ?_ _) | (with_reducible refine Kd.C_drewN ?_ _) | (with_reducible refine Kd.C_drew ?_))); (case aB => exact hb_); (case aF => exact (fun _ _ => trivial)); (case aO => exact (kr_ HO163)); (case aS => exact (below_size hb_)); (case aL => have := LMc6.out; omega); intro v165 w10 ho hb hg hat; rw [← Ny164.out] at ho; have n0_ := Aside0.mk (hb); have n1_ := Aside0.mk (ho); clear HB; clear HO163; have HB := n0_; have HO166 := n1_; clear n0_ n1_; clear ho hb hg hat) | ((with_reducible refine gate_dst (N := 26) rfl ?_); refine Kd.R_lit (Kd.int .u8) _ 5 ?hg (N := 26) ?hd (xs := ([] : List Int)) (inner := []) (ok := fun _ => True) (okp := fun _ => True) ?hr ?hp (fun _ hk => hk) trivial (Below.refl _ _) (Nat.le_refl _) (by simp) ?_; (case hd => rfl); (case hg => rfl); (case hr => first | (go_simp; done) | (go_simp; rfl)); (case hp => exact (Reps.none _ _)); intro v168 w11 ho12 hb hg_ hnew_; clear hg_ hnew_; (first | rw [← Ny167.out] at ho12 | (simp only [Int.reduceToNat] at ho12; rw [← Ny167.out] at ho12)); have n0_ := Aside0.mk (Kd.R_elder' (kr_ HO166) (Kd.R_base ho12) hb); have n1_ := Aside0.mk (Kd.R_lower (Kd.R_new' ho12 (Kd.R_lt (kr_ HO166))) (below_size hb_)); have n2_ := Aside0.mk (below_step hb_ hb); clear HO166; clear HB; have HO166 := n0_; have HO169 := n1_; have HB := n2_; clear n0_ n1_ n2_; clear hb ho12) | ((with_reducible refine gate_builtin (b := .append) (xs := #[.tmp 26, .tmp 27]) rfl ?_); at_builtin; refine Kd.R_append_rows (Kd.int .u8) (w0 := w) w.heap.size rfl (.tmp 26) (.tmp 27) 23 5 (.int .u8 0) 1 rfl Tryd.underlying23 info5 rfl (by decide) (by omega) v168 y167 l0 _ _ _ (fun k_ => some k_ ≠ (v165 : Value).ownBlock) (fun _ => False) rfl rfl ?aO ?aR (fun _ _ h => h) (fun _ h => h.elim) ?aF ?aB ?aS ?aL ?_; (case aR => repeat (first | exact (Kd.C_below HR0.out HB.out) | (with_reducible refine Kd.C_alloc ?_ _) | (with_reducible refine Kd.C_drewN ?_ _) | (with_reducible refine Kd.C_drew ?_))); (case aB => exact hb_); (case aF => exact (fun k_ hk => Kd.fresh' (Kd.R_lt (kr_ HO166)) k_ hk)); (case aO => exact (by (with_reducible repeat (first | apply Kd.R_alloc | apply Kd.R_drewN | apply Kd.R_drew)); exact Kd.R_mono HO169.out (fun _ hk => hk.2))); (case aS => exact (below_size hb_)); (case aL => have := LMc7.out; omega); intro v171 w13 ho hb hg hat; rw [← Ny170.out] at ho; have n0_ := Aside0.mk (Kd.R_after (ok := (fun _ => True)) (kr_ HO166) hg hat); have n1_ := Aside0.mk (hb); have n2_ := Aside0.mk (ho); clear HO166; clear HB; clear HO169; have HO166 := n0_; have HB := n1_; have HO172 := n2_; clear n0_ n1_ n2_; clear ho hb hg hat))
      go_loopg [4, 5] k (fun kq v4 v5 w' => ∃ (x4_1 : List Int) (x5_1 : List Int), Aside0 (spec_l6Utf.l0 kq l0 t160 x4_1 x5_1 = some r) ∧ Aside0 (kq ≤ k) ∧ Aside0 (Kd.R (Kd.int .u8) 5 w' w.heap.size (fun k_ => some k_ ≠ (v5 : Value).ownBlock) v4 x4_1) ∧ Aside0 (Kd.R (Kd.int .u8) 5 w' w.heap.size (fun k_ => some k_ ≠ (v4 : Value).ownBlock) v5 x5_1) ∧ Aside0 (Below w.heap.size w w'))
      case atStart => exact ⟨(y164), (y170), H', ⟨Nat.le_refl _⟩, ⟨by (with_reducible repeat (first | apply Kd.R_alloc | apply Kd.R_drewN | apply Kd.R_drew)); exact Kd.R_mono HO166.out (fun _ hk => hk.2)⟩, ⟨by (with_reducible repeat (first | apply Kd.R_alloc | apply Kd.R_drewN | apply Kd.R_drew)); exact HO172.out⟩, ⟨by repeat (first | (with_reducible first | exact HB.out | apply below_alloc | apply pw_below_drewN | apply below_drew1) | exact HB.out)⟩⟩
      case round =>
       clear H'
       try clear c1
       try clear p1
       try clear q1
       try clear hx1
       try clear qi1
       try clear c2
       try clear c2b0
       try clear c2b1
       try clear c2b2
       try clear p2
       try clear c3
       try clear c3b0
       try clear c3b1
       try clear c5
       try clear c5b0
       try clear c6
       try clear c7
       try clear c10
       try clear c12
       try clear hx159_0
       try clear p159
       try clear q159
       obtain ⟨x4_1, x5_1, HA, HK1, HO_4, HO_5, HB⟩ := hrel
       cases gk with
       | zero => exact absurd HA.out (by simp [spec_l6Utf.l0])
       | succ k1 =>
        have H := HA.out
        clear HA
        simp only [spec_l6Utf.l0] at H
        by_cases c14 : (x4_1.length : Int) < t160
        ·rw [if_pos c14] at H
         have c14b0 : decide ((x4_1.length : Int) < t160) = true := decide_eq_true c14
         clear c14
         by_cases c15 : x4_1.length < 140737488355328
         ·rw [if_pos c15] at H
          have LMc15 := Aside0.mk c15
          clear c15
          obtain ⟨y173, hy173⟩ : ∃ y_ : List Int, y_ = (x4_1 ++ [128]) := ⟨_, rfl⟩
          replace H : (if x5_1.length < 140737488355328 then (spec_l6Utf.l0 k1 l0 t160 y173 (x5_1 ++ [191])) else (none)) = some r := by first | (rw [hy173]; with_reducible exact H) | (have H2_ := (Option.bind_some _ _).symm.trans H; rw [hy173]; with_reducible exact H2_) | (have H2_ := (Option.bind_some _ _).symm.trans H; with_reducible exact H2_) | with_reducible exact H | (rw [hy173]; exact H) | exact H
          have Ny173 := Aside0.mk hy173
          clear hy173
          by_cases c16 : x5_1.length < 140737488355328
          ·rw [if_pos c16] at H
           have LMc16 := Aside0.mk c16
           clear c16
           obtain ⟨y176, hy176⟩ : ∃ y_ : List Int, y_ = (x5_1 ++ [191]) := ⟨_, rfl⟩
           replace H : (spec_l6Utf.l0 k1 l0 t160 y173 y176) = some r := by first | (rw [hy176]; with_reducible exact H) | (have H2_ := (Option.bind_some _ _).symm.trans H; rw [hy176]; with_reducible exact H2_) | (have H2_ := (Option.bind_some _ _).symm.trans H; with_reducible exact H2_) | with_reducible exact H | (rw [hy176]; exact H) | exact H
           have Ny176 := Aside0.mk hy176
           clear hy176
           have H' := Aside0.mk H
           clear H
           obtain ⟨Ao17, co17, eo17⟩ := Kd.R_slice HO_4.out
           subst eo17
           go_wp2_with (first | ((with_reducible refine gate_builtin (b := .append) (xs := #[.tmp 33, .tmp 34]) rfl ?_); at_builtin; refine Kd.R_append (Kd.int .u8) (w0 := w) w.heap.size rfl (.tmp 33) (.tmp 34) 23 5 (.int .u8 0) 1 rfl Tryd.underlying23 info5 rfl (by decide) (by omega) (.slice Ao17 x4_1.length co17) x4_1 128 [.int .u8 128] (fun k_ => some k_ ≠ (u5 : Value).ownBlock) (fun _ => False) rfl rfl ?aP (fun _ hk => hk.elim) ?aF ?aO ?aB ?aS ?aL ?_; (case aP => exact rfl); (case aB => exact hb_); (case aF => exact (fun k_ hk => Kd.fresh' (Kd.R_lt (kr_ HO_5)) k_ hk)); (case aO => exact (kr_ HO_4)); (case aS => exact (below_size hb_)); (case aL => have := LMc15.out; omega); intro v174 w18 ho hb hg hat; rw [← Ny173.out] at ho; have n0_ := Aside0.mk (Kd.R_after (ok := (fun _ => True)) (by (with_reducible repeat (first | apply Kd.R_alloc | apply Kd.R_drewN | apply Kd.R_drew)); exact Kd.R_mono HO_5.out (fun _ hk => ⟨trivial, hk⟩)) hg hat); have n1_ := Aside0.mk (hb); have n2_ := Aside0.mk (ho); clear HO_5; clear HB; clear HO_4; have HO_5 := n0_; have HB := n1_; have HO175 := n2_; clear n0_ n1_ n2_; clear ho hb hg hat) | ((with_reducible refine gate_builtin (b := .append) (xs := #[.tmp 36, .tmp 37]) rfl ?_); at_builtin; refine Kd.R_append (Kd.int .u8) (w0 := w) w.heap.size rfl (.tmp 36) (.tmp 37) 23 5 (.int .u8 0) 1 rfl Tryd.underlying23 info5 rfl (by decide) (by omega) u5 x5_1 191 [.int .u8 191] (fun k_ => some k_ ≠ (v174 : Value).ownBlock) (fun _ => False) rfl rfl ?aP (fun _ hk => hk.elim) ?aF ?aO ?aB ?aS ?aL ?_; (case aP => exact rfl); (case aB => exact hb_); (case aF => exact (fun k_ hk => Kd.fresh' (Kd.R_lt (kr_ HO175)) k_ hk)); (case aO => exact (by (with_reducible repeat (first | apply Kd.R_alloc | apply Kd.R_drewN | apply Kd.R_drew)); exact Kd.R_mono HO_5.out (fun _ hk => hk.2))); (case aS => exact (below_size hb_)); (case aL => have := LMc16.out; omega); intro v177 w19 ho hb hg hat; rw [← Ny176.out] at ho; have n0_ := Aside0.mk (Kd.R_after (ok := (fun _ => True)) (by (with_reducible repeat (first | apply Kd.R_alloc | apply Kd.R_drewN | apply Kd.R_drew)); exact Kd.R_mono HO175.out (fun _ hk => ⟨trivial, hk⟩)) hg hat); have n1_ := Aside0.mk (hb); have n2_ := Aside0.mk (ho); clear HO175; clear HB; clear HO_5; have HO175 := n0_; have HB := n1_; have HO178 := n2_; clear n0_ n1_ n2_; clear ho hb hg hat))
           go_roundg k1
           case measure => have := HK1.out; omega
           case rel => exact ⟨(y173), (y176), H', ⟨by have := HK1.out; omega⟩, ⟨by (with_reducible repeat (first | apply Kd.R_alloc | apply Kd.R_drewN | apply Kd.R_drew)); exact Kd.R_mono HO175.out (fun _ hk => hk.2)⟩, ⟨by (with_reducible repeat (first | apply Kd.R_alloc | apply Kd.R_drewN | apply Kd.R_drew)); exact HO178.out⟩, ⟨by repeat (first | (with_reducible first | exact HB.out | apply below_alloc | apply pw_below_drewN | apply below_drew1) | exact HB.out)⟩⟩
          ·rw [if_neg c16] at H
           exact absurd H (by simp)
         ·rw [if_neg c15] at H
          exact absurd H (by simp)
        ·rw [if_neg c14] at H
         have c14b0 : decide ((x4_1.length : Int) < t160) = false := decide_eq_false c14
         clear c14
         by_cases c20 : (l0.length : Int) = 1
         ·rw [if_pos c20] at H
          have c20b0 : ((l0.length : Int) == 1) = true := beq_iff_eq.mpr c20
          have c20b1 : ((l0.length : Int) != 1) = false := bne_eq_false_iff_eq.mpr c20
          clear c20
          by_cases c21 : 0 < (l0.length : Int)
          ·rw [if_pos c21] at H
           have c21b0 : decide (0 < (l0.length : Int)) = true := decide_eq_true c21
           have c21b1 : decide (0 < l0.length) = true := decide_eq_true (by omega)
           clear c21
           by_cases c22 : (rd l0 0) = 224
           ·rw [if_pos c22] at H
            have c22b0 : ((rd l0 0) == 224) = true := beq_iff_eq.mpr c22
            have c22b1 : ((rd l0 0) != 224) = false := bne_eq_false_iff_eq.mpr c22
            clear c22
            by_cases c23 : 1 < (x4_1.length : Int)
            ·rw [if_pos c23] at H
             have c23b0 : decide (1 < (x4_1.length : Int)) = true := decide_eq_true c23
             have c23b1 : decide (1 < x4_1.length) = true := decide_eq_true (by omega)
             clear c23
             obtain ⟨y180, hy180⟩ : ∃ y_ : List Int, y_ = (x4_1.set (1 : Int).toNat 160) := ⟨_, rfl⟩
             replace H : ((spec_GetSign.f k1 y180 0).bind fun bt181 => ((spec_GetSign.f k1 x5_1 0).bind fun bt184 => (if bt181.2.2 = true then (some bt184.2.2) else (some false)))) = some r := by first | (rw [hy180]; with_reducible exact H) | (have H2_ := (Option.bind_some _ _).symm.trans H; rw [hy180]; with_reducible exact H2_) | (have H2_ := (Option.bind_some _ _).symm.trans H; with_reducible exact H2_) | with_reducible exact H | (rw [hy180]; exact H) | exact H
             have Ny180 := Aside0.mk hy180
             clear hy180
             replace H := Option.bind_eq_some_iff.mp H
             obtain ⟨⟨t181, t182, t183⟩, A250, H⟩ := H
             try dsimp only at H
             have A25 := Aside0.mk A250
             clear A250
             replace H := Option.bind_eq_some_iff.mp H
             obtain ⟨⟨t184, t185, t186⟩, A260, H⟩ := H
             try dsimp only at H
             have A26 := Aside0.mk A260
             clear A260
             by_cases c27 : t183 = true
             ·subst c27
              rw [if_pos rfl] at H
              obtain rfl := Option.some.inj H
              obtain ⟨Ao28, co28, eo28⟩ := Kd.R_slice HO_4.out
              subst eo28
              have p179 : 0 ≤ (0 : Int) := (by omega)
              have q179 : 0 < (l0.length : Int) := of_decide_eq_true as_
              obtain ⟨ad179, e179, hx179_0⟩ := Kd.at_int HR0.out 0 p179 q179
              obtain rfl : ad159 = ad179 := (by injection e179)
              have qi179 : (0 < l0.length) = True := eq_true (by omega)
              (try rw [show ((0 : Int)).toNat = 0 from rfl] at hx179_0)
              (try rw [Addr.add_zero'] at hx179_0)
              replace hx179_0 := (HB.out.cell (World.block_lt_of_cell? w _ hx179_0)).trans hx179_0
              replace p179 := eq_true p179
              replace q179 := eq_true q179
              have p24 : 0 ≤ (1 : Int) := (by omega)
              have q24 : (1 : Int) < ((x4_1.length : Int) : Int) := of_decide_eq_true as_
              have qi24 : (1 < x4_1.length) = True := eq_true (by omega)
              obtain ⟨go24, co24, eo24, gb24, gl24, cl24, HG24⟩ := Kd.R_form HO_4.out (by omega)
              (first | cases eo24 | (injection eo24 with ea_ en_ ec_; (first | subst ea_ | (injection ea_ with ea_; subst ea_)); subst ec_; clear en_))
              have GB24 := Aside0.mk gb24
              have GG24 := Aside0.mk HG24
              clear gb24 gl24 HG24
              obtain ⟨hx24_0, hf24_0⟩ := Kd.R_celln 0 HO_4.out (1 : Int) p24 q24
              (try rw [show ((1 : Int)).toNat = 1 from rfl] at hx24_0)
              (try simp only [Nat.reduceMul, Nat.zero_mul, Nat.zero_add, Nat.reduceAdd] at hx24_0)
              (try rw [show ((1 : Int)).toNat = 1 from rfl] at hf24_0)
              (try simp only [Nat.reduceMul, Nat.zero_mul, Nat.zero_add, Nat.reduceAdd] at hf24_0)
              replace p24 := eq_true p24
              replace q24 := eq_true q24
              have HP29 := Kd.R_putg HO_4.out (1 : Int) 160
              go_wp2_with (first | ((with_reducible refine gate_store (t := 5) (p := 48) rfl ?_); refine store_event (t := 5) (p := 48) (v := ?vo_w30) (w1 := (wr.setCell ⟨go24, (1 : Int).toNat, none⟩ (.int .u8 160))) ?hg ?ho ?hn ?hr ?_; (case ho => rfl); (case hg => rfl); (case hn => rfl); (case hr => first | (go_simp; done) | (go_simp; rfl)); intro w30 hw; have hg : wr.grownBy w30 (some go24) := (by rw [hw]; exact HP29.2); have hp_ : Kd.R (Kd.int .u8) 5 w30 w.heap.size (fun k_ => some k_ ≠ (u5 : Value).ownBlock) (.slice (some ⟨go24, 0, none⟩) x4_1.length co28) y180 := (by rw [hw, Ny180.out]; exact HP29.1); clear HP29; have n0_ := Aside0.mk (hp_); have n1_ := Aside0.mk (Kd.R_after (v := (.slice (some ⟨go24, 0, none⟩) x4_1.length co28)) (v1 := (.slice (some ⟨go24, 0, none⟩) x4_1.length co28)) (ok := (fun _ => True)) (by (with_reducible repeat (first | apply Kd.R_alloc | apply Kd.R_drewN | apply Kd.R_drew)); exact Kd.R_mono HO_5.out (fun _ hk => ⟨trivial, hk⟩)) hg (.inl rfl)); have n2_ := Aside0.mk ((by rw [hw]; exact below_set (HB.out) GB24.out : Below w.heap.size w w30)); clear HO_4; clear HO_5; clear HB; have HO_4 := n0_; have HO_5 := n1_; have HB := n2_; clear n0_ n1_ n2_; clear hg hw hp_) | ((with_reducible refine gate_callee (f := 98) rfl ?_); refine goesL_ (some 63) rfl rfl Tryd.func98 (by kernel_rfl) rfl #[.slice (some ⟨go24, 0, none⟩) y180.length co28, .int .i64 0] rfl (by (try simp only [List.map_toArray, List.map_cons, List.map_nil]); first | done | (rw [show y180.length = x4_1.length from (Kd.R_reads' HO_4.out).1.symm] <;> rfl) | rfl | (simp only [List.length_drop, List.length_take]; rfl)) ?_; (with_reducible refine (spec_GetSign.calls k1 _ _ y180 0 t181 t182 true _ ?side1 ?side2 A25.out).mono ?_); (case side1 => exact kc_ (Kd.R_reads' HO_4.out).2.2); (case side2 => rw [show y180.length = x4_1.length from (Kd.R_reads' HO_4.out).1.symm]; exact (Kd.R_reads' HO_4.out).2.1); rintro e w31 ⟨rfl, hb⟩; refine ⟨_, rfl, ?_⟩; have n0_ := Aside0.mk (Kd.R_below (kr_ HO_4) hb); have n1_ := Aside0.mk (Kd.R_below (kr_ HO_5) hb); have n2_ := Aside0.mk (below_step hb_ hb); clear HO_4; clear HO_5; clear HB; have HO_4 := n0_; have HO_5 := n1_; have HB := n2_; clear n0_ n1_ n2_; try clear hb; obtain ⟨Ao32, co32, eo32⟩ := Kd.R_slice HO_5.out; subst eo32) | ((with_reducible refine gate_callee (f := 98) rfl ?_); refine goesL_ (some 69) rfl rfl Tryd.func98 (by kernel_rfl) rfl #[.slice Ao32 x5_1.length co32, .int .i64 0] rfl ka_ ?_; (with_reducible refine (spec_GetSign.calls k1 _ _ x5_1 0 t184 t185 t186 _ ?side1 ?side2 A26.out).mono ?_); (case side1 => exact kc_ (Kd.R_reads' HO_5.out).2.2); (case side2 => exact (Kd.R_reads' HO_5.out).2.1); rintro e w33 ⟨rfl, hb⟩; refine ⟨_, rfl, ?_⟩; have n0_ := Aside0.mk (Kd.R_below (kr_ HO_4) hb); have n1_ := Aside0.mk (Kd.R_below (kr_ HO_5) hb); have n2_ := Aside0.mk (below_step hb_ hb); clear HO_4; clear HO_5; clear HB; have HO_4 := n0_; have HO_5 := n1_; have HB := n2_; clear n0_ n1_ n2_; try clear hb))
              go_ret
              exact ⟨rf_, hb_⟩
             ·replace c27 := Bool.eq_false_iff.mpr c27
              subst c27
              rw [if_neg (show ¬ (false = true) by decide)] at H
              obtain rfl := Option.some.inj H
              obtain ⟨Ao34, co34, eo34⟩ := Kd.R_slice HO_4.out
              subst eo34
              have p179 : 0 ≤ (0 : Int) := (by omega)
              have q179 : 0 < (l0.length : Int) := of_decide_eq_true as_
              obtain ⟨ad179, e179, hx179_0⟩ := Kd.at_int HR0.out 0 p179 q179
              obtain rfl : ad159 = ad179 := (by injection e179)
              have qi179 : (0 < l0.length) = True := eq_true (by omega)
              (try rw [show ((0 : Int)).toNat = 0 from rfl] at hx179_0)
              (try rw [Addr.add_zero'] at hx179_0)
              replace hx179_0 := (HB.out.cell (World.block_lt_of_cell? w _ hx179_0)).trans hx179_0
              replace p179 := eq_true p179
              replace q179 := eq_true q179
              have p24 : 0 ≤ (1 : Int) := (by omega)
              have q24 : (1 : Int) < ((x4_1.length : Int) : Int) := of_decide_eq_true as_
              have qi24 : (1 < x4_1.length) = True := eq_true (by omega)
              obtain ⟨go24, co24, eo24, gb24, gl24, cl24, HG24⟩ := Kd.R_form HO_4.out (by omega)
              (first | cases eo24 | (injection eo24 with ea_ en_ ec_; (first | subst ea_ | (injection ea_ with ea_; subst ea_)); subst ec_; clear en_))
              have GB24 := Aside0.mk gb24
              have GG24 := Aside0.mk HG24
              clear gb24 gl24 HG24
              obtain ⟨hx24_0, hf24_0⟩ := Kd.R_celln 0 HO_4.out (1 : Int) p24 q24
              (try rw [show ((1 : Int)).toNat = 1 from rfl] at hx24_0)
              (try simp only [Nat.reduceMul, Nat.zero_mul, Nat.zero_add, Nat.reduceAdd] at hx24_0)
              (try rw [show ((1 : Int)).toNat = 1 from rfl] at hf24_0)
              (try simp only [Nat.reduceMul, Nat.zero_mul, Nat.zero_add, Nat.reduceAdd] at hf24_0)
              replace p24 := eq_true p24
              replace q24 := eq_true q24
              have HP35 := Kd.R_putg HO_4.out (1 : Int) 160
              go_wp2_with (first | ((with_reducible refine gate_store (t := 5) (p := 48) rfl ?_); refine store_event (t := 5) (p := 48) (v := ?vo_w36) (w1 := (wr.setCell ⟨go24, (1 : Int).toNat, none⟩ (.int .u8 160))) ?hg ?ho ?hn ?hr ?_; (case ho => rfl); (case hg => rfl); (case hn => rfl); (case hr => first | (go_simp; done) | (go_simp; rfl)); intro w36 hw; have hg : wr.grownBy w36 (some go24) := (by rw [hw]; exact HP35.2); have hp_ : Kd.R (Kd.int .u8) 5 w36 w.heap.size (fun k_ => some k_ ≠ (u5 : Value).ownBlock) (.slice (some ⟨go24, 0, none⟩) x4_1.length co34) y180 := (by rw [hw, Ny180.out]; exact HP35.1); clear HP35; have n0_ := Aside0.mk (hp_); have n1_ := Aside0.mk (Kd.R_after (v := (.slice (some ⟨go24, 0, none⟩) x4_1.length co34)) (v1 := (.slice (some ⟨go24, 0, none⟩) x4_1.length co34)) (ok := (fun _ => True)) (by (with_reducible repeat (first | apply Kd.R_alloc | apply Kd.R_drewN | apply Kd.R_drew)); exact Kd.R_mono HO_5.out (fun _ hk => ⟨trivial, hk⟩)) hg (.inl rfl)); have n2_ := Aside0.mk ((by rw [hw]; exact below_set (HB.out) GB24.out : Below w.heap.size w w36)); clear HO_4; clear HO_5; clear HB; have HO_4 := n0_; have HO_5 := n1_; have HB := n2_; clear n0_ n1_ n2_; clear hg hw hp_) | ((with_reducible refine gate_callee (f := 98) rfl ?_); refine goesL_ (some 63) rfl rfl Tryd.func98 (by kernel_rfl) rfl #[.slice (some ⟨go24, 0, none⟩) y180.length co34, .int .i64 0] rfl (by (try simp only [List.map_toArray, List.map_cons, List.map_nil]); first | done | (rw [show y180.length = x4_1.length from (Kd.R_reads' HO_4.out).1.symm] <;> rfl) | rfl | (simp only [List.length_drop, List.length_take]; rfl)) ?_; (with_reducible refine (spec_GetSign.calls k1 _ _ y180 0 t181 t182 false _ ?side1 ?side2 A25.out).mono ?_); (case side1 => exact kc_ (Kd.R_reads' HO_4.out).2.2); (case side2 => rw [show y180.length = x4_1.length from (Kd.R_reads' HO_4.out).1.symm]; exact (Kd.R_reads' HO_4.out).2.1); rintro e w37 ⟨rfl, hb⟩; refine ⟨_, rfl, ?_⟩; have n0_ := Aside0.mk (Kd.R_below (kr_ HO_4) hb); have n1_ := Aside0.mk (Kd.R_below (kr_ HO_5) hb); have n2_ := Aside0.mk (below_step hb_ hb); clear HO_4; clear HO_5; clear HB; have HO_4 := n0_; have HO_5 := n1_; have HB := n2_; clear n0_ n1_ n2_; try clear hb; obtain ⟨Ao38, co38, eo38⟩ := Kd.R_slice HO_5.out; subst eo38) | ((with_reducible refine gate_callee (f := 98) rfl ?_); refine goesL_ (some 69) rfl rfl Tryd.func98 (by kernel_rfl) rfl #[.slice Ao38 x5_1.length co38, .int .i64 0] rfl ka_ ?_; (with_reducible refine (spec_GetSign.calls k1 _ _ x5_1 0 t184 t185 t186 _ ?side1 ?side2 A26.out).mono ?_); (case side1 => exact kc_ (Kd.R_reads' HO_5.out).2.2); (case side2 => exact (Kd.R_reads' HO_5.out).2.1); rintro e w39 ⟨rfl, hb⟩; refine ⟨_, rfl, ?_⟩; have n0_ := Aside0.mk (Kd.R_below (kr_ HO_4) hb); have n1_ := Aside0.mk (Kd.R_below (kr_ HO_5) hb); have n2_ := Aside0.mk (below_step hb_ hb); clear HO_4; clear HO_5; clear HB; have HO_4 := n0_; have HO_5 := n1_; have HB := n2_; clear n0_ n1_ n2_; try clear hb))
              go_ret
              exact ⟨rf_, hb_⟩
            ·rw [if_neg c23] at H
             exact absurd H (by simp)
           ·rw [if_neg c22] at H
            have c22b0 : ((rd l0 0) == 224) = false := beq_eq_false_iff_ne.mpr c22
            have c22b1 : ((rd l0 0) != 224) = true := bne_iff_ne.mpr c22
            by_cases c40 : (rd l0 0) = 237
            ·rw [if_pos c40] at H
             have c40b0 : ((rd l0 0) == 237) = true := beq_iff_eq.mpr c40
             have c40b1 : ((rd l0 0) != 237) = false := bne_eq_false_iff_eq.mpr c40
             clear c40
             by_cases c41 : 1 < (x5_1.length : Int)
             ·rw [if_pos c41] at H
              have c41b0 : decide (1 < (x5_1.length : Int)) = true := decide_eq_true c41
              have c41b1 : decide (1 < x5_1.length) = true := decide_eq_true (by omega)
              clear c41
              obtain ⟨y187, hy187⟩ : ∃ y_ : List Int, y_ = (x5_1.set (1 : Int).toNat 159) := ⟨_, rfl⟩
              replace H : ((spec_GetSign.f k1 x4_1 0).bind fun bt188 => ((spec_GetSign.f k1 y187 0).bind fun bt191 => (if bt188.2.2 = true then (some bt191.2.2) else (some false)))) = some r := by first | (rw [hy187]; with_reducible exact H) | (have H2_ := (Option.bind_some _ _).symm.trans H; rw [hy187]; with_reducible exact H2_) | (have H2_ := (Option.bind_some _ _).symm.trans H; with_reducible exact H2_) | with_reducible exact H | (rw [hy187]; exact H) | exact H
              have Ny187 := Aside0.mk hy187
              clear hy187
              replace H := Option.bind_eq_some_iff.mp H
              obtain ⟨⟨t188, t189, t190⟩, A430, H⟩ := H
              try dsimp only at H
              have A43 := Aside0.mk A430
              clear A430
              replace H := Option.bind_eq_some_iff.mp H
              obtain ⟨⟨t191, t192, t193⟩, A440, H⟩ := H
              try dsimp only at H
              have A44 := Aside0.mk A440
              clear A440
              by_cases c45 : t190 = true
              ·subst c45
               rw [if_pos rfl] at H
               obtain rfl := Option.some.inj H
               obtain ⟨Ao46, co46, eo46⟩ := Kd.R_slice HO_4.out
               subst eo46
               have p179 : 0 ≤ (0 : Int) := (by omega)
               have q179 : 0 < (l0.length : Int) := of_decide_eq_true as_
               obtain ⟨ad179, e179, hx179_0⟩ := Kd.at_int HR0.out 0 p179 q179
               obtain rfl : ad159 = ad179 := (by injection e179)
               have qi179 : (0 < l0.length) = True := eq_true (by omega)
               (try rw [show ((0 : Int)).toNat = 0 from rfl] at hx179_0)
               (try rw [Addr.add_zero'] at hx179_0)
               replace hx179_0 := (HB.out.cell (World.block_lt_of_cell? w _ hx179_0)).trans hx179_0
               replace p179 := eq_true p179
               replace q179 := eq_true q179
               have p42 : 0 ≤ (1 : Int) := (by omega)
               have q42 : (1 : Int) < ((x5_1.length : Int) : Int) := of_decide_eq_true as_
               have qi42 : (1 < x5_1.length) = True := eq_true (by omega)
               obtain ⟨go42, co42, eo42, gb42, gl42, cl42, HG42⟩ := Kd.R_form HO_5.out (by omega)
               (first | cases eo42 | (injection eo42 with ea_ en_ ec_; (first | subst ea_ | (injection ea_ with ea_; subst ea_)); subst ec_; clear en_))
               have GB42 := Aside0.mk gb42
               have GG42 := Aside0.mk HG42
               clear gb42 gl42 HG42
               obtain ⟨hx42_0, hf42_0⟩ := Kd.R_celln 0 HO_5.out (1 : Int) p42 q42
               (try rw [show ((1 : Int)).toNat = 1 from rfl] at hx42_0)
               (try simp only [Nat.reduceMul, Nat.zero_mul, Nat.zero_add, Nat.reduceAdd] at hx42_0)
               (try rw [show ((1 : Int)).toNat = 1 from rfl] at hf42_0)
               (try simp only [Nat.reduceMul, Nat.zero_mul, Nat.zero_add, Nat.reduceAdd] at hf42_0)
               replace p42 := eq_true p42
               replace q42 := eq_true q42
               have HP47 := Kd.R_putg HO_5.out (1 : Int) 159
               go_wp2_with (first | ((with_reducible refine gate_store (t := 5) (p := 52) rfl ?_); refine store_event (t := 5) (p := 52) (v := ?vo_w48) (w1 := (wr.setCell ⟨go42, (1 : Int).toNat, none⟩ (.int .u8 159))) ?hg ?ho ?hn ?hr ?_; (case ho => rfl); (case hg => rfl); (case hn => rfl); (case hr => first | (go_simp; done) | (go_simp; rfl)); intro w48 hw; have hg : wr.grownBy w48 (some go42) := (by rw [hw]; exact HP47.2); have hp_ : Kd.R (Kd.int .u8) 5 w48 w.heap.size (fun k_ => some k_ ≠ (.slice Ao46 x4_1.length co46 : Value).ownBlock) (.slice (some ⟨go42, 0, none⟩) x5_1.length co42) y187 := (by rw [hw, Ny187.out]; exact HP47.1); clear HP47; have n0_ := Aside0.mk (Kd.R_after (v := (.slice (some ⟨go42, 0, none⟩) x5_1.length co42)) (v1 := (.slice (some ⟨go42, 0, none⟩) x5_1.length co42)) (ok := (fun _ => True)) (by (with_reducible repeat (first | apply Kd.R_alloc | apply Kd.R_drewN | apply Kd.R_drew)); exact Kd.R_mono HO_4.out (fun _ hk => ⟨trivial, hk⟩)) hg (.inl rfl)); have n1_ := Aside0.mk (hp_); have n2_ := Aside0.mk ((by rw [hw]; exact below_set (HB.out) GB42.out : Below w.heap.size w w48)); clear HO_4; clear HO_5; clear HB; have HO_4 := n0_; have HO_5 := n1_; have HB := n2_; clear n0_ n1_ n2_; clear hg hw hp_) | ((with_reducible refine gate_callee (f := 98) rfl ?_); refine goesL_ (some 63) rfl rfl Tryd.func98 (by kernel_rfl) rfl #[.slice Ao46 x4_1.length co46, .int .i64 0] rfl ka_ ?_; (with_reducible refine (spec_GetSign.calls k1 _ _ x4_1 0 t188 t189 true _ ?side1 ?side2 A43.out).mono ?_); (case side1 => exact kc_ (Kd.R_reads' HO_4.out).2.2); (case side2 => exact (Kd.R_reads' HO_4.out).2.1); rintro e w49 ⟨rfl, hb⟩; refine ⟨_, rfl, ?_⟩; have n0_ := Aside0.mk (Kd.R_below (kr_ HO_4) hb); have n1_ := Aside0.mk (Kd.R_below (kr_ HO_5) hb); have n2_ := Aside0.mk (below_step hb_ hb); clear HO_4; clear HO_5; clear HB; have HO_4 := n0_; have HO_5 := n1_; have HB := n2_; clear n0_ n1_ n2_; try clear hb) | ((with_reducible refine gate_callee (f := 98) rfl ?_); refine goesL_ (some 69) rfl rfl Tryd.func98 (by kernel_rfl) rfl #[.slice (some ⟨go42, 0, none⟩) y187.length co42, .int .i64 0] rfl (by (try simp only [List.map_toArray, List.map_cons, List.map_nil]); first | done | (rw [show y187.length = x5_1.length from (Kd.R_reads' HO_5.out).1.symm] <;> rfl) | rfl | (simp only [List.length_drop, List.length_take]; rfl)) ?_; (with_reducible refine (spec_GetSign.calls k1 _ _ y187 0 t191 t192 t193 _ ?side1 ?side2 A44.out).mono ?_); (case side1 => exact kc_ (Kd.R_reads' HO_5.out).2.2); (case side2 => rw [show y187.length = x5_1.length from (Kd.R_reads' HO_5.out).1.symm]; exact (Kd.R_reads' HO_5.out).2.1); rintro e w50 ⟨rfl, hb⟩; refine ⟨_, rfl, ?_⟩; have n0_ := Aside0.mk (Kd.R_below (kr_ HO_4) hb); have n1_ := Aside0.mk (Kd.R_below (kr_ HO_5) hb); have n2_ := Aside0.mk (below_step hb_ hb); clear HO_4; clear HO_5; clear HB; have HO_4 := n0_; have HO_5 := n1_; have HB := n2_; clear n0_ n1_ n2_; try clear hb))
               go_ret
               exact ⟨rf_, hb_⟩
              ·replace c45 := Bool.eq_false_iff.mpr c45
               subst c45
               rw [if_neg (show ¬ (false = true) by decide)] at H
               obtain rfl := Option.some.inj H
               obtain ⟨Ao51, co51, eo51⟩ := Kd.R_slice HO_4.out
               subst eo51
               have p179 : 0 ≤ (0 : Int) := (by omega)
               have q179 : 0 < (l0.length : Int) := of_decide_eq_true as_
               obtain ⟨ad179, e179, hx179_0⟩ := Kd.at_int HR0.out 0 p179 q179
               obtain rfl : ad159 = ad179 := (by injection e179)
               have qi179 : (0 < l0.length) = True := eq_true (by omega)
               (try rw [show ((0 : Int)).toNat = 0 from rfl] at hx179_0)
               (try rw [Addr.add_zero'] at hx179_0)
               replace hx179_0 := (HB.out.cell (World.block_lt_of_cell? w _ hx179_0)).trans hx179_0
               replace p179 := eq_true p179
               replace q179 := eq_true q179
               have p42 : 0 ≤ (1 : Int) := (by omega)
               have q42 : (1 : Int) < ((x5_1.length : Int) : Int) := of_decide_eq_true as_
               have qi42 : (1 < x5_1.length) = True := eq_true (by omega)
               obtain ⟨go42, co42, eo42, gb42, gl42, cl42, HG42⟩ := Kd.R_form HO_5.out (by omega)
               (first | cases eo42 | (injection eo42 with ea_ en_ ec_; (first | subst ea_ | (injection ea_ with ea_; subst ea_)); subst ec_; clear en_))
               have GB42 := Aside0.mk gb42
               have GG42 := Aside0.mk HG42
               clear gb42 gl42 HG42
               obtain ⟨hx42_0, hf42_0⟩ := Kd.R_celln 0 HO_5.out (1 : Int) p42 q42
               (try rw [show ((1 : Int)).toNat = 1 from rfl] at hx42_0)
               (try simp only [Nat.reduceMul, Nat.zero_mul, Nat.zero_add, Nat.reduceAdd] at hx42_0)
               (try rw [show ((1 : Int)).toNat = 1 from rfl] at hf42_0)
               (try simp only [Nat.reduceMul, Nat.zero_mul, Nat.zero_add, Nat.reduceAdd] at hf42_0)
               replace p42 := eq_true p42
               replace q42 := eq_true q42
               have HP52 := Kd.R_putg HO_5.out (1 : Int) 159
               go_wp2_with (first | ((with_reducible refine gate_store (t := 5) (p := 52) rfl ?_); refine store_event (t := 5) (p := 52) (v := ?vo_w53) (w1 := (wr.setCell ⟨go42, (1 : Int).toNat, none⟩ (.int .u8 159))) ?hg ?ho ?hn ?hr ?_; (case ho => rfl); (case hg => rfl); (case hn => rfl); (case hr => first | (go_simp; done) | (go_simp; rfl)); intro w53 hw; have hg : wr.grownBy w53 (some go42) := (by rw [hw]; exact HP52.2); have hp_ : Kd.R (Kd.int .u8) 5 w53 w.heap.size (fun k_ => some k_ ≠ (.slice Ao51 x4_1.length co51 : Value).ownBlock) (.slice (some ⟨go42, 0, none⟩) x5_1.length co42) y187 := (by rw [hw, Ny187.out]; exact HP52.1); clear HP52; have n0_ := Aside0.mk (Kd.R_after (v := (.slice (some ⟨go42, 0, none⟩) x5_1.length co42)) (v1 := (.slice (some ⟨go42, 0, none⟩) x5_1.length co42)) (ok := (fun _ => True)) (by (with_reducible repeat (first | apply Kd.R_alloc | apply Kd.R_drewN | apply Kd.R_drew)); exact Kd.R_mono HO_4.out (fun _ hk => ⟨trivial, hk⟩)) hg (.inl rfl)); have n1_ := Aside0.mk (hp_); have n2_ := Aside0.mk ((by rw [hw]; exact below_set (HB.out) GB42.out : Below w.heap.size w w53)); clear HO_4; clear HO_5; clear HB; have HO_4 := n0_; have HO_5 := n1_; have HB := n2_; clear n0_ n1_ n2_; clear hg hw hp_) | ((with_reducible refine gate_callee (f := 98) rfl ?_); refine goesL_ (some 63) rfl rfl Tryd.func98 (by kernel_rfl) rfl #[.slice Ao51 x4_1.length co51, .int .i64 0] rfl ka_ ?_; (with_reducible refine (spec_GetSign.calls k1 _ _ x4_1 0 t188 t189 false _ ?side1 ?side2 A43.out).mono ?_); (case side1 => exact kc_ (Kd.R_reads' HO_4.out).2.2); (case side2 => exact (Kd.R_reads' HO_4.out).2.1); rintro e w54 ⟨rfl, hb⟩; refine ⟨_, rfl, ?_⟩; have n0_ := Aside0.mk (Kd.R_below (kr_ HO_4) hb); have n1_ := Aside0.mk (Kd.R_below (kr_ HO_5) hb); have n2_ := Aside0.mk (below_step hb_ hb); clear HO_4; clear HO_5; clear HB; have HO_4 := n0_; have HO_5 := n1_; have HB := n2_; clear n0_ n1_ n2_; try clear hb) | ((with_reducible refine gate_callee (f := 98) rfl ?_); refine goesL_ (some 69) rfl rfl Tryd.func98 (by kernel_rfl) rfl #[.slice (some ⟨go42, 0, none⟩) y187.length co42, .int .i64 0] rfl (by (try simp only [List.map_toArray, List.map_cons, List.map_nil]); first | done | (rw [show y187.length = x5_1.length from (Kd.R_reads' HO_5.out).1.symm] <;> rfl) | rfl | (simp only [List.length_drop, List.length_take]; rfl)) ?_; (with_reducible refine (spec_GetSign.calls k1 _ _ y187 0 t191 t192 t193 _ ?side1 ?side2 A44.out).mono ?_); (case side1 => exact kc_ (Kd.R_reads' HO_5.out).2.2); (case side2 => rw [show y187.length = x5_1.length from (Kd.R_reads' HO_5.out).1.symm]; exact (Kd.R_reads' HO_5.out).2.1); rintro e w55 ⟨rfl, hb⟩; refine ⟨_, rfl, ?_⟩; have n0_ := Aside0.mk (Kd.R_below (kr_ HO_4) hb); have n1_ := Aside0.mk (Kd.R_below (kr_ HO_5) hb); have n2_ := Aside0.mk (below_step hb_ hb); clear HO_4; clear HO_5; clear HB; have HO_4 := n0_; have HO_5 := n1_; have HB := n2_; clear n0_ n1_ n2_; try clear hb))
               go_ret
               exact ⟨rf_, hb_⟩
             ·rw [if_neg c41] at H
              exact absurd H (by simp)
            ·rw [if_neg c40] at H
             have c40b0 : ((rd l0 0) == 237) = false := beq_eq_false_iff_ne.mpr c40
             have c40b1 : ((rd l0 0) != 237) = true := bne_iff_ne.mpr c40
             by_cases c56 : (rd l0 0) = 240
             ·rw [if_pos c56] at H
              have c56b0 : ((rd l0 0) == 240) = true := beq_iff_eq.mpr c56
              have c56b1 : ((rd l0 0) != 240) = false := bne_eq_false_iff_eq.mpr c56
              clear c56
              by_cases c57 : 1 < (x4_1.length : Int)
              ·rw [if_pos c57] at H
               have c57b0 : decide (1 < (x4_1.length : Int)) = true := decide_eq_true c57
               have c57b1 : decide (1 < x4_1.length) = true := decide_eq_true (by omega)
               clear c57
               obtain ⟨y194, hy194⟩ : ∃ y_ : List Int, y_ = (x4_1.set (1 : Int).toNat 144) := ⟨_, rfl⟩
               replace H : ((spec_GetSign.f k1 y194 0).bind fun bt195 => ((spec_GetSign.f k1 x5_1 0).bind fun bt198 => (if bt195.2.2 = true then (some bt198.2.2) else (some false)))) = some r := by first | (rw [hy194]; with_reducible exact H) | (have H2_ := (Option.bind_some _ _).symm.trans H; rw [hy194]; with_reducible exact H2_) | (have H2_ := (Option.bind_some _ _).symm.trans H; with_reducible exact H2_) | with_reducible exact H | (rw [hy194]; exact H) | exact H
               have Ny194 := Aside0.mk hy194
               clear hy194
               replace H := Option.bind_eq_some_iff.mp H
               obtain ⟨⟨t195, t196, t197⟩, A590, H⟩ := H
               try dsimp only at H
               have A59 := Aside0.mk A590
               clear A590
               replace H := Option.bind_eq_some_iff.mp H
               obtain ⟨⟨t198, t199, t200⟩, A600, H⟩ := H
               try dsimp only at H
               have A60 := Aside0.mk A600
               clear A600
               by_cases c61 : t197 = true
               ·subst c61
                rw [if_pos rfl] at H
                obtain rfl := Option.some.inj H
                obtain ⟨Ao62, co62, eo62⟩ := Kd.R_slice HO_4.out
                subst eo62
                have p179 : 0 ≤ (0 : Int) := (by omega)
                have q179 : 0 < (l0.length : Int) := of_decide_eq_true as_
                obtain ⟨ad179, e179, hx179_0⟩ := Kd.at_int HR0.out 0 p179 q179
                obtain rfl : ad159 = ad179 := (by injection e179)
                have qi179 : (0 < l0.length) = True := eq_true (by omega)
                (try rw [show ((0 : Int)).toNat = 0 from rfl] at hx179_0)
                (try rw [Addr.add_zero'] at hx179_0)
                replace hx179_0 := (HB.out.cell (World.block_lt_of_cell? w _ hx179_0)).trans hx179_0
                replace p179 := eq_true p179
                replace q179 := eq_true q179
                have p58 : 0 ≤ (1 : Int) := (by omega)
                have q58 : (1 : Int) < ((x4_1.length : Int) : Int) := of_decide_eq_true as_
                have qi58 : (1 < x4_1.length) = True := eq_true (by omega)
                obtain ⟨go58, co58, eo58, gb58, gl58, cl58, HG58⟩ := Kd.R_form HO_4.out (by omega)
                (first | cases eo58 | (injection eo58 with ea_ en_ ec_; (first | subst ea_ | (injection ea_ with ea_; subst ea_)); subst ec_; clear en_))
                have GB58 := Aside0.mk gb58
                have GG58 := Aside0.mk HG58
                clear gb58 gl58 HG58
                obtain ⟨hx58_0, hf58_0⟩ := Kd.R_celln 0 HO_4.out (1 : Int) p58 q58
                (try rw [show ((1 : Int)).toNat = 1 from rfl] at hx58_0)
                (try simp only [Nat.reduceMul, Nat.zero_mul, Nat.zero_add, Nat.reduceAdd] at hx58_0)
                (try rw [show ((1 : Int)).toNat = 1 from rfl] at hf58_0)
                (try simp only [Nat.reduceMul, Nat.zero_mul, Nat.zero_add, Nat.reduceAdd] at hf58_0)
                replace p58 := eq_true p58
                replace q58 := eq_true q58
                have HP63 := Kd.R_putg HO_4.out (1 : Int) 144
                go_wp2_with (first | ((with_reducible refine gate_store (t := 5) (p := 56) rfl ?_); refine store_event (t := 5) (p := 56) (v := ?vo_w64) (w1 := (wr.setCell ⟨go58, (1 : Int).toNat, none⟩ (.int .u8 144))) ?hg ?ho ?hn ?hr ?_; (case ho => rfl); (case hg => rfl); (case hn => rfl); (case hr => first | (go_simp; done) | (go_simp; rfl)); intro w64 hw; have hg : wr.grownBy w64 (some go58) := (by rw [hw]; exact HP63.2); have hp_ : Kd.R (Kd.int .u8) 5 w64 w.heap.size (fun k_ => some k_ ≠ (u5 : Value).ownBlock) (.slice (some ⟨go58, 0, none⟩) x4_1.length co62) y194 := (by rw [hw, Ny194.out]; exact HP63.1); clear HP63; have n0_ := Aside0.mk (hp_); have n1_ := Aside0.mk (Kd.R_after (v := (.slice (some ⟨go58, 0, none⟩) x4_1.length co62)) (v1 := (.slice (some ⟨go58, 0, none⟩) x4_1.length co62)) (ok := (fun _ => True)) (by (with_reducible repeat (first | apply Kd.R_alloc | apply Kd.R_drewN | apply Kd.R_drew)); exact Kd.R_mono HO_5.out (fun _ hk => ⟨trivial, hk⟩)) hg (.inl rfl)); have n2_ := Aside0.mk ((by rw [hw]; exact below_set (HB.out) GB58.out : Below w.heap.size w w64)); clear HO_4; clear HO_5; clear HB; have HO_4 := n0_; have HO_5 := n1_; have HB := n2_; clear n0_ n1_ n2_; clear hg hw hp_) | ((with_reducible refine gate_callee (f := 98) rfl ?_); refine goesL_ (some 63) rfl rfl Tryd.func98 (by kernel_rfl) rfl #[.slice (some ⟨go58, 0, none⟩) y194.length co62, .int .i64 0] rfl (by (try simp only [List.map_toArray, List.map_cons, List.map_nil]); first | done | (rw [show y194.length = x4_1.length from (Kd.R_reads' HO_4.out).1.symm] <;> rfl) | rfl | (simp only [List.length_drop, List.length_take]; rfl)) ?_; (with_reducible refine (spec_GetSign.calls k1 _ _ y194 0 t195 t196 true _ ?side1 ?side2 A59.out).mono ?_); (case side1 => exact kc_ (Kd.R_reads' HO_4.out).2.2); (case side2 => rw [show y194.length = x4_1.length from (Kd.R_reads' HO_4.out).1.symm]; exact (Kd.R_reads' HO_4.out).2.1); rintro e w65 ⟨rfl, hb⟩; refine ⟨_, rfl, ?_⟩; have n0_ := Aside0.mk (Kd.R_below (kr_ HO_4) hb); have n1_ := Aside0.mk (Kd.R_below (kr_ HO_5) hb); have n2_ := Aside0.mk (below_step hb_ hb); clear HO_4; clear HO_5; clear HB; have HO_4 := n0_; have HO_5 := n1_; have HB := n2_; clear n0_ n1_ n2_; try clear hb; obtain ⟨Ao66, co66, eo66⟩ := Kd.R_slice HO_5.out; subst eo66) | ((with_reducible refine gate_callee (f := 98) rfl ?_); refine goesL_ (some 69) rfl rfl Tryd.func98 (by kernel_rfl) rfl #[.slice Ao66 x5_1.length co66, .int .i64 0] rfl ka_ ?_; (with_reducible refine (spec_GetSign.calls k1 _ _ x5_1 0 t198 t199 t200 _ ?side1 ?side2 A60.out).mono ?_); (case side1 => exact kc_ (Kd.R_reads' HO_5.out).2.2); (case side2 => exact (Kd.R_reads' HO_5.out).2.1); rintro e w67 ⟨rfl, hb⟩; refine ⟨_, rfl, ?_⟩; have n0_ := Aside0.mk (Kd.R_below (kr_ HO_4) hb); have n1_ := Aside0.mk (Kd.R_below (kr_ HO_5) hb); have n2_ := Aside0.mk (below_step hb_ hb); clear HO_4; clear HO_5; clear HB; have HO_4 := n0_; have HO_5 := n1_; have HB := n2_; clear n0_ n1_ n2_; try clear hb))
                go_ret
                exact ⟨rf_, hb_⟩
               ·replace c61 := Bool.eq_false_iff.mpr c61
                subst c61
                rw [if_neg (show ¬ (false = true) by decide)] at H
                obtain rfl := Option.some.inj H
                obtain ⟨Ao68, co68, eo68⟩ := Kd.R_slice HO_4.out
                subst eo68
                have p179 : 0 ≤ (0 : Int) := (by omega)
                have q179 : 0 < (l0.length : Int) := of_decide_eq_true as_
                obtain ⟨ad179, e179, hx179_0⟩ := Kd.at_int HR0.out 0 p179 q179
                obtain rfl : ad159 = ad179 := (by injection e179)
                have qi179 : (0 < l0.length) = True := eq_true (by omega)
                (try rw [show ((0 : Int)).toNat = 0 from rfl] at hx179_0)
                (try rw [Addr.add_zero'] at hx179_0)
                replace hx179_0 := (HB.out.cell (World.block_lt_of_cell? w _ hx179_0)).trans hx179_0
                replace p179 := eq_true p179
                replace q179 := eq_true q179
                have p58 : 0 ≤ (1 : Int) := (by omega)
                have q58 : (1 : Int) < ((x4_1.length : Int) : Int) := of_decide_eq_true as_
                have qi58 : (1 < x4_1.length) = True := eq_true (by omega)
                obtain ⟨go58, co58, eo58, gb58, gl58, cl58, HG58⟩ := Kd.R_form HO_4.out (by omega)
                (first | cases eo58 | (injection eo58 with ea_ en_ ec_; (first | subst ea_ | (injection ea_ with ea_; subst ea_)); subst ec_; clear en_))
                have GB58 := Aside0.mk gb58
                have GG58 := Aside0.mk HG58
                clear gb58 gl58 HG58
                obtain ⟨hx58_0, hf58_0⟩ := Kd.R_celln 0 HO_4.out (1 : Int) p58 q58
                (try rw [show ((1 : Int)).toNat = 1 from rfl] at hx58_0)
                (try simp only [Nat.reduceMul, Nat.zero_mul, Nat.zero_add, Nat.reduceAdd] at hx58_0)
                (try rw [show ((1 : Int)).toNat = 1 from rfl] at hf58_0)
                (try simp only [Nat.reduceMul, Nat.zero_mul, Nat.zero_add, Nat.reduceAdd] at hf58_0)
                replace p58 := eq_true p58
                replace q58 := eq_true q58
                have HP69 := Kd.R_putg HO_4.out (1 : Int) 144
                go_wp2_with (first | ((with_reducible refine gate_store (t := 5) (p := 56) rfl ?_); refine store_event (t := 5) (p := 56) (v := ?vo_w70) (w1 := (wr.setCell ⟨go58, (1 : Int).toNat, none⟩ (.int .u8 144))) ?hg ?ho ?hn ?hr ?_; (case ho => rfl); (case hg => rfl); (case hn => rfl); (case hr => first | (go_simp; done) | (go_simp; rfl)); intro w70 hw; have hg : wr.grownBy w70 (some go58) := (by rw [hw]; exact HP69.2); have hp_ : Kd.R (Kd.int .u8) 5 w70 w.heap.size (fun k_ => some k_ ≠ (u5 : Value).ownBlock) (.slice (some ⟨go58, 0, none⟩) x4_1.length co68) y194 := (by rw [hw, Ny194.out]; exact HP69.1); clear HP69; have n0_ := Aside0.mk (hp_); have n1_ := Aside0.mk (Kd.R_after (v := (.slice (some ⟨go58, 0, none⟩) x4_1.length co68)) (v1 := (.slice (some ⟨go58, 0, none⟩) x4_1.length co68)) (ok := (fun _ => True)) (by (with_reducible repeat (first | apply Kd.R_alloc | apply Kd.R_drewN | apply Kd.R_drew)); exact Kd.R_mono HO_5.out (fun _ hk => ⟨trivial, hk⟩)) hg (.inl rfl)); have n2_ := Aside0.mk ((by rw [hw]; exact below_set (HB.out) GB58.out : Below w.heap.size w w70)); clear HO_4; clear HO_5; clear HB; have HO_4 := n0_; have HO_5 := n1_; have HB := n2_; clear n0_ n1_ n2_; clear hg hw hp_) | ((with_reducible refine gate_callee (f := 98) rfl ?_); refine goesL_ (some 63) rfl rfl Tryd.func98 (by kernel_rfl) rfl #[.slice (some ⟨go58, 0, none⟩) y194.length co68, .int .i64 0] rfl (by (try simp only [List.map_toArray, List.map_cons, List.map_nil]); first | done | (rw [show y194.length = x4_1.length from (Kd.R_reads' HO_4.out).1.symm] <;> rfl) | rfl | (simp only [List.length_drop, List.length_take]; rfl)) ?_; (with_reducible refine (spec_GetSign.calls k1 _ _ y194 0 t195 t196 false _ ?side1 ?side2 A59.out).mono ?_); (case side1 => exact kc_ (Kd.R_reads' HO_4.out).2.2); (case side2 => rw [show y194.length = x4_1.length from (Kd.R_reads' HO_4.out).1.symm]; exact (Kd.R_reads' HO_4.out).2.1); rintro e w71 ⟨rfl, hb⟩; refine ⟨_, rfl, ?_⟩; have n0_ := Aside0.mk (Kd.R_below (kr_ HO_4) hb); have n1_ := Aside0.mk (Kd.R_below (kr_ HO_5) hb); have n2_ := Aside0.mk (below_step hb_ hb); clear HO_4; clear HO_5; clear HB; have HO_4 := n0_; have HO_5 := n1_; have HB := n2_; clear n0_ n1_ n2_; try clear hb; obtain ⟨Ao72, co72, eo72⟩ := Kd.R_slice HO_5.out; subst eo72) | ((with_reducible refine gate_callee (f := 98) rfl ?_); refine goesL_ (some 69) rfl rfl Tryd.func98 (by kernel_rfl) rfl #[.slice Ao72 x5_1.length co72, .int .i64 0] rfl ka_ ?_; (with_reducible refine (spec_GetSign.calls k1 _ _ x5_1 0 t198 t199 t200 _ ?side1 ?side2 A60.out).mono ?_); (case side1 => exact kc_ (Kd.R_reads' HO_5.out).2.2); (case side2 => exact (Kd.R_reads' HO_5.out).2.1); rintro e w73 ⟨rfl, hb⟩; refine ⟨_, rfl, ?_⟩; have n0_ := Aside0.mk (Kd.R_below (kr_ HO_4) hb); have n1_ := Aside0.mk (Kd.R_below (kr_ HO_5) hb); have n2_ := Aside0.mk (below_step hb_ hb); clear HO_4; clear HO_5; clear HB; have HO_4 := n0_; have HO_5 := n1_; have HB := n2_; clear n0_ n1_ n2_; try clear hb))
                go_ret
                exact ⟨rf_, hb_⟩
              ·rw [if_neg c57] at H
               exact absurd H (by simp)
             ·rw [if_neg c56] at H
              have c56b0 : ((rd l0 0) == 240) = false := beq_eq_false_iff_ne.mpr c56
              have c56b1 : ((rd l0 0) != 240) = true := bne_iff_ne.mpr c56
              by_cases c74 : (rd l0 0) = 244
              ·rw [if_pos c74] at H
               have c74b0 : ((rd l0 0) == 244) = true := beq_iff_eq.mpr c74
               have c74b1 : ((rd l0 0) != 244) = false := bne_eq_false_iff_eq.mpr c74
               clear c74
               by_cases c75 : 1 < (x5_1.length : Int)
               ·rw [if_pos c75] at H
                have c75b0 : decide (1 < (x5_1.length : Int)) = true := decide_eq_true c75
                have c75b1 : decide (1 < x5_1.length) = true := decide_eq_true (by omega)
                clear c75
                obtain ⟨y201, hy201⟩ : ∃ y_ : List Int, y_ = (x5_1.set (1 : Int).toNat 143) := ⟨_, rfl⟩
                replace H : ((spec_GetSign.f k1 x4_1 0).bind fun bt202 => ((spec_GetSign.f k1 y201 0).bind fun bt205 => (if bt202.2.2 = true then (some bt205.2.2) else (some false)))) = some r := by first | (rw [hy201]; with_reducible exact H) | (have H2_ := (Option.bind_some _ _).symm.trans H; rw [hy201]; with_reducible exact H2_) | (have H2_ := (Option.bind_some _ _).symm.trans H; with_reducible exact H2_) | with_reducible exact H | (rw [hy201]; exact H) | exact H
                have Ny201 := Aside0.mk hy201
                clear hy201
                replace H := Option.bind_eq_some_iff.mp H
                obtain ⟨⟨t202, t203, t204⟩, A770, H⟩ := H
                try dsimp only at H
                have A77 := Aside0.mk A770
                clear A770
                replace H := Option.bind_eq_some_iff.mp H
                obtain ⟨⟨t205, t206, t207⟩, A780, H⟩ := H
                try dsimp only at H
                have A78 := Aside0.mk A780
                clear A780
                by_cases c79 : t204 = true
                ·subst c79
                 rw [if_pos rfl] at H
                 obtain rfl := Option.some.inj H
                 obtain ⟨Ao80, co80, eo80⟩ := Kd.R_slice HO_4.out
                 subst eo80
                 have p179 : 0 ≤ (0 : Int) := (by omega)
                 have q179 : 0 < (l0.length : Int) := of_decide_eq_true as_
                 obtain ⟨ad179, e179, hx179_0⟩ := Kd.at_int HR0.out 0 p179 q179
                 obtain rfl : ad159 = ad179 := (by injection e179)
                 have qi179 : (0 < l0.length) = True := eq_true (by omega)
                 (try rw [show ((0 : Int)).toNat = 0 from rfl] at hx179_0)
                 (try rw [Addr.add_zero'] at hx179_0)
                 replace hx179_0 := (HB.out.cell (World.block_lt_of_cell? w _ hx179_0)).trans hx179_0
                 replace p179 := eq_true p179
                 replace q179 := eq_true q179
                 have p76 : 0 ≤ (1 : Int) := (by omega)
                 have q76 : (1 : Int) < ((x5_1.length : Int) : Int) := of_decide_eq_true as_
                 have qi76 : (1 < x5_1.length) = True := eq_true (by omega)
                 obtain ⟨go76, co76, eo76, gb76, gl76, cl76, HG76⟩ := Kd.R_form HO_5.out (by omega)
                 (first | cases eo76 | (injection eo76 with ea_ en_ ec_; (first | subst ea_ | (injection ea_ with ea_; subst ea_)); subst ec_; clear en_))
                 have GB76 := Aside0.mk gb76
                 have GG76 := Aside0.mk HG76
                 clear gb76 gl76 HG76
                 obtain ⟨hx76_0, hf76_0⟩ := Kd.R_celln 0 HO_5.out (1 : Int) p76 q76
                 (try rw [show ((1 : Int)).toNat = 1 from rfl] at hx76_0)
                 (try simp only [Nat.reduceMul, Nat.zero_mul, Nat.zero_add, Nat.reduceAdd] at hx76_0)
                 (try rw [show ((1 : Int)).toNat = 1 from rfl] at hf76_0)
                 (try simp only [Nat.reduceMul, Nat.zero_mul, Nat.zero_add, Nat.reduceAdd] at hf76_0)
                 replace p76 := eq_true p76
                 replace q76 := eq_true q76
                 have HP81 := Kd.R_putg HO_5.out (1 : Int) 143
                 go_wp2_with (first | ((with_reducible refine gate_store (t := 5) (p := 60) rfl ?_); refine store_event (t := 5) (p := 60) (v := ?vo_w82) (w1 := (wr.setCell ⟨go76, (1 : Int).toNat, none⟩ (.int .u8 143))) ?hg ?ho ?hn ?hr ?_; (case ho => rfl); (case hg => rfl); (case hn => rfl); (case hr => first | (go_simp; done) | (go_simp; rfl)); intro w82 hw; have hg : wr.grownBy w82 (some go76) := (by rw [hw]; exact HP81.2); have hp_ : Kd.R (Kd.int .u8) 5 w82 w.heap.size (fun k_ => some k_ ≠ (.slice Ao80 x4_1.length co80 : Value).ownBlock) (.slice (some ⟨go76, 0, none⟩) x5_1.length co76) y201 := (by rw [hw, Ny201.out]; exact HP81.1); clear HP81; have n0_ := Aside0.mk (Kd.R_after (v := (.slice (some ⟨go76, 0, none⟩) x5_1.length co76)) (v1 := (.slice (some ⟨go76, 0, none⟩) x5_1.length co76)) (ok := (fun _ => True)) (by (with_reducible repeat (first | apply Kd.R_alloc | apply Kd.R_drewN | apply Kd.R_drew)); exact Kd.R_mono HO_4.out (fun _ hk => ⟨trivial, hk⟩)) hg (.inl rfl)); have n1_ := Aside0.mk (hp_); have n2_ := Aside0.mk ((by rw [hw]; exact below_set (HB.out) GB76.out : Below w.heap.size w w82)); clear HO_4; clear HO_5; clear HB; have HO_4 := n0_; have HO_5 := n1_; have HB := n2_; clear n0_ n1_ n2_; clear hg hw hp_) | ((with_reducible refine gate_callee (f := 98) rfl ?_); refine goesL_ (some 63) rfl rfl Tryd.func98 (by kernel_rfl) rfl #[.slice Ao80 x4_1.length co80, .int .i64 0] rfl ka_ ?_; (with_reducible refine (spec_GetSign.calls k1 _ _ x4_1 0 t202 t203 true _ ?side1 ?side2 A77.out).mono ?_); (case side1 => exact kc_ (Kd.R_reads' HO_4.out).2.2); (case side2 => exact (Kd.R_reads' HO_4.out).2.1); rintro e w83 ⟨rfl, hb⟩; refine ⟨_, rfl, ?_⟩; have n0_ := Aside0.mk (Kd.R_below (kr_ HO_4) hb); have n1_ := Aside0.mk (Kd.R_below (kr_ HO_5) hb); have n2_ := Aside0.mk (below_step hb_ hb); clear HO_4; clear HO_5; clear HB; have HO_4 := n0_; have HO_5 := n1_; have HB := n2_; clear n0_ n1_ n2_; try clear hb) | ((with_reducible refine gate_callee (f := 98) rfl ?_); refine goesL_ (some 69) rfl rfl Tryd.func98 (by kernel_rfl) rfl #[.slice (some ⟨go76, 0, none⟩) y201.length co76, .int .i64 0] rfl (by (try simp only [List.map_toArray, List.map_cons, List.map_nil]); first | done | (rw [show y201.length = x5_1.length from (Kd.R_reads' HO_5.out).1.symm] <;> rfl) | rfl | (simp only [List.length_drop, List.length_take]; rfl)) ?_; (with_reducible refine (spec_GetSign.calls k1 _ _ y201 0 t205 t206 t207 _ ?side1 ?side2 A78.out).mono ?_); (case side1 => exact kc_ (Kd.R_reads' HO_5.out).2.2); (case side2 => rw [show y201.length = x5_1.length from (Kd.R_reads' HO_5.out).1.symm]; exact (Kd.R_reads' HO_5.out).2.1); rintro e w84 ⟨rfl, hb⟩; refine ⟨_, rfl, ?_⟩; have n0_ := Aside0.mk (Kd.R_below (kr_ HO_4) hb); have n1_ := Aside0.mk (Kd.R_below (kr_ HO_5) hb); have n2_ := Aside0.mk (below_step hb_ hb); clear HO_4; clear HO_5; clear HB; have HO_4 := n0_; have HO_5 := n1_; have HB := n2_; clear n0_ n1_ n2_; try clear hb))
                 go_ret
                 exact ⟨rf_, hb_⟩
                ·replace c79 := Bool.eq_false_iff.mpr c79
                 subst c79
                 rw [if_neg (show ¬ (false = true) by decide)] at H
                 obtain rfl := Option.some.inj H
                 obtain ⟨Ao85, co85, eo85⟩ := Kd.R_slice HO_4.out
                 subst eo85
                 have p179 : 0 ≤ (0 : Int) := (by omega)
                 have q179 : 0 < (l0.length : Int) := of_decide_eq_true as_
                 obtain ⟨ad179, e179, hx179_0⟩ := Kd.at_int HR0.out 0 p179 q179
                 obtain rfl : ad159 = ad179 := (by injection e179)
                 have qi179 : (0 < l0.length) = True := eq_true (by omega)
                 (try rw [show ((0 : Int)).toNat = 0 from rfl] at hx179_0)
                 (try rw [Addr.add_zero'] at hx179_0)
                 replace hx179_0 := (HB.out.cell (World.block_lt_of_cell? w _ hx179_0)).trans hx179_0
                 replace p179 := eq_true p179
                 replace q179 := eq_true q179
                 have p76 : 0 ≤ (1 : Int) := (by omega)
                 have q76 : (1 : Int) < ((x5_1.length : Int) : Int) := of_decide_eq_true as_
                 have qi76 : (1 < x5_1.length) = True := eq_true (by omega)
                 obtain ⟨go76, co76, eo76, gb76, gl76, cl76, HG76⟩ := Kd.R_form HO_5.out (by omega)
                 (first | cases eo76 | (injection eo76 with ea_ en_ ec_; (first | subst ea_ | (injection ea_ with ea_; subst ea_)); subst ec_; clear en_))
                 have GB76 := Aside0.mk gb76
                 have GG76 := Aside0.mk HG76
                 clear gb76 gl76 HG76
                 obtain ⟨hx76_0, hf76_0⟩ := Kd.R_celln 0 HO_5.out (1 : Int) p76 q76
                 (try rw [show ((1 : Int)).toNat = 1 from rfl] at hx76_0)
                 (try simp only [Nat.reduceMul, Nat.zero_mul, Nat.zero_add, Nat.reduceAdd] at hx76_0)
                 (try rw [show ((1 : Int)).toNat = 1 from rfl] at hf76_0)
                 (try simp only [Nat.reduceMul, Nat.zero_mul, Nat.zero_add, Nat.reduceAdd] at hf76_0)
                 replace p76 := eq_true p76
                 replace q76 := eq_true q76
                 have HP86 := Kd.R_putg HO_5.out (1 : Int) 143
                 go_wp2_with (first | ((with_reducible refine gate_store (t := 5) (p := 60) rfl ?_); refine store_event (t := 5) (p := 60) (v := ?vo_w87) (w1 := (wr.setCell ⟨go76, (1 : Int).toNat, none⟩ (.int .u8 143))) ?hg ?ho ?hn ?hr ?_; (case ho => rfl); (case hg => rfl); (case hn => rfl); (case hr => first | (go_simp; done) | (go_simp; rfl)); intro w87 hw; have hg : wr.grownBy w87 (some go76) := (by rw [hw]; exact HP86.2); have hp_ : Kd.R (Kd.int .u8) 5 w87 w.heap.size (fun k_ => some k_ ≠ (.slice Ao85 x4_1.length co85 : Value).ownBlock) (.slice (some ⟨go76, 0, none⟩) x5_1.length co76) y201 := (by rw [hw, Ny201.out]; exact HP86.1); clear HP86; have n0_ := Aside0.mk (Kd.R_after (v := (.slice (some ⟨go76, 0, none⟩) x5_1.length co76)) (v1 := (.slice (some ⟨go76, 0, none⟩) x5_1.length co76)) (ok := (fun _ => True)) (by (with_reducible repeat (first | apply Kd.R_alloc | apply Kd.R_drewN | apply Kd.R_drew)); exact Kd.R_mono HO_4.out (fun _ hk => ⟨trivial, hk⟩)) hg (.inl rfl)); have n1_ := Aside0.mk (hp_); have n2_ := Aside0.mk ((by rw [hw]; exact below_set (HB.out) GB76.out : Below w.heap.size w w87)); clear HO_4; clear HO_5; clear HB; have HO_4 := n0_; have HO_5 := n1_; have HB := n2_; clear n0_ n1_ n2_; clear hg hw hp_) | ((with_reducible refine gate_callee (f := 98) rfl ?_); refine goesL_ (some 63) rfl rfl Tryd.func98 (by kernel_rfl) rfl #[.slice Ao85 x4_1.length co85, .int .i64 0] rfl ka_ ?_; (with_reducible refine (spec_GetSign.calls k1 _ _ x4_1 0 t202 t203 false _ ?side1 ?side2 A77.out).mono ?_); (case side1 => exact kc_ (Kd.R_reads' HO_4.out).2.2); (case side2 => exact (Kd.R_reads' HO_4.out).2.1); rintro e w88 ⟨rfl, hb⟩; refine ⟨_, rfl, ?_⟩; have n0_ := Aside0.mk (Kd.R_below (kr_ HO_4) hb); have n1_ := Aside0.mk (Kd.R_below (kr_ HO_5) hb); have n2_ := Aside0.mk (below_step hb_ hb); clear HO_4; clear HO_5; clear HB; have HO_4 := n0_; have HO_5 := n1_; have HB := n2_; clear n0_ n1_ n2_; try clear hb) | ((with_reducible refine gate_callee (f := 98) rfl ?_); refine goesL_ (some 69) rfl rfl Tryd.func98 (by kernel_rfl) rfl #[.slice (some ⟨go76, 0, none⟩) y201.length co76, .int .i64 0] rfl (by (try simp only [List.map_toArray, List.map_cons, List.map_nil]); first | done | (rw [show y201.length = x5_1.length from (Kd.R_reads' HO_5.out).1.symm] <;> rfl) | rfl | (simp only [List.length_drop, List.length_take]; rfl)) ?_; (with_reducible refine (spec_GetSign.calls k1 _ _ y201 0 t205 t206 t207 _ ?side1 ?side2 A78.out).mono ?_); (case side1 => exact kc_ (Kd.R_reads' HO_5.out).2.2); (case side2 => rw [show y201.length = x5_1.length from (Kd.R_reads' HO_5.out).1.symm]; exact (Kd.R_reads' HO_5.out).2.1); rintro e w89 ⟨rfl, hb⟩; refine ⟨_, rfl, ?_⟩; have n0_ := Aside0.mk (Kd.R_below (kr_ HO_4) hb); have n1_ := Aside0.mk (Kd.R_below (kr_ HO_5) hb); have n2_ := Aside0.mk (below_step hb_ hb); clear HO_4; clear HO_5; clear HB; have HO_4 := n0_; have HO_5 := n1_; have HB := n2_; clear n0_ n1_ n2_; try clear hb))
                 go_ret
                 exact ⟨rf_, hb_⟩
               ·rw [if_neg c75] at H
                exact absurd H (by simp)
              ·rw [if_neg c74] at H
               have c74b0 : ((rd l0 0) == 244) = false := beq_eq_false_iff_ne.mpr c74
               have c74b1 : ((rd l0 0) != 244) = true := bne_iff_ne.mpr c74
               replace H := Option.bind_eq_some_iff.mp H
               obtain ⟨⟨t208, t209, t210⟩, A900, H⟩ := H
               try dsimp only at H
               have A90 := Aside0.mk A900
               clear A900
               replace H := Option.bind_eq_some_iff.mp H
               obtain ⟨⟨t211, t212, t213⟩, A910, H⟩ := H
               try dsimp only at H
               have A91 := Aside0.mk A910
               clear A910
               by_cases c92 : t210 = true
               ·subst c92
                rw [if_pos rfl] at H
                obtain rfl := Option.some.inj H
                obtain ⟨Ao93, co93, eo93⟩ := Kd.R_slice HO_4.out
                subst eo93
                have p179 : 0 ≤ (0 : Int) := (by omega)
                have q179 : 0 < (l0.length : Int) := of_decide_eq_true as_
                obtain ⟨ad179, e179, hx179_0⟩ := Kd.at_int HR0.out 0 p179 q179
                obtain rfl : ad159 = ad179 := (by injection e179)
                have qi179 : (0 < l0.length) = True := eq_true (by omega)
                (try rw [show ((0 : Int)).toNat = 0 from rfl] at hx179_0)
                (try rw [Addr.add_zero'] at hx179_0)
                replace hx179_0 := (HB.out.cell (World.block_lt_of_cell? w _ hx179_0)).trans hx179_0
                replace p179 := eq_true p179
                replace q179 := eq_true q179
                go_wp2_with (first | ((with_reducible refine gate_callee (f := 98) rfl ?_); refine goesL_ (some 63) rfl rfl Tryd.func98 (by kernel_rfl) rfl #[.slice Ao93 x4_1.length co93, .int .i64 0] rfl ka_ ?_; (with_reducible refine (spec_GetSign.calls k1 _ _ x4_1 0 t208 t209 true _ ?side1 ?side2 A90.out).mono ?_); (case side1 => exact kc_ (Kd.R_reads' HO_4.out).2.2); (case side2 => exact (Kd.R_reads' HO_4.out).2.1); rintro e w94 ⟨rfl, hb⟩; refine ⟨_, rfl, ?_⟩; have n0_ := Aside0.mk (Kd.R_below (kr_ HO_4) hb); have n1_ := Aside0.mk (Kd.R_below (kr_ HO_5) hb); have n2_ := Aside0.mk (below_step hb_ hb); clear HO_4; clear HO_5; clear HB; have HO_4 := n0_; have HO_5 := n1_; have HB := n2_; clear n0_ n1_ n2_; try clear hb; obtain ⟨Ao95, co95, eo95⟩ := Kd.R_slice HO_5.out; subst eo95) | ((with_reducible refine gate_callee (f := 98) rfl ?_); refine goesL_ (some 69) rfl rfl Tryd.func98 (by kernel_rfl) rfl #[.slice Ao95 x5_1.length co95, .int .i64 0] rfl ka_ ?_; (with_reducible refine (spec_GetSign.calls k1 _ _ x5_1 0 t211 t212 t213 _ ?side1 ?side2 A91.out).mono ?_); (case side1 => exact kc_ (Kd.R_reads' HO_5.out).2.2); (case side2 => exact (Kd.R_reads' HO_5.out).2.1); rintro e w96 ⟨rfl, hb⟩; refine ⟨_, rfl, ?_⟩; have n0_ := Aside0.mk (Kd.R_below (kr_ HO_4) hb); have n1_ := Aside0.mk (Kd.R_below (kr_ HO_5) hb); have n2_ := Aside0.mk (below_step hb_ hb); clear HO_4; clear HO_5; clear HB; have HO_4 := n0_; have HO_5 := n1_; have HB := n2_; clear n0_ n1_ n2_; try clear hb))
                go_ret
                exact ⟨rf_, hb_⟩
               ·replace c92 := Bool.eq_false_iff.mpr c92
                subst c92
                rw [if_neg (show ¬ (false = true) by decide)] at H
                obtain rfl := Option.some.inj H
                obtain ⟨Ao97, co97, eo97⟩ := Kd.R_slice HO_4.out
                subst eo97
                have p179 : 0 ≤ (0 : Int) := (by omega)
                have q179 : 0 < (l0.length : Int) := of_decide_eq_true as_
                obtain ⟨ad179, e179, hx179_0⟩ := Kd.at_int HR0.out 0 p179 q179
                obtain rfl : ad159 = ad179 := (by injection e179)
                have qi179 : (0 < l0.length) = True := eq_true (by omega)
                (try rw [show ((0 : Int)).toNat = 0 from rfl] at hx179_0)
                (try rw [Addr.add_zero'] at hx179_0)
                replace hx179_0 := (HB.out.cell (World.block_lt_of_cell? w _ hx179_0)).trans hx179_0
                replace p179 := eq_true p179
                replace q179 := eq_true q179
                go_wp2_with (first | ((with_reducible refine gate_callee (f := 98) rfl ?_); refine goesL_ (some 63) rfl rfl Tryd.func98 (by kernel_rfl) rfl #[.slice Ao97 x4_1.length co97, .int .i64 0] rfl ka_ ?_; (with_reducible refine (spec_GetSign.calls k1 _ _ x4_1 0 t208 t209 false _ ?side1 ?side2 A90.out).mono ?_); (case side1 => exact kc_ (Kd.R_reads' HO_4.out).2.2); (case side2 => exact (Kd.R_reads' HO_4.out).2.1); rintro e w98 ⟨rfl, hb⟩; refine ⟨_, rfl, ?_⟩; have n0_ := Aside0.mk (Kd.R_below (kr_ HO_4) hb); have n1_ := Aside0.mk (Kd.R_below (kr_ HO_5) hb); have n2_ := Aside0.mk (below_step hb_ hb); clear HO_4; clear HO_5; clear HB; have HO_4 := n0_; have HO_5 := n1_; have HB := n2_; clear n0_ n1_ n2_; try clear hb; obtain ⟨Ao99, co99, eo99⟩ := Kd.R_slice HO_5.out; subst eo99) | ((with_reducible refine gate_callee (f := 98) rfl ?_); refine goesL_ (some 69) rfl rfl Tryd.func98 (by kernel_rfl) rfl #[.slice Ao99 x5_1.length co99, .int .i64 0] rfl ka_ ?_; (with_reducible refine (spec_GetSign.calls k1 _ _ x5_1 0 t211 t212 t213 _ ?side1 ?side2 A91.out).mono ?_); (case side1 => exact kc_ (Kd.R_reads' HO_5.out).2.2); (case side2 => exact (Kd.R_reads' HO_5.out).2.1); rintro e w100 ⟨rfl, hb⟩; refine ⟨_, rfl, ?_⟩; have n0_ := Aside0.mk (Kd.R_below (kr_ HO_4) hb); have n1_ := Aside0.mk (Kd.R_below (kr_ HO_5) hb); have n2_ := Aside0.mk (below_step hb_ hb); clear HO_4; clear HO_5; clear HB; have HO_4 := n0_; have HO_5 := n1_; have HB := n2_; clear n0_ n1_ n2_; try clear hb))
                go_ret
                exact ⟨rf_, hb_⟩
          ·rw [if_neg c21] at H
           exact absurd H (by simp)
         ·rw [if_neg c20] at H
          have c20b0 : ((l0.length : Int) == 1) = false := beq_eq_false_iff_ne.mpr c20
          have c20b1 : ((l0.length : Int) != 1) = true := bne_iff_ne.mpr c20
          replace H := Option.bind_eq_some_iff.mp H
          obtain ⟨⟨t214, t215, t216⟩, A1010, H⟩ := H
          try dsimp only at H
          have A101 := Aside0.mk A1010
          clear A1010
          replace H := Option.bind_eq_some_iff.mp H
          obtain ⟨⟨t217, t218, t219⟩, A1020, H⟩ := H
          try dsimp only at H
          have A102 := Aside0.mk A1020
          clear A1020
          by_cases c103 : t216 = true
          ·subst c103
           rw [if_pos rfl] at H
           obtain rfl := Option.some.inj H
           obtain ⟨Ao104, co104, eo104⟩ := Kd.R_slice HO_4.out
           subst eo104
           go_wp2_with (first | ((with_reducible refine gate_callee (f := 98) rfl ?_); refine goesL_ (some 63) rfl rfl Tryd.func98 (by kernel_rfl) rfl #[.slice Ao104 x4_1.length co104, .int .i64 0] rfl ka_ ?_; (with_reducible refine (spec_GetSign.calls k1 _ _ x4_1 0 t214 t215 true _ ?side1 ?side2 A101.out).mono ?_); (case side1 => exact kc_ (Kd.R_reads' HO_4.out).2.2); (case side2 => exact (Kd.R_reads' HO_4.out).2.1); rintro e w105 ⟨rfl, hb⟩; refine ⟨_, rfl, ?_⟩; have n0_ := Aside0.mk (Kd.R_below (kr_ HO_4) hb); have n1_ := Aside0.mk (Kd.R_below (kr_ HO_5) hb); have n2_ := Aside0.mk (below_step hb_ hb); clear HO_4; clear HO_5; clear HB; have HO_4 := n0_; have HO_5 := n1_; have HB := n2_; clear n0_ n1_ n2_; try clear hb; obtain ⟨Ao106, co106, eo106⟩ := Kd.R_slice HO_5.out; subst eo106) | ((with_reducible refine gate_callee (f := 98) rfl ?_); refine goesL_ (some 69) rfl rfl Tryd.func98 (by kernel_rfl) rfl #[.slice Ao106 x5_1.length co106, .int .i64 0] rfl ka_ ?_; (with_reducible refine (spec_GetSign.calls k1 _ _ x5_1 0 t217 t218 t219 _ ?side1 ?side2 A102.out).mono ?_); (case side1 => exact kc_ (Kd.R_reads' HO_5.out).2.2); (case side2 => exact (Kd.R_reads' HO_5.out).2.1); rintro e w107 ⟨rfl, hb⟩; refine ⟨_, rfl, ?_⟩; have n0_ := Aside0.mk (Kd.R_below (kr_ HO_4) hb); have n1_ := Aside0.mk (Kd.R_below (kr_ HO_5) hb); have n2_ := Aside0.mk (below_step hb_ hb); clear HO_4; clear HO_5; clear HB; have HO_4 := n0_; have HO_5 := n1_; have HB := n2_; clear n0_ n1_ n2_; try clear hb))
           go_ret
           exact ⟨rf_, hb_⟩
          ·replace c103 := Bool.eq_false_iff.mpr c103
           subst c103
           rw [if_neg (show ¬ (false = true) by decide)] at H
           obtain rfl := Option.some.inj H
           obtain ⟨Ao108, co108, eo108⟩ := Kd.R_slice HO_4.out
           subst eo108
           go_wp2_with (first | ((with_reducible refine gate_callee (f := 98) rfl ?_); refine goesL_ (some 63) rfl rfl Tryd.func98 (by kernel_rfl) rfl #[.slice Ao108 x4_1.length co108, .int .i64 0] rfl ka_ ?_; (with_reducible refine (spec_GetSign.calls k1 _ _ x4_1 0 t214 t215 false _ ?side1 ?side2 A101.out).mono ?_); (case side1 => exact kc_ (Kd.R_reads' HO_4.out).2.2); (case side2 => exact (Kd.R_reads' HO_4.out).2.1); rintro e w109 ⟨rfl, hb⟩; refine ⟨_, rfl, ?_⟩; have n0_ := Aside0.mk (Kd.R_below (kr_ HO_4) hb); have n1_ := Aside0.mk (Kd.R_below (kr_ HO_5) hb); have n2_ := Aside0.mk (below_step hb_ hb); clear HO_4; clear HO_5; clear HB; have HO_4 := n0_; have HO_5 := n1_; have HB := n2_; clear n0_ n1_ n2_; try clear hb; obtain ⟨Ao110, co110, eo110⟩ := Kd.R_slice HO_5.out; subst eo110) | ((with_reducible refine gate_callee (f := 98) rfl ?_); refine goesL_ (some 69) rfl rfl Tryd.func98 (by kernel_rfl) rfl #[.slice Ao110 x5_1.length co110, .int .i64 0] rfl ka_ ?_; (with_reducible refine (spec_GetSign.calls k1 _ _ x5_1 0 t217 t218 t219 _ ?side1 ?side2 A102.out).mono ?_); (case side1 => exact kc_ (Kd.R_reads' HO_5.out).2.2); (case side2 => exact (Kd.R_reads' HO_5.out).2.1); rintro e w111 ⟨rfl, hb⟩; refine ⟨_, rfl, ?_⟩; have n0_ := Aside0.mk (Kd.R_below (kr_ HO_4) hb); have n1_ := Aside0.mk (Kd.R_below (kr_ HO_5) hb); have n2_ := Aside0.mk (below_step hb_ hb); clear HO_4; clear HO_5; clear HB; have HO_4 := n0_; have HO_5 := n1_; have HB := n2_; clear n0_ n1_ n2_; try clear hb))
           go_ret
           exact ⟨rf_, hb_⟩
     ·rw [if_neg c7] at H
      exact absurd H (by simp)
    ·rw [if_neg c6] at H
     exact absurd H (by simp)
  ·rw [if_neg c3] at H
   exact absurd H (by simp)

/-! ### spec_l6Begins: function 80 -/
def spec_l6Begins.f (k : Nat) (a0 : Int) (l1 : List Int) : Option (Bool) := if a0 = 5 then (if (l1.length : Int) = 1 then (if 0 < (l1.length : Int) then (if (rd l1 0) = 164 then (some true) else (some ((rd l1 0) == 165))) else (none)) else (some false)) else (if a0 = 0 then ((spec_l6Utf.f k l1).bind fun t222 => (some t222)) else (some false))
theorem spec_l6Begins.mono : ∀ a0 a1 k, LeO (spec_l6Begins.f k a0 a1) (spec_l6Begins.f (k + 1) a0 a1) := by
 intro a0 a1 k
 unfold spec_l6Begins.f
 repeat' first
   | (with_reducible exact spec_l6Utf.mono _ _)
   | (with_reducible exact LeO.refl _)
   | (with_reducible exact LeO.none _)
   | (with_reducible refine LeO.ite ?_ ?_)
   | (with_reducible refine LeO.bind ?_ (fun _ => ?_))
   | exact spec_l6Utf.mono _ _
   | exact LeO.none _
   | refine LeO.ite ?_ ?_
   | refine LeO.bind ?_ (fun _ => ?_)
set_option maxHeartbeats 8000000 in
set_option maxRecDepth 100000 in
theorem spec_l6Begins.calls (k : Nat) (a0 : Int) (A1 : Option Addr) (c1 : Nat) (l1 : List Int) (r : Bool) (w : World) (hr1 : Kd.C (Kd.int .u8) w A1 l1.length l1) (hc1 : l1.length ≤ c1) (h : spec_l6Begins.f k a0 l1 = some r) :
  Calls Tryd.prog 80 #[.int .i64 a0, .slice A1 l1.length c1] w fun e w' => e = .returned (.bool r) ∧ Below w.heap.size w w' := by
 have HR1 := Aside0.mk hr1
 have HC1 := Aside0.mk hc1
 clear hr1 hc1
 have HB := Aside0.mk (Below.refl w.heap.size w)
 have H : (if a0 = 5 then (if (l1.length : Int) = 1 then (if 0 < (l1.length : Int) then (if (rd l1 0) = 164 then (some true) else (some ((rd l1 0) == 165))) else (none)) else (some false)) else (if a0 = 0 then ((spec_l6Utf.f k l1).bind fun t222 => (some t222)) else (some false))) = some r := h
 clear h
 by_cases c3 : a0 = 5
 ·rw [if_pos c3] at H
  have c3b0 : (a0 == 5) = true := beq_iff_eq.mpr c3
  have c3b1 : (a0 != 5) = false := bne_eq_false_iff_eq.mpr c3
  clear c3
  by_cases c4 : (l1.length : Int) = 1
  ·rw [if_pos c4] at H
   have c4b0 : ((l1.length : Int) == 1) = true := beq_iff_eq.mpr c4
   have c4b1 : ((l1.length : Int) != 1) = false := bne_eq_false_iff_eq.mpr c4
   clear c4
   by_cases c5 : 0 < (l1.length : Int)
   ·rw [if_pos c5] at H
    have c5b0 : decide (0 < (l1.length : Int)) = true := decide_eq_true c5
    have c5b1 : decide (0 < l1.length) = true := decide_eq_true (by omega)
    clear c5
    by_cases c6 : (rd l1 0) = 164
    ·rw [if_pos c6] at H
     have c6b0 : ((rd l1 0) == 164) = true := beq_iff_eq.mpr c6
     have c6b1 : ((rd l1 0) != 164) = false := bne_eq_false_iff_eq.mpr c6
     clear c6
     obtain rfl := Option.some.inj H
     have p220 : 0 ≤ (0 : Int) := (by omega)
     have q220 : 0 < (l1.length : Int) := of_decide_eq_true as_
     obtain ⟨ad220, e220, hx220_0⟩ := Kd.at_int HR1.out 0 p220 q220
     cases e220
     have qi220 : (0 < l1.length) = True := eq_true (by omega)
     (try rw [show ((0 : Int)).toNat = 0 from rfl] at hx220_0)
     (try rw [Addr.add_zero'] at hx220_0)
     replace p220 := eq_true p220
     replace q220 := eq_true q220
     go_enter Tryd.func80, Tryd.ntmps80
     go_wp2
     go_ret
     exact ⟨rf_, hb_⟩
    ·rw [if_neg c6] at H
     have c6b0 : ((rd l1 0) == 164) = false := beq_eq_false_iff_ne.mpr c6
     have c6b1 : ((rd l1 0) != 164) = true := bne_iff_ne.mpr c6
     obtain rfl := Option.some.inj H
     have p220 : 0 ≤ (0 : Int) := (by omega)
     have q220 : 0 < (l1.length : Int) := of_decide_eq_true as_
     obtain ⟨ad220, e220, hx220_0⟩ := Kd.at_int HR1.out 0 p220 q220
     cases e220
     have qi220 : (0 < l1.length) = True := eq_true (by omega)
     (try rw [show ((0 : Int)).toNat = 0 from rfl] at hx220_0)
     (try rw [Addr.add_zero'] at hx220_0)
     replace p220 := eq_true p220
     replace q220 := eq_true q220
     have p221 : 0 ≤ (0 : Int) := (by omega)
     have q221 : 0 < (l1.length : Int) := of_decide_eq_true as_
     obtain ⟨ad221, e221, hx221_0⟩ := Kd.at_int HR1.out 0 p221 q221
     obtain rfl : ad220 = ad221 := (by injection e221)
     have qi221 : (0 < l1.length) = True := eq_true (by omega)
     (try rw [show ((0 : Int)).toNat = 0 from rfl] at hx221_0)
     (try rw [Addr.add_zero'] at hx221_0)
     replace p221 := eq_true p221
     replace q221 := eq_true q221
     go_enter Tryd.func80, Tryd.ntmps80
     go_wp2
     go_ret
     exact ⟨rf_, hb_⟩
   ·rw [if_neg c5] at H
    exact absurd H (by simp)
  ·rw [if_neg c4] at H
   have c4b0 : ((l1.length : Int) == 1) = false := beq_eq_false_iff_ne.mpr c4
   have c4b1 : ((l1.length : Int) != 1) = true := bne_iff_ne.mpr c4
   obtain rfl := Option.some.inj H
   go_enter Tryd.func80, Tryd.ntmps80
   go_wp2
   go_ret
   exact ⟨rf_, hb_⟩
 ·rw [if_neg c3] at H
  have c3b0 : (a0 == 5) = false := beq_eq_false_iff_ne.mpr c3
  have c3b1 : (a0 != 5) = true := bne_iff_ne.mpr c3
  by_cases c7 : a0 = 0
  ·rw [if_pos c7] at H
   have c7b0 : (a0 == 0) = true := beq_iff_eq.mpr c7
   have c7b1 : (a0 != 0) = false := bne_eq_false_iff_eq.mpr c7
   clear c7
   replace H := Option.bind_eq_some_iff.mp H
   obtain ⟨t222, A80, H⟩ := H
   try dsimp only at H
   have A8 := Aside0.mk A80
   clear A80
   obtain rfl := Option.some.inj H
   go_enter Tryd.func80, Tryd.ntmps80
   go_wp2_with (first | ((with_reducible refine gate_callee (f := 106) rfl ?_); refine goesL_ (some 26) rfl rfl Tryd.func106 (by kernel_rfl) rfl #[.slice A1 l1.length c1] rfl ka_ ?_; (with_reducible refine (spec_l6Utf.calls k _ _ l1 t222 _ ?side1 ?side2 A8.out).mono ?_); (case side1 => repeat (first | exact HR1.out | (with_reducible refine Kd.C_alloc ?_ _) | (with_reducible refine Kd.C_drewN ?_ _) | (with_reducible refine Kd.C_drew ?_))); (case side2 => exact HC1.out); rintro e w9 ⟨rfl, hb⟩; refine ⟨_, rfl, ?_⟩; have n0_ := Aside0.mk (below_step hb_ hb); clear HB; have HB := n0_; clear n0_; try clear hb))
   go_ret
   exact ⟨rf_, hb_⟩
  ·rw [if_neg c7] at H
   have c7b0 : (a0 == 0) = false := beq_eq_false_iff_ne.mpr c7
   have c7b1 : (a0 != 0) = true := bne_iff_ne.mpr c7
   obtain rfl := Option.some.inj H
   go_enter Tryd.func80, Tryd.ntmps80
   go_wp2
   go_ret
   exact ⟨rf_, hb_⟩

end Go.Proofs.YtpmimhbnmjffpaaDoor.QFnExactFeed
