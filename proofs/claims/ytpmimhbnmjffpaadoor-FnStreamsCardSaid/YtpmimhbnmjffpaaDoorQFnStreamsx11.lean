/- The functions that a law reaches, each as a plain function, and that Go comes to just its answer: written by the session's program pp.py (the kit's print, with a few rows turned). -/
import Derived.Test.YtpmimhbnmjffpaaDoorQFnStreamsx0
import Derived.Test.YtpmimhbnmjffpaaDoorQFnStreamsx1
import Derived.Test.YtpmimhbnmjffpaaDoorQFnStreamsx7
import Derived.Test.YtpmimhbnmjffpaaDoorQFnStreamsx10
namespace Go.Proofs.YtpmimhbnmjffpaaDoor.QFnStreams
open Go.RowKit Go.Proofs.YtpmimhbnmjffpaaDoorW.PrintWords Go.Proofs.YtpmimhbnmjffpaaDoorW.PrintLast Go.Proofs.YtpmimhbnmjffpaaDoorW.PrintMore Go.Proofs.YtpmimhbnmjffpaaDoor.Xw Go.Proofs.YtpmimhbnmjffpaaDoor.Xs Go.Proofs.YtpmimhbnmjffpaaDoor.Ext
attribute [local go_sem] max2_int min2_int max_two min_two max_three min_three max_four min_four   -- for this text's walks alone
set_option linter.unusedVariables false
set_option linter.unusedSimpArgs false

/-! ### spec_DecOk: function 48 -/
def spec_DecOk.f (k : Nat) (a0_0 : Int) (l0_1 : List Int) (a0_2 : Bool) : Option (Bool) := (spec_l5Cs.f a0_0).bind fun t580 => (if t580 = true then (if (l0_1.length : Int) = 0 then (some true) else (if a0_2 = true then (some false) else ((spec_l6Begins.f k a0_0 l0_1).bind fun t581 => (some t581)))) else (some false))
theorem spec_DecOk.mono : ∀ a0 a1 a2 k, LeO (spec_DecOk.f k a0 a1 a2) (spec_DecOk.f (k + 1) a0 a1 a2) := by
 intro a0 a1 a2 k
 unfold spec_DecOk.f
 repeat' first
   | (with_reducible exact spec_l6Begins.mono _ _ _)
   | (with_reducible exact LeO.refl _)
   | (with_reducible exact LeO.none _)
   | (with_reducible refine LeO.ite ?_ ?_)
   | (with_reducible refine LeO.bind ?_ (fun _ => ?_))
   | exact spec_l6Begins.mono _ _ _
   | exact LeO.none _
   | refine LeO.ite ?_ ?_
   | refine LeO.bind ?_ (fun _ => ?_)
set_option maxHeartbeats 8000000 in
set_option maxRecDepth 100000 in
theorem spec_DecOk.calls (k : Nat) (a0_0 : Int) (A0_1 : Option Addr) (c0_1 : Nat) (l0_1 : List Int) (a0_2 : Bool) (r : Bool) (w : World) (hr0_1 : Kd.C (Kd.int .u8) w A0_1 l0_1.length l0_1) (hc0_1 : l0_1.length ≤ c0_1) (h : spec_DecOk.f k a0_0 l0_1 a0_2 = some r) :
  Calls Tryd.prog 48 #[.agg #[.int .i64 a0_0, .slice A0_1 l0_1.length c0_1, .bool a0_2]] w fun e w' => e = .returned (.bool r) ∧ Below w.heap.size w w' := by
 have hu46 := Tryd.underlying46
 have HR0_1 := Aside0.mk hr0_1
 have HC0_1 := Aside0.mk hc0_1
 clear hr0_1 hc0_1
 have HB := Aside0.mk (Below.refl w.heap.size w)
 have H : ((spec_l5Cs.f a0_0).bind fun t580 => (if t580 = true then (if (l0_1.length : Int) = 0 then (some true) else (if a0_2 = true then (some false) else ((spec_l6Begins.f k a0_0 l0_1).bind fun t581 => (some t581)))) else (some false))) = some r := h
 clear h
 replace H := Option.bind_eq_some_iff.mp H
 obtain ⟨t580, A20, H⟩ := H
 try dsimp only at H
 have A2 := Aside0.mk A20
 clear A20
 by_cases c3 : t580 = true
 ·subst c3
  rw [if_pos rfl] at H
  by_cases c4 : (l0_1.length : Int) = 0
  ·rw [if_pos c4] at H
   have c4b0 : ((l0_1.length : Int) == 0) = true := beq_iff_eq.mpr c4
   have c4b1 : ((l0_1.length : Int) != 0) = false := bne_eq_false_iff_eq.mpr c4
   clear c4
   obtain rfl := Option.some.inj H
   go_enter Tryd.func48, Tryd.ntmps48
   go_wp2_with (first | ((with_reducible refine gate_dst (N := 1) rfl ?_); (try (refine gate_guard (by rfl) ?_; dsimp only)); refine box_event ?hg (N := 1) ?hd (cs := #[.int .i64 a0_0, .slice A0_1 l0_1.length c0_1, .bool a0_2]) (t := 46) ?hr ?_; (case hd => rfl); (case hg => rfl); (case hr => first | (go_simp; done) | (go_simp; rfl)); intro gb579 hg w5 hbox hb; have n0_ := Aside0.mk (below_step hb_ hb); have n1_ := Aside0.mk (hbox); have n2_ := Aside0.mk ((by rw [hg]; exact (below_size hb_) : w.heap.size ≤ gb579)); have n3_ := Aside0.mk ((by rw [hg]; exact (below_size hb_) : w.heap.size ≤ gb579)); clear HB; have HB := n0_; have BK579 := n1_; have GW579 := n2_; have GE579 := n3_; clear n0_ n1_ n2_ n3_; clear hb hbox hg; have hcz6_0 : w5.cell? ⟨gb579, 0, none⟩ = some (.int .i64 a0_0) := (blk_cell BK579.out 0).trans rfl; have hcz6_1 : w5.cell? ⟨gb579, 1, none⟩ = some (.slice A0_1 l0_1.length c0_1) := (blk_cell BK579.out 1).trans rfl; have hcz6_2 : w5.cell? ⟨gb579, 2, none⟩ = some (.bool a0_2) := (blk_cell BK579.out 2).trans rfl; have hfz6_0 := blk_frozen BK579.out 0; have hfz6_1 := blk_frozen BK579.out 1; have hfz6_2 := blk_frozen BK579.out 2) | ((with_reducible refine gate_callee (f := 70) rfl ?_); refine goesL_ (some 5) rfl rfl Tryd.func70 (by kernel_rfl) rfl #[.int .i64 a0_0] rfl ka_ ?_; (with_reducible refine (spec_l5Cs.calls a0_0 true _ A2.out).mono ?_); rintro e w' ⟨rfl, ⟨nd, rfl⟩⟩; refine ⟨_, rfl, ?_⟩))
   go_ret
   exact ⟨rf_, hs_⟩
  ·rw [if_neg c4] at H
   have c4b0 : ((l0_1.length : Int) == 0) = false := beq_eq_false_iff_ne.mpr c4
   have c4b1 : ((l0_1.length : Int) != 0) = true := bne_iff_ne.mpr c4
   have c4b2 : ¬ (l0_1 = []) := fun h_ => c4 (by rw [h_]; rfl)
   by_cases c7 : a0_2 = true
   ·subst c7
    rw [if_pos rfl] at H
    obtain rfl := Option.some.inj H
    go_enter Tryd.func48, Tryd.ntmps48
    go_wp2_with (first | ((with_reducible refine gate_dst (N := 1) rfl ?_); (try (refine gate_guard (by rfl) ?_; dsimp only)); refine box_event ?hg (N := 1) ?hd (cs := #[.int .i64 a0_0, .slice A0_1 l0_1.length c0_1, .bool true]) (t := 46) ?hr ?_; (case hd => rfl); (case hg => rfl); (case hr => first | (go_simp; done) | (go_simp; rfl)); intro gb579 hg w8 hbox hb; have n0_ := Aside0.mk (below_step hb_ hb); have n1_ := Aside0.mk (hbox); have n2_ := Aside0.mk ((by rw [hg]; exact (below_size hb_) : w.heap.size ≤ gb579)); have n3_ := Aside0.mk ((by rw [hg]; exact (below_size hb_) : w.heap.size ≤ gb579)); clear HB; have HB := n0_; have BK579 := n1_; have GW579 := n2_; have GE579 := n3_; clear n0_ n1_ n2_ n3_; clear hb hbox hg; have hcz9_0 : w8.cell? ⟨gb579, 0, none⟩ = some (.int .i64 a0_0) := (blk_cell BK579.out 0).trans rfl; have hcz9_1 : w8.cell? ⟨gb579, 1, none⟩ = some (.slice A0_1 l0_1.length c0_1) := (blk_cell BK579.out 1).trans rfl; have hcz9_2 : w8.cell? ⟨gb579, 2, none⟩ = some (.bool true) := (blk_cell BK579.out 2).trans rfl; have hfz9_0 := blk_frozen BK579.out 0; have hfz9_1 := blk_frozen BK579.out 1; have hfz9_2 := blk_frozen BK579.out 2) | ((with_reducible refine gate_callee (f := 70) rfl ?_); refine goesL_ (some 5) rfl rfl Tryd.func70 (by kernel_rfl) rfl #[.int .i64 a0_0] rfl ka_ ?_; (with_reducible refine (spec_l5Cs.calls a0_0 true _ A2.out).mono ?_); rintro e w' ⟨rfl, ⟨nd, rfl⟩⟩; refine ⟨_, rfl, ?_⟩))
    go_ret
    exact ⟨rf_, hs_⟩
   ·replace c7 := Bool.eq_false_iff.mpr c7
    subst c7
    rw [if_neg (show ¬ (false = true) by decide)] at H
    replace H := Option.bind_eq_some_iff.mp H
    obtain ⟨t581, A100, H⟩ := H
    try dsimp only at H
    have A10 := Aside0.mk A100
    clear A100
    obtain rfl := Option.some.inj H
    go_enter Tryd.func48, Tryd.ntmps48
    go_wp2_with (first | ((with_reducible refine gate_dst (N := 1) rfl ?_); (try (refine gate_guard (by rfl) ?_; dsimp only)); refine box_event ?hg (N := 1) ?hd (cs := #[.int .i64 a0_0, .slice A0_1 l0_1.length c0_1, .bool false]) (t := 46) ?hr ?_; (case hd => rfl); (case hg => rfl); (case hr => first | (go_simp; done) | (go_simp; rfl)); intro gb579 hg w11 hbox hb; have n0_ := Aside0.mk (below_step hb_ hb); have n1_ := Aside0.mk (hbox); have n2_ := Aside0.mk ((by rw [hg]; exact (below_size hb_) : w.heap.size ≤ gb579)); have n3_ := Aside0.mk ((by rw [hg]; exact (below_size hb_) : w.heap.size ≤ gb579)); clear HB; have HB := n0_; have BK579 := n1_; have GW579 := n2_; have GE579 := n3_; clear n0_ n1_ n2_ n3_; clear hb hbox hg; have hcz12_0 : w11.cell? ⟨gb579, 0, none⟩ = some (.int .i64 a0_0) := (blk_cell BK579.out 0).trans rfl; have hcz12_1 : w11.cell? ⟨gb579, 1, none⟩ = some (.slice A0_1 l0_1.length c0_1) := (blk_cell BK579.out 1).trans rfl; have hcz12_2 : w11.cell? ⟨gb579, 2, none⟩ = some (.bool false) := (blk_cell BK579.out 2).trans rfl; have hfz12_0 := blk_frozen BK579.out 0; have hfz12_1 := blk_frozen BK579.out 1; have hfz12_2 := blk_frozen BK579.out 2) | ((with_reducible refine gate_callee (f := 70) rfl ?_); refine goesL_ (some 5) rfl rfl Tryd.func70 (by kernel_rfl) rfl #[.int .i64 a0_0] rfl ka_ ?_; (with_reducible refine (spec_l5Cs.calls a0_0 true _ A2.out).mono ?_); rintro e w' ⟨rfl, ⟨nd, rfl⟩⟩; refine ⟨_, rfl, ?_⟩) | (go_at_call 80; (with_reducible refine (spec_l6Begins.calls k a0_0 _ _ l0_1 t581 _ ?side1 ?side2 A10.out).mono ?_); (case side1 => repeat (first | exact (Kd.C_below HR0_1.out hs_) | (with_reducible refine Kd.C_alloc ?_ _) | (with_reducible refine Kd.C_drewN ?_ _) | (with_reducible refine Kd.C_drew ?_))); (case side2 => exact HC0_1.out); rintro e w13 ⟨rfl, hb⟩; have n0_ := Aside0.mk (blk_below (g := gb579) (o := .cells #[.int .i64 a0_0, .slice A0_1 l0_1.length c0_1, .bool false] 46 (0, 0)) (kb_ BK579) hb); have n1_ := Aside0.mk (below_step hs_ hb); clear BK579; clear HB; have BK579 := n0_; have HB := n1_; clear n0_ n1_; try clear hb))
    go_ret
    exact ⟨rf_, hs_⟩
 ·replace c3 := Bool.eq_false_iff.mpr c3
  subst c3
  rw [if_neg (show ¬ (false = true) by decide)] at H
  obtain rfl := Option.some.inj H
  go_enter Tryd.func48, Tryd.ntmps48
  go_wp2_with (first | ((with_reducible refine gate_dst (N := 1) rfl ?_); (try (refine gate_guard (by rfl) ?_; dsimp only)); refine box_event ?hg (N := 1) ?hd (cs := #[.int .i64 a0_0, .slice A0_1 l0_1.length c0_1, .bool a0_2]) (t := 46) ?hr ?_; (case hd => rfl); (case hg => rfl); (case hr => first | (go_simp; done) | (go_simp; rfl)); intro gb579 hg w14 hbox hb; have n0_ := Aside0.mk (below_step hb_ hb); have n1_ := Aside0.mk (hbox); have n2_ := Aside0.mk ((by rw [hg]; exact (below_size hb_) : w.heap.size ≤ gb579)); have n3_ := Aside0.mk ((by rw [hg]; exact (below_size hb_) : w.heap.size ≤ gb579)); clear HB; have HB := n0_; have BK579 := n1_; have GW579 := n2_; have GE579 := n3_; clear n0_ n1_ n2_ n3_; clear hb hbox hg; have hcz15_0 : w14.cell? ⟨gb579, 0, none⟩ = some (.int .i64 a0_0) := (blk_cell BK579.out 0).trans rfl; have hcz15_1 : w14.cell? ⟨gb579, 1, none⟩ = some (.slice A0_1 l0_1.length c0_1) := (blk_cell BK579.out 1).trans rfl; have hcz15_2 : w14.cell? ⟨gb579, 2, none⟩ = some (.bool a0_2) := (blk_cell BK579.out 2).trans rfl; have hfz15_0 := blk_frozen BK579.out 0; have hfz15_1 := blk_frozen BK579.out 1; have hfz15_2 := blk_frozen BK579.out 2) | ((with_reducible refine gate_callee (f := 70) rfl ?_); refine goesL_ (some 5) rfl rfl Tryd.func70 (by kernel_rfl) rfl #[.int .i64 a0_0] rfl ka_ ?_; (with_reducible refine (spec_l5Cs.calls a0_0 false _ A2.out).mono ?_); rintro e w' ⟨rfl, ⟨nd, rfl⟩⟩; refine ⟨_, rfl, ?_⟩))
  go_ret
  exact ⟨rf_, hs_⟩

/-! ### spec_DecNew: function 49 -/
def spec_DecNew.f (a0 : Int) : Option (Int × List Int × Bool) := some (a0, ([] : List Int), false)
set_option maxHeartbeats 8000000 in
set_option maxRecDepth 100000 in
theorem spec_DecNew.calls (a0 : Int) (r1 : Int) (r2 : List Int) (r3 : Bool) (w : World) (h : spec_DecNew.f a0 = some (r1, r2, r3)) :
  Calls Tryd.prog 49 #[.int .i64 a0] w fun e w' => ∃ v1_ : Value, e = .returned (.agg #[.int .i64 r1, v1_, .bool r3]) ∧ Kd.R (Kd.int .u8) 5 w' w.heap.size (fun _ => True) v1_ r2 ∧ Below w.heap.size w w' := by
 have hu46 := Tryd.underlying46
 have HB := Aside0.mk (Below.refl w.heap.size w)
 have H : (some (a0, ([] : List Int), false)) = some (r1, r2, r3) := h
 clear h
 simp only [Option.some.injEq, Prod.mk.injEq] at H
 obtain ⟨rfl, rfl, rfl⟩ := H
 go_enter Tryd.func49, Tryd.ntmps49
 go_wp2_with (first | ((with_reducible refine gate_dst (N := 2) rfl ?_); refine box_event ?hg (N := 2) ?hd (cs := #[.int .i64 0, .slice none 0 0, .bool false]) (t := 46) ?hr ?_; (case hd => rfl); (case hg => rfl); (case hr => first | (go_simp; done) | (go_simp; rfl)); intro gb582 hg w2 hbox hb; have n0_ := Aside0.mk (below_step hb_ hb); have n1_ := Aside0.mk (hbox); have n2_ := Aside0.mk ((by rw [hg]; exact (below_size hb_) : w.heap.size ≤ gb582)); have n3_ := Aside0.mk ((by rw [hg]; exact (below_size hb_) : w.heap.size ≤ gb582)); clear HB; have HB := n0_; have BK582 := n1_; have GW582 := n2_; have GE582 := n3_; clear n0_ n1_ n2_ n3_; clear hb hbox hg; have hcz3_0 : w2.cell? ⟨gb582, 0, none⟩ = some (.int .i64 0) := (blk_cell BK582.out 0).trans rfl; have hcz3_1 : w2.cell? ⟨gb582, 1, none⟩ = some (.slice none 0 0) := (blk_cell BK582.out 1).trans rfl; have hcz3_2 : w2.cell? ⟨gb582, 2, none⟩ = some (.bool false) := (blk_cell BK582.out 2).trans rfl; have hfz3_0 := blk_frozen BK582.out 0; have hfz3_1 := blk_frozen BK582.out 1; have hfz3_2 := blk_frozen BK582.out 2))
 refine bodyPost_ret (results_cell_row rfl _ _ gb582 46 #[.int .i64 a0, .slice none 0 0, .bool false] (0, 0) _ rfl (by (with_reducible repeat (first | refine blk_drewN ?_ _ | refine blk_drew ?_ | refine blk_alloc ?_ _)); refine blk_put (cs := #[.int .i64 a0, .slice none 0 0, .bool false]) ?_ 2 _ rfl; (with_reducible repeat (first | refine blk_drewN ?_ _ | refine blk_drew ?_ | refine blk_alloc ?_ _)); refine blk_put (cs := #[.int .i64 a0, .slice none 0 0, .bool false]) ?_ 1 _ rfl; (with_reducible repeat (first | refine blk_drewN ?_ _ | refine blk_drew ?_ | refine blk_alloc ?_ _)); refine blk_put (cs := #[.int .i64 0, .slice none 0 0, .bool false]) ?_ 0 _ rfl; (with_reducible repeat (first | refine blk_drewN ?_ _ | refine blk_drew ?_ | refine blk_alloc ?_ _)); exact BK582.out) Tryd.underlying46 rfl (by kernel_rfl)) rfl ?_
 exact ⟨_, by first | rfl | (simp [errW_none, errW_some] <;> rfl) | (simp [*, errW_none, errW_some] <;> rfl), by first | exact Kd.R_nil _ _ _ _ _ | exact Kd.N_nil _ _ _ _ _ | exact Kd.V_nil _ _ _ _ _ | exact Kd.Q_nil _ _ _ _ _ | exact Kd.S_nil _ _ _ _ _, hs_⟩

/-! ### impl_DecEnd: function 50 -/
def impl_DecEnd.f (a0_0 : Int) (l0_1 : List Int) (a0_2 : Bool) : Option (Bool) := (impl_DecOk.f a0_0 l0_1 a0_2).bind fun t584 => (if t584 = true then (if a0_2 = true then (some false) else (some ((l0_1.length : Int) == 0))) else (some false))
set_option maxHeartbeats 8000000 in
set_option maxRecDepth 100000 in
theorem impl_DecEnd.calls (a0_0 : Int) (A0_1 : Option Addr) (c0_1 : Nat) (l0_1 : List Int) (a0_2 : Bool) (r : Bool) (w : World) (hT : TabsOk w) (hr0_1 : Kd.C (Kd.int .u8) w A0_1 l0_1.length l0_1) (hc0_1 : l0_1.length ≤ c0_1) (h : impl_DecEnd.f a0_0 l0_1 a0_2 = some r) :
  Calls Tryd.prog 50 #[.agg #[.int .i64 a0_0, .slice A0_1 l0_1.length c0_1, .bool a0_2]] w fun e w' => e = .returned (.bool r) ∧ Below w.heap.size w w' := by
 have HT := Aside0.mk hT
 clear hT
 have hu46 := Tryd.underlying46
 have HR0_1 := Aside0.mk hr0_1
 have HC0_1 := Aside0.mk hc0_1
 clear hr0_1 hc0_1
 have HB := Aside0.mk (Below.refl w.heap.size w)
 have H : ((impl_DecOk.f a0_0 l0_1 a0_2).bind fun t584 => (if t584 = true then (if a0_2 = true then (some false) else (some ((l0_1.length : Int) == 0))) else (some false))) = some r := h
 clear h
 replace H := Option.bind_eq_some_iff.mp H
 obtain ⟨t584, A20, H⟩ := H
 try dsimp only at H
 have A2 := Aside0.mk A20
 clear A20
 by_cases c3 : t584 = true
 ·subst c3
  rw [if_pos rfl] at H
  by_cases c4 : a0_2 = true
  ·subst c4
   rw [if_pos rfl] at H
   obtain rfl := Option.some.inj H
   go_enter Tryd.func50, Tryd.ntmps50
   go_wp2_with (first | ((with_reducible refine gate_dst (N := 1) rfl ?_); (try (refine gate_guard (by rfl) ?_; dsimp only)); refine box_event ?hg (N := 1) ?hd (cs := #[.int .i64 a0_0, .slice A0_1 l0_1.length c0_1, .bool true]) (t := 46) ?hr ?_; (case hd => rfl); (case hg => rfl); (case hr => first | (go_simp; done) | (go_simp; rfl)); intro gb583 hg w5 hbox hb; have n0_ := Aside0.mk (below_step hb_ hb); have n1_ := Aside0.mk (hbox); have n2_ := Aside0.mk ((by rw [hg]; exact (below_size hb_) : w.heap.size ≤ gb583)); have n3_ := Aside0.mk ((by rw [hg]; exact (below_size hb_) : w.heap.size ≤ gb583)); clear HB; have HB := n0_; have BK583 := n1_; have GW583 := n2_; have GE583 := n3_; clear n0_ n1_ n2_ n3_; clear hb hbox hg; have hcz6_0 : w5.cell? ⟨gb583, 0, none⟩ = some (.int .i64 a0_0) := (blk_cell BK583.out 0).trans rfl; have hcz6_1 : w5.cell? ⟨gb583, 1, none⟩ = some (.slice A0_1 l0_1.length c0_1) := (blk_cell BK583.out 1).trans rfl; have hcz6_2 : w5.cell? ⟨gb583, 2, none⟩ = some (.bool true) := (blk_cell BK583.out 2).trans rfl; have hfz6_0 := blk_frozen BK583.out 0; have hfz6_1 := blk_frozen BK583.out 1; have hfz6_2 := blk_frozen BK583.out 2) | ((with_reducible refine gate_callee (f := 47) rfl ?_); refine goesL_ (some 4) rfl rfl Tryd.func47 (by kernel_rfl) rfl #[.agg #[.int .i64 a0_0, .slice A0_1 l0_1.length c0_1, .bool true]] rfl ka_ ?_; (with_reducible refine (impl_DecOk.calls (hT := ?sideT) a0_0 _ _ l0_1 true true _ ?side1 ?side2 A2.out).mono ?_); (case sideT => first | exact HT.out | exact HT.out.below hs_ | exact HT.out.drawn (by repeat (first | exact Drawn0.refl _ | apply Drawn0.step | assumption))); (case side1 => repeat (first | exact (Kd.C_below HR0_1.out HB.out) | (with_reducible refine Kd.C_alloc ?_ _) | (with_reducible refine Kd.C_drewN ?_ _) | (with_reducible refine Kd.C_drew ?_))); (case side2 => exact HC0_1.out); rintro e w7 ⟨rfl, hb⟩; refine ⟨_, rfl, ?_⟩; have n0_ := Aside0.mk (blk_below (g := gb583) (o := .cells #[.int .i64 a0_0, .slice A0_1 l0_1.length c0_1, .bool true] 46 (0, 0)) (kb_ BK583) hb); have n1_ := Aside0.mk (below_step hs_ hb); clear BK583; clear HB; have BK583 := n0_; have HB := n1_; clear n0_ n1_; try clear hb; have hcz8_0 : w7.cell? ⟨gb583, 0, none⟩ = some (.int .i64 a0_0) := (blk_cell BK583.out 0).trans rfl; have hcz8_1 : w7.cell? ⟨gb583, 1, none⟩ = some (.slice A0_1 l0_1.length c0_1) := (blk_cell BK583.out 1).trans rfl; have hcz8_2 : w7.cell? ⟨gb583, 2, none⟩ = some (.bool true) := (blk_cell BK583.out 2).trans rfl; have hfz8_0 := blk_frozen BK583.out 0; have hfz8_1 := blk_frozen BK583.out 1; have hfz8_2 := blk_frozen BK583.out 2))
   go_ret
   exact ⟨rf_, hs_⟩
  ·replace c4 := Bool.eq_false_iff.mpr c4
   subst c4
   rw [if_neg (show ¬ (false = true) by decide)] at H
   obtain rfl := Option.some.inj H
   go_enter Tryd.func50, Tryd.ntmps50
   go_wp2_with (first | ((with_reducible refine gate_dst (N := 1) rfl ?_); (try (refine gate_guard (by rfl) ?_; dsimp only)); refine box_event ?hg (N := 1) ?hd (cs := #[.int .i64 a0_0, .slice A0_1 l0_1.length c0_1, .bool false]) (t := 46) ?hr ?_; (case hd => rfl); (case hg => rfl); (case hr => first | (go_simp; done) | (go_simp; rfl)); intro gb583 hg w9 hbox hb; have n0_ := Aside0.mk (below_step hb_ hb); have n1_ := Aside0.mk (hbox); have n2_ := Aside0.mk ((by rw [hg]; exact (below_size hb_) : w.heap.size ≤ gb583)); have n3_ := Aside0.mk ((by rw [hg]; exact (below_size hb_) : w.heap.size ≤ gb583)); clear HB; have HB := n0_; have BK583 := n1_; have GW583 := n2_; have GE583 := n3_; clear n0_ n1_ n2_ n3_; clear hb hbox hg; have hcz10_0 : w9.cell? ⟨gb583, 0, none⟩ = some (.int .i64 a0_0) := (blk_cell BK583.out 0).trans rfl; have hcz10_1 : w9.cell? ⟨gb583, 1, none⟩ = some (.slice A0_1 l0_1.length c0_1) := (blk_cell BK583.out 1).trans rfl; have hcz10_2 : w9.cell? ⟨gb583, 2, none⟩ = some (.bool false) := (blk_cell BK583.out 2).trans rfl; have hfz10_0 := blk_frozen BK583.out 0; have hfz10_1 := blk_frozen BK583.out 1; have hfz10_2 := blk_frozen BK583.out 2) | ((with_reducible refine gate_callee (f := 47) rfl ?_); refine goesL_ (some 4) rfl rfl Tryd.func47 (by kernel_rfl) rfl #[.agg #[.int .i64 a0_0, .slice A0_1 l0_1.length c0_1, .bool false]] rfl ka_ ?_; (with_reducible refine (impl_DecOk.calls (hT := ?sideT) a0_0 _ _ l0_1 false true _ ?side1 ?side2 A2.out).mono ?_); (case sideT => first | exact HT.out | exact HT.out.below hs_ | exact HT.out.drawn (by repeat (first | exact Drawn0.refl _ | apply Drawn0.step | assumption))); (case side1 => repeat (first | exact (Kd.C_below HR0_1.out HB.out) | (with_reducible refine Kd.C_alloc ?_ _) | (with_reducible refine Kd.C_drewN ?_ _) | (with_reducible refine Kd.C_drew ?_))); (case side2 => exact HC0_1.out); rintro e w11 ⟨rfl, hb⟩; refine ⟨_, rfl, ?_⟩; have n0_ := Aside0.mk (blk_below (g := gb583) (o := .cells #[.int .i64 a0_0, .slice A0_1 l0_1.length c0_1, .bool false] 46 (0, 0)) (kb_ BK583) hb); have n1_ := Aside0.mk (below_step hs_ hb); clear BK583; clear HB; have BK583 := n0_; have HB := n1_; clear n0_ n1_; try clear hb; have hcz12_0 : w11.cell? ⟨gb583, 0, none⟩ = some (.int .i64 a0_0) := (blk_cell BK583.out 0).trans rfl; have hcz12_1 : w11.cell? ⟨gb583, 1, none⟩ = some (.slice A0_1 l0_1.length c0_1) := (blk_cell BK583.out 1).trans rfl; have hcz12_2 : w11.cell? ⟨gb583, 2, none⟩ = some (.bool false) := (blk_cell BK583.out 2).trans rfl; have hfz12_0 := blk_frozen BK583.out 0; have hfz12_1 := blk_frozen BK583.out 1; have hfz12_2 := blk_frozen BK583.out 2))
   go_ret
   exact ⟨rf_, hs_⟩
 ·replace c3 := Bool.eq_false_iff.mpr c3
  subst c3
  rw [if_neg (show ¬ (false = true) by decide)] at H
  obtain rfl := Option.some.inj H
  go_enter Tryd.func50, Tryd.ntmps50
  go_wp2_with (first | ((with_reducible refine gate_dst (N := 1) rfl ?_); (try (refine gate_guard (by rfl) ?_; dsimp only)); refine box_event ?hg (N := 1) ?hd (cs := #[.int .i64 a0_0, .slice A0_1 l0_1.length c0_1, .bool a0_2]) (t := 46) ?hr ?_; (case hd => rfl); (case hg => rfl); (case hr => first | (go_simp; done) | (go_simp; rfl)); intro gb583 hg w13 hbox hb; have n0_ := Aside0.mk (below_step hb_ hb); have n1_ := Aside0.mk (hbox); have n2_ := Aside0.mk ((by rw [hg]; exact (below_size hb_) : w.heap.size ≤ gb583)); have n3_ := Aside0.mk ((by rw [hg]; exact (below_size hb_) : w.heap.size ≤ gb583)); clear HB; have HB := n0_; have BK583 := n1_; have GW583 := n2_; have GE583 := n3_; clear n0_ n1_ n2_ n3_; clear hb hbox hg; have hcz14_0 : w13.cell? ⟨gb583, 0, none⟩ = some (.int .i64 a0_0) := (blk_cell BK583.out 0).trans rfl; have hcz14_1 : w13.cell? ⟨gb583, 1, none⟩ = some (.slice A0_1 l0_1.length c0_1) := (blk_cell BK583.out 1).trans rfl; have hcz14_2 : w13.cell? ⟨gb583, 2, none⟩ = some (.bool a0_2) := (blk_cell BK583.out 2).trans rfl; have hfz14_0 := blk_frozen BK583.out 0; have hfz14_1 := blk_frozen BK583.out 1; have hfz14_2 := blk_frozen BK583.out 2) | ((with_reducible refine gate_callee (f := 47) rfl ?_); refine goesL_ (some 4) rfl rfl Tryd.func47 (by kernel_rfl) rfl #[.agg #[.int .i64 a0_0, .slice A0_1 l0_1.length c0_1, .bool a0_2]] rfl ka_ ?_; (with_reducible refine (impl_DecOk.calls (hT := ?sideT) a0_0 _ _ l0_1 a0_2 false _ ?side1 ?side2 A2.out).mono ?_); (case sideT => first | exact HT.out | exact HT.out.below hs_ | exact HT.out.drawn (by repeat (first | exact Drawn0.refl _ | apply Drawn0.step | assumption))); (case side1 => repeat (first | exact (Kd.C_below HR0_1.out HB.out) | (with_reducible refine Kd.C_alloc ?_ _) | (with_reducible refine Kd.C_drewN ?_ _) | (with_reducible refine Kd.C_drew ?_))); (case side2 => exact HC0_1.out); rintro e w15 ⟨rfl, hb⟩; refine ⟨_, rfl, ?_⟩; have n0_ := Aside0.mk (blk_below (g := gb583) (o := .cells #[.int .i64 a0_0, .slice A0_1 l0_1.length c0_1, .bool a0_2] 46 (0, 0)) (kb_ BK583) hb); have n1_ := Aside0.mk (below_step hs_ hb); clear BK583; clear HB; have BK583 := n0_; have HB := n1_; clear n0_ n1_; try clear hb))
  go_ret
  exact ⟨rf_, hs_⟩

end Go.Proofs.YtpmimhbnmjffpaaDoor.QFnStreams
