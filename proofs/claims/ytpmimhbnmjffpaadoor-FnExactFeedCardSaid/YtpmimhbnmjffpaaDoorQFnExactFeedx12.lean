/- The functions that a law reaches, each as a plain function, and that Go comes to just its answer: written by the session's program pp.py (the kit's print, with a few rows turned). -/
import Derived.Test.YtpmimhbnmjffpaaDoorQFnExactFeedx0
import Derived.Test.YtpmimhbnmjffpaaDoorQFnExactFeedx1
import Derived.Test.YtpmimhbnmjffpaaDoorQFnExactFeedx6
import Derived.Test.YtpmimhbnmjffpaaDoorQFnExactFeedx7
import Derived.Test.YtpmimhbnmjffpaaDoorQFnExactFeedx10
import Derived.Test.YtpmimhbnmjffpaaDoorQFnExactFeedx11
namespace Go.Proofs.YtpmimhbnmjffpaaDoor.QFnExactFeed
open Go.RowKit Go.Proofs.YtpmimhbnmjffpaaDoorW.PrintWords Go.Proofs.YtpmimhbnmjffpaaDoorW.PrintLast Go.Proofs.YtpmimhbnmjffpaaDoorW.PrintMore Go.Proofs.YtpmimhbnmjffpaaDoor.Xw Go.Proofs.YtpmimhbnmjffpaaDoor.Xs Go.Proofs.YtpmimhbnmjffpaaDoor.Ext
attribute [local go_sem] max2_int min2_int max_two min_two max_three min_three max_four min_four   -- for this text's walks alone
set_option linter.unusedVariables false
set_option linter.unusedSimpArgs false

/-! ### laws_FnExactFeed: function 8 -/
mutual
def laws_FnExactFeed.j0 : Nat → List Int → ByteArray → List Int → ByteArray → Bool → Int → List Int → Bool → Int → List Int → Bool → Int → List Int → Bool → Int → List Int → Bool → Option (Bool)
 | 0, _, _, _, _, _, _, _, _, _, _, _, _, _, _, _, _, _ => none
 | k + 1, x1, x7, x9, x11, x51, x461000, x461001, x461002, x477000, x477001, x477002, x483000, x483001, x483002, x493000, x493001, x493002 => if x51 = true then (some false) else ((laws_toDec.f k x461000 x461001 x461002).bind fun bt494 => ((laws_eqDec.f k x483000 x483001 x483002 bt494.1 bt494.2.1 bt494.2.2).bind fun t499 => (if t499 = true then ((laws_toByteS.f k x1).bind fun t500 => ((laws_eqByteS.f k x9 t500).bind fun t503 => (if t503 = true then ((laws_markDec.f k x483000 x483001 x483002 1).bind fun bt504 => ((laws_markByteS.f k x9 bt504.1).bind fun bt506 => (if bt506.1 < 0 then (laws_FnExactFeed.j1 k x1 x7 true x461000 x461001 x461002 x477000 x477001 x477002 x493000 x493001 x493002) else ((laws_eqDec.f k x493000 x493001 x493002 x477000 x477001 x477002).bind fun t508 => (if t508 = true then (laws_FnExactFeed.j1 k x1 x7 (x11.toList != x7.toList) x461000 x461001 x461002 x477000 x477001 x477002 x493000 x493001 x493002) else (laws_FnExactFeed.j1 k x1 x7 true x461000 x461001 x461002 x477000 x477001 x477002 x493000 x493001 x493002)))))) else (some false)))) else (some false))))
def laws_FnExactFeed.j1 : Nat → List Int → ByteArray → Bool → Int → List Int → Bool → Int → List Int → Bool → Int → List Int → Bool → Option (Bool)
 | 0, _, _, _, _, _, _, _, _, _, _, _, _ => none
 | k + 1, x1, x7, x80, x461000, x461001, x461002, x477000, x477001, x477002, x493000, x493001, x493002 => if x80 = true then (some false) else ((laws_markDec.f k x493000 x493001 x493002 1).bind fun bt509 => ((laws_heldDec.f k x493000 bt509.2 x493002 1).bind fun t511 => (if t511 < 0 then (some false) else (if t511 = bt509.1 then ((laws_toDec.f k x461000 x461001 x461002).bind fun bt512 => ((laws_toByteS.f k x1).bind fun t517 => ((impl_Feed.f k bt512.1 bt512.2.1 bt512.2.2 t517).bind fun bt520 => ((laws_eqDec.f k bt520.1 bt520.2.1 bt520.2.2.1 x477000 x477001 x477002).bind fun t527 => (if t527 = true then (laws_FnExactFeed.j2 k bt509.1 (bt520.2.2.2.toList != x7.toList) x493000 bt509.2 x493002) else (laws_FnExactFeed.j2 k bt509.1 true x493000 bt509.2 x493002)))))) else (some false)))))
def laws_FnExactFeed.j2 : Nat → Int → Bool → Int → List Int → Bool → Option (Bool)
 | 0, _, _, _, _, _ => none
 | k + 1, x13, x108, x493000, x493001, x493002 => if x108 = true then (some false) else ((laws_heldDec.f k x493000 x493001 x493002 1).bind fun t528 => (if t528 < 0 then (some false) else (if t528 = x13 then (some true) else (some false))))
end
def laws_FnExactFeed.f (k : Nat) (a0_0 : Int) (l0_1 : List Int) (a0_2 : Bool) (l1 : List Int) : Option (Bool) := if (l1.length : Int) > 1048576 then (some true) else ((laws_szDec.f a0_0 l0_1 a0_2 1048576).bind fun t461 => (if t461 < 0 then (some true) else ((laws_toDec.f k a0_0 l0_1 a0_2).bind fun bt462 => ((laws_toByteS.f k l1).bind fun t467 => ((spec_Feed.f k bt462.1 bt462.2.1 bt462.2.2 t467).bind fun bt470 => ((laws_toDec.f k a0_0 l0_1 a0_2).bind fun bt477 => ((laws_toByteS.f k l1).bind fun t483 => ((impl_Feed.f k bt477.1 bt477.2.1 bt477.2.2 t483).bind fun bt486 => ((laws_eqDec.f k bt486.1 bt486.2.1 bt486.2.2.1 bt470.1 bt470.2.1 bt470.2.2.1).bind fun t493 => (if t493 = true then (laws_FnExactFeed.j0 k l1 bt470.2.2.2 t483 bt486.2.2.2 (bt486.2.2.2.toList != bt470.2.2.2.toList) a0_0 l0_1 a0_2 bt470.1 bt470.2.1 bt470.2.2.1 bt477.1 bt477.2.1 bt477.2.2 bt486.1 bt486.2.1 bt486.2.2.1) else (laws_FnExactFeed.j0 k l1 bt470.2.2.2 t483 bt486.2.2.2 true a0_0 l0_1 a0_2 bt470.1 bt470.2.1 bt470.2.2.1 bt477.1 bt477.2.1 bt477.2.2 bt486.1 bt486.2.1 bt486.2.2.1)))))))))))
theorem laws_FnExactFeed.mono_l : ∀ k, (∀ y0 y1 y2 y3 y4 y5 y6 y7 y8 y9 y10 y11 y12 y13 y14 y15 y16, LeO (laws_FnExactFeed.j0 k y0 y1 y2 y3 y4 y5 y6 y7 y8 y9 y10 y11 y12 y13 y14 y15 y16) (laws_FnExactFeed.j0 (k + 1) y0 y1 y2 y3 y4 y5 y6 y7 y8 y9 y10 y11 y12 y13 y14 y15 y16)) ∧ (∀ y0 y1 y2 y3 y4 y5 y6 y7 y8 y9 y10 y11, LeO (laws_FnExactFeed.j1 k y0 y1 y2 y3 y4 y5 y6 y7 y8 y9 y10 y11) (laws_FnExactFeed.j1 (k + 1) y0 y1 y2 y3 y4 y5 y6 y7 y8 y9 y10 y11)) ∧ (∀ y0 y1 y2 y3 y4, LeO (laws_FnExactFeed.j2 k y0 y1 y2 y3 y4) (laws_FnExactFeed.j2 (k + 1) y0 y1 y2 y3 y4))
 | 0 => ⟨fun _ _ _ _ _ _ _ _ _ _ _ _ _ _ _ _ _ r h => by simp [laws_FnExactFeed.j0] at h, fun _ _ _ _ _ _ _ _ _ _ _ _ r h => by simp [laws_FnExactFeed.j1] at h, fun _ _ _ _ _ r h => by simp [laws_FnExactFeed.j2] at h⟩
 | k + 1 => by
  obtain ⟨ih0, ih1, ih2⟩ := laws_FnExactFeed.mono_l k
  refine ⟨?_, ?_, ?_⟩
  ·intro y0 y1 y2 y3 y4 y5 y6 y7 y8 y9 y10 y11 y12 y13 y14 y15 y16
   unfold laws_FnExactFeed.j0
   repeat' first
   | (with_reducible exact ih0 _ _ _ _ _ _ _ _ _ _ _ _ _ _ _ _ _)
   | (with_reducible exact ih1 _ _ _ _ _ _ _ _ _ _ _ _)
   | (with_reducible exact ih2 _ _ _ _ _)
   | (with_reducible exact impl_Feed.mono _ _ _ _ _)
   | (with_reducible exact laws_eqByteS.mono _ _ _)
   | (with_reducible exact laws_eqDec.mono _ _ _ _ _ _ _)
   | (with_reducible exact laws_heldDec.mono _ _ _ _ _)
   | (with_reducible exact laws_markByteS.mono _ _ _)
   | (with_reducible exact laws_markDec.mono _ _ _ _ _)
   | (with_reducible exact laws_toByteS.mono _ _)
   | (with_reducible exact laws_toDec.mono _ _ _ _)
   | (with_reducible exact spec_Feed.mono _ _ _ _ _)
   | (with_reducible exact LeO.refl _)
   | (with_reducible exact LeO.none _)
   | (with_reducible refine LeO.ite ?_ ?_)
   | (with_reducible refine LeO.bind ?_ (fun _ => ?_))
   | exact ih0 _ _ _ _ _ _ _ _ _ _ _ _ _ _ _ _ _
   | exact ih1 _ _ _ _ _ _ _ _ _ _ _ _
   | exact ih2 _ _ _ _ _
   | exact impl_Feed.mono _ _ _ _ _
   | exact laws_eqByteS.mono _ _ _
   | exact laws_eqDec.mono _ _ _ _ _ _ _
   | exact laws_heldDec.mono _ _ _ _ _
   | exact laws_markByteS.mono _ _ _
   | exact laws_markDec.mono _ _ _ _ _
   | exact laws_toByteS.mono _ _
   | exact laws_toDec.mono _ _ _ _
   | exact spec_Feed.mono _ _ _ _ _
   | exact LeO.none _
   | refine LeO.ite ?_ ?_
   | refine LeO.bind ?_ (fun _ => ?_)
  ·intro y0 y1 y2 y3 y4 y5 y6 y7 y8 y9 y10 y11
   unfold laws_FnExactFeed.j1
   repeat' first
   | (with_reducible exact ih0 _ _ _ _ _ _ _ _ _ _ _ _ _ _ _ _ _)
   | (with_reducible exact ih1 _ _ _ _ _ _ _ _ _ _ _ _)
   | (with_reducible exact ih2 _ _ _ _ _)
   | (with_reducible exact impl_Feed.mono _ _ _ _ _)
   | (with_reducible exact laws_eqByteS.mono _ _ _)
   | (with_reducible exact laws_eqDec.mono _ _ _ _ _ _ _)
   | (with_reducible exact laws_heldDec.mono _ _ _ _ _)
   | (with_reducible exact laws_markByteS.mono _ _ _)
   | (with_reducible exact laws_markDec.mono _ _ _ _ _)
   | (with_reducible exact laws_toByteS.mono _ _)
   | (with_reducible exact laws_toDec.mono _ _ _ _)
   | (with_reducible exact spec_Feed.mono _ _ _ _ _)
   | (with_reducible exact LeO.refl _)
   | (with_reducible exact LeO.none _)
   | (with_reducible refine LeO.ite ?_ ?_)
   | (with_reducible refine LeO.bind ?_ (fun _ => ?_))
   | exact ih0 _ _ _ _ _ _ _ _ _ _ _ _ _ _ _ _ _
   | exact ih1 _ _ _ _ _ _ _ _ _ _ _ _
   | exact ih2 _ _ _ _ _
   | exact impl_Feed.mono _ _ _ _ _
   | exact laws_eqByteS.mono _ _ _
   | exact laws_eqDec.mono _ _ _ _ _ _ _
   | exact laws_heldDec.mono _ _ _ _ _
   | exact laws_markByteS.mono _ _ _
   | exact laws_markDec.mono _ _ _ _ _
   | exact laws_toByteS.mono _ _
   | exact laws_toDec.mono _ _ _ _
   | exact spec_Feed.mono _ _ _ _ _
   | exact LeO.none _
   | refine LeO.ite ?_ ?_
   | refine LeO.bind ?_ (fun _ => ?_)
  ·intro y0 y1 y2 y3 y4
   unfold laws_FnExactFeed.j2
   repeat' first
   | (with_reducible exact ih0 _ _ _ _ _ _ _ _ _ _ _ _ _ _ _ _ _)
   | (with_reducible exact ih1 _ _ _ _ _ _ _ _ _ _ _ _)
   | (with_reducible exact ih2 _ _ _ _ _)
   | (with_reducible exact impl_Feed.mono _ _ _ _ _)
   | (with_reducible exact laws_eqByteS.mono _ _ _)
   | (with_reducible exact laws_eqDec.mono _ _ _ _ _ _ _)
   | (with_reducible exact laws_heldDec.mono _ _ _ _ _)
   | (with_reducible exact laws_markByteS.mono _ _ _)
   | (with_reducible exact laws_markDec.mono _ _ _ _ _)
   | (with_reducible exact laws_toByteS.mono _ _)
   | (with_reducible exact laws_toDec.mono _ _ _ _)
   | (with_reducible exact spec_Feed.mono _ _ _ _ _)
   | (with_reducible exact LeO.refl _)
   | (with_reducible exact LeO.none _)
   | (with_reducible refine LeO.ite ?_ ?_)
   | (with_reducible refine LeO.bind ?_ (fun _ => ?_))
   | exact ih0 _ _ _ _ _ _ _ _ _ _ _ _ _ _ _ _ _
   | exact ih1 _ _ _ _ _ _ _ _ _ _ _ _
   | exact ih2 _ _ _ _ _
   | exact impl_Feed.mono _ _ _ _ _
   | exact laws_eqByteS.mono _ _ _
   | exact laws_eqDec.mono _ _ _ _ _ _ _
   | exact laws_heldDec.mono _ _ _ _ _
   | exact laws_markByteS.mono _ _ _
   | exact laws_markDec.mono _ _ _ _ _
   | exact laws_toByteS.mono _ _
   | exact laws_toDec.mono _ _ _ _
   | exact spec_Feed.mono _ _ _ _ _
   | exact LeO.none _
   | refine LeO.ite ?_ ?_
   | refine LeO.bind ?_ (fun _ => ?_)
theorem laws_FnExactFeed.mono : ∀ a0 a1 a2 a3 k, LeO (laws_FnExactFeed.f k a0 a1 a2 a3) (laws_FnExactFeed.f (k + 1) a0 a1 a2 a3) := by
 intro a0 a1 a2 a3 k
 obtain ⟨ih0, ih1, ih2⟩ := laws_FnExactFeed.mono_l k
 unfold laws_FnExactFeed.f
 repeat' first
   | (with_reducible exact ih0 _ _ _ _ _ _ _ _ _ _ _ _ _ _ _ _ _)
   | (with_reducible exact ih1 _ _ _ _ _ _ _ _ _ _ _ _)
   | (with_reducible exact ih2 _ _ _ _ _)
   | (with_reducible exact impl_Feed.mono _ _ _ _ _)
   | (with_reducible exact laws_eqByteS.mono _ _ _)
   | (with_reducible exact laws_eqDec.mono _ _ _ _ _ _ _)
   | (with_reducible exact laws_heldDec.mono _ _ _ _ _)
   | (with_reducible exact laws_markByteS.mono _ _ _)
   | (with_reducible exact laws_markDec.mono _ _ _ _ _)
   | (with_reducible exact laws_toByteS.mono _ _)
   | (with_reducible exact laws_toDec.mono _ _ _ _)
   | (with_reducible exact spec_Feed.mono _ _ _ _ _)
   | (with_reducible exact LeO.refl _)
   | (with_reducible exact LeO.none _)
   | (with_reducible refine LeO.ite ?_ ?_)
   | (with_reducible refine LeO.bind ?_ (fun _ => ?_))
   | exact ih0 _ _ _ _ _ _ _ _ _ _ _ _ _ _ _ _ _
   | exact ih1 _ _ _ _ _ _ _ _ _ _ _ _
   | exact ih2 _ _ _ _ _
   | exact impl_Feed.mono _ _ _ _ _
   | exact laws_eqByteS.mono _ _ _
   | exact laws_eqDec.mono _ _ _ _ _ _ _
   | exact laws_heldDec.mono _ _ _ _ _
   | exact laws_markByteS.mono _ _ _
   | exact laws_markDec.mono _ _ _ _ _
   | exact laws_toByteS.mono _ _
   | exact laws_toDec.mono _ _ _ _
   | exact spec_Feed.mono _ _ _ _ _
   | exact LeO.none _
   | refine LeO.ite ?_ ?_
   | refine LeO.bind ?_ (fun _ => ?_)
set_option maxHeartbeats 8000000 in
set_option maxRecDepth 100000 in
theorem laws_FnExactFeed.calls (k : Nat) (a0_0 : Int) (A0_1 : Option Addr) (c0_1 : Nat) (l0_1 : List Int) (a0_2 : Bool) (A1 : Option Addr) (c1 : Nat) (l1 : List Int) (r : Bool) (w : World) (hT : TabsOk w) (hr0_1 : Kd.C (Kd.int .u8) w A0_1 l0_1.length l0_1) (hc0_1 : l0_1.length ≤ c0_1) (hr1 : Kd.C (Kd.int .u8) w A1 l1.length l1) (hc1 : l1.length ≤ c1) (h : laws_FnExactFeed.f k a0_0 l0_1 a0_2 l1 = some r) (hr_ : r = true) :
  Calls Tryd.prog 8 #[.agg #[.int .i64 a0_0, .slice A0_1 l0_1.length c0_1, .bool a0_2], .slice A1 l1.length c1] w fun e w' => e = .returned (.bool r) ∧ Below w.heap.size w w' := by
 have HT := Aside0.mk hT
 clear hT
 have hu44 := Tryd.underlying44
 have hu46 := Tryd.underlying46
 have HR0_1 := Aside0.mk hr0_1
 have HC0_1 := Aside0.mk hc0_1
 clear hr0_1 hc0_1
 have HR1 := Aside0.mk hr1
 have HC1 := Aside0.mk hc1
 clear hr1 hc1
 have HB := Aside0.mk (Below.refl w.heap.size w)
 have H : (if (l1.length : Int) > 1048576 then (some true) else ((laws_szDec.f a0_0 l0_1 a0_2 1048576).bind fun t461 => (if t461 < 0 then (some true) else ((laws_toDec.f k a0_0 l0_1 a0_2).bind fun bt462 => ((laws_toByteS.f k l1).bind fun t467 => ((spec_Feed.f k bt462.1 bt462.2.1 bt462.2.2 t467).bind fun bt470 => ((laws_toDec.f k a0_0 l0_1 a0_2).bind fun bt477 => ((laws_toByteS.f k l1).bind fun t483 => ((impl_Feed.f k bt477.1 bt477.2.1 bt477.2.2 t483).bind fun bt486 => ((laws_eqDec.f k bt486.1 bt486.2.1 bt486.2.2.1 bt470.1 bt470.2.1 bt470.2.2.1).bind fun t493 => (if t493 = true then (laws_FnExactFeed.j0 k l1 bt470.2.2.2 t483 bt486.2.2.2 (bt486.2.2.2.toList != bt470.2.2.2.toList) a0_0 l0_1 a0_2 bt470.1 bt470.2.1 bt470.2.2.1 bt477.1 bt477.2.1 bt477.2.2 bt486.1 bt486.2.1 bt486.2.2.1) else (laws_FnExactFeed.j0 k l1 bt470.2.2.2 t483 bt486.2.2.2 true a0_0 l0_1 a0_2 bt470.1 bt470.2.1 bt470.2.2.1 bt477.1 bt477.2.1 bt477.2.2 bt486.1 bt486.2.1 bt486.2.2.1)))))))))))) = some r := h
 clear h
 by_cases c3 : (l1.length : Int) > 1048576
 ·rw [if_pos c3] at H
  have c3b0 : decide (1048576 < (l1.length : Int)) = true := decide_eq_true c3
  have c3b1 : decide (1048576 < l1.length) = true := decide_eq_true (by omega)
  clear c3
  obtain rfl := Option.some.inj H
  clear hr_
  go_enter Tryd.func8, Tryd.ntmps8
  go_wp2_with (first | ((with_reducible refine gate_dst (N := 2) rfl ?_); refine box_event ?hg (N := 2) ?hd (cs := #[.int .i64 a0_0, .slice A0_1 l0_1.length c0_1, .bool a0_2]) (t := 44) ?hr ?_; (case hd => rfl); (case hg => rfl); (case hr => first | (go_simp; done) | (go_simp; rfl)); intro gb460 hg w4 hbox hb; have n0_ := Aside0.mk (below_step hb_ hb); have n1_ := Aside0.mk (hbox); have n2_ := Aside0.mk ((by rw [hg]; exact (below_size hb_) : w.heap.size ≤ gb460)); have n3_ := Aside0.mk ((by rw [hg]; exact (below_size hb_) : w.heap.size ≤ gb460)); clear HB; have HB := n0_; have BK460 := n1_; have GW460 := n2_; have GE460 := n3_; clear n0_ n1_ n2_ n3_; clear hb hbox hg))
  go_ret
  exact ⟨rf_, hs_⟩
 ·rw [if_neg c3] at H
  have c3b0 : decide (1048576 < (l1.length : Int)) = false := decide_eq_false c3
  have c3b1 : decide (1048576 < l1.length) = false := decide_eq_false (by omega)
  clear c3
  replace H := Option.bind_eq_some_iff.mp H
  obtain ⟨t461, A50, H⟩ := H
  try dsimp only at H
  have A5 := Aside0.mk A50
  clear A50
  by_cases c6 : t461 < 0
  ·rw [if_pos c6] at H
   have c6b0 : decide (t461 < 0) = true := decide_eq_true c6
   clear c6
   obtain rfl := Option.some.inj H
   clear hr_
   go_enter Tryd.func8, Tryd.ntmps8
   go_wp2_with (first | ((with_reducible refine gate_dst (N := 2) rfl ?_); refine box_event ?hg (N := 2) ?hd (cs := #[.int .i64 a0_0, .slice A0_1 l0_1.length c0_1, .bool a0_2]) (t := 44) ?hr ?_; (case hd => rfl); (case hg => rfl); (case hr => first | (go_simp; done) | (go_simp; rfl)); intro gb460 hg w7 hbox hb; have n0_ := Aside0.mk (below_step hb_ hb); have n1_ := Aside0.mk (hbox); have n2_ := Aside0.mk ((by rw [hg]; exact (below_size hb_) : w.heap.size ≤ gb460)); have n3_ := Aside0.mk ((by rw [hg]; exact (below_size hb_) : w.heap.size ≤ gb460)); clear HB; have HB := n0_; have BK460 := n1_; have GW460 := n2_; have GE460 := n3_; clear n0_ n1_ n2_ n3_; clear hb hbox hg; have hcz8_0 : w7.cell? ⟨gb460, 0, none⟩ = some (.int .i64 a0_0) := (blk_cell BK460.out 0).trans rfl; have hcz8_1 : w7.cell? ⟨gb460, 1, none⟩ = some (.slice A0_1 l0_1.length c0_1) := (blk_cell BK460.out 1).trans rfl; have hcz8_2 : w7.cell? ⟨gb460, 2, none⟩ = some (.bool a0_2) := (blk_cell BK460.out 2).trans rfl; have hfz8_0 := blk_frozen BK460.out 0; have hfz8_1 := blk_frozen BK460.out 1; have hfz8_2 := blk_frozen BK460.out 2) | ((with_reducible refine gate_callee (f := 33) rfl ?_); refine goesL_ (some 22) rfl rfl Tryd.func33 (by kernel_rfl) rfl #[.agg #[.int .i64 a0_0, .slice A0_1 l0_1.length c0_1, .bool a0_2], .int .i64 1048576] rfl ka_ ?_; (with_reducible refine (laws_szDec.calls a0_0 _ _ l0_1 a0_2 1048576 t461 _ ?side1 ?side2 A5.out).mono ?_); (case side1 => repeat (first | exact (Kd.C_below HR0_1.out HB.out) | (with_reducible refine Kd.C_alloc ?_ _) | (with_reducible refine Kd.C_drewN ?_ _) | (with_reducible refine Kd.C_drew ?_))); (case side2 => exact HC0_1.out); rintro e w9 ⟨rfl, hb⟩; refine ⟨_, rfl, ?_⟩; have n0_ := Aside0.mk (blk_below (g := gb460) (o := .cells #[.int .i64 a0_0, .slice A0_1 l0_1.length c0_1, .bool a0_2] 44 (0, 0)) (kb_ BK460) hb); have n1_ := Aside0.mk (below_step hs_ hb); clear BK460; clear HB; have BK460 := n0_; have HB := n1_; clear n0_ n1_; try clear hb))
   go_ret
   exact ⟨rf_, hs_⟩
  ·rw [if_neg c6] at H
   have c6b0 : decide (t461 < 0) = false := decide_eq_false c6
   clear c6
   replace H := Option.bind_eq_some_iff.mp H
   obtain ⟨⟨t462, t463, t466⟩, A100, H⟩ := H
   try dsimp only at H
   have A10 := Aside0.mk A100
   clear A100
   replace H := Option.bind_eq_some_iff.mp H
   obtain ⟨t467, A110, H⟩ := H
   try dsimp only at H
   have A11 := Aside0.mk A110
   clear A110
   replace H := Option.bind_eq_some_iff.mp H
   obtain ⟨⟨t470, t471, t474, t475⟩, A120, H⟩ := H
   try dsimp only at H
   have A12 := Aside0.mk A120
   clear A120
   replace H := Option.bind_eq_some_iff.mp H
   obtain ⟨⟨t477, t478, t481⟩, A130, H⟩ := H
   try dsimp only at H
   have A13 := Aside0.mk A130
   clear A130
   replace H := Option.bind_eq_some_iff.mp H
   obtain ⟨t483, A140, H⟩ := H
   try dsimp only at H
   have A14 := Aside0.mk A140
   clear A140
   replace H := Option.bind_eq_some_iff.mp H
   obtain ⟨⟨t486, t487, t490, t491⟩, A150, H⟩ := H
   try dsimp only at H
   have A15 := Aside0.mk A150
   clear A150
   have HC16 := Aside0.mk H
   clear H
   go_enter Tryd.func8, Tryd.ntmps8
   go_upto_region 11 with (first | ((with_reducible refine gate_dst (N := 2) rfl ?_); refine box_event ?hg (N := 2) ?hd (cs := #[.int .i64 a0_0, .slice A0_1 l0_1.length c0_1, .bool a0_2]) (t := 44) ?hr ?_; (case hd => rfl); (case hg => rfl); (case hr => first | (go_simp; done) | (go_simp; rfl)); intro gb460 hg w17 hbox hb; have n0_ := Aside0.mk (below_step hb_ hb); have n1_ := Aside0.mk (hbox); have n2_ := Aside0.mk ((by rw [hg]; exact (below_size hb_) : w.heap.size ≤ gb460)); have n3_ := Aside0.mk ((by rw [hg]; exact (below_size hb_) : w.heap.size ≤ gb460)); clear HB; have HB := n0_; have BK460 := n1_; have GW460 := n2_; have GE460 := n3_; clear n0_ n1_ n2_ n3_; clear hb hbox hg; have hcz18_0 : w17.cell? ⟨gb460, 0, none⟩ = some (.int .i64 a0_0) := (blk_cell BK460.out 0).trans rfl; have hcz18_1 : w17.cell? ⟨gb460, 1, none⟩ = some (.slice A0_1 l0_1.length c0_1) := (blk_cell BK460.out 1).trans rfl; have hcz18_2 : w17.cell? ⟨gb460, 2, none⟩ = some (.bool a0_2) := (blk_cell BK460.out 2).trans rfl; have hfz18_0 := blk_frozen BK460.out 0; have hfz18_1 := blk_frozen BK460.out 1; have hfz18_2 := blk_frozen BK460.out 2) | ((with_reducible refine gate_callee (f := 33) rfl ?_); refine goesL_ (some 22) rfl rfl Tryd.func33 (by kernel_rfl) rfl #[.agg #[.int .i64 a0_0, .slice A0_1 l0_1.length c0_1, .bool a0_2], .int .i64 1048576] rfl ka_ ?_; (with_reducible refine (laws_szDec.calls a0_0 _ _ l0_1 a0_2 1048576 t461 _ ?side1 ?side2 A5.out).mono ?_); (case side1 => repeat (first | exact (Kd.C_below HR0_1.out HB.out) | (with_reducible refine Kd.C_alloc ?_ _) | (with_reducible refine Kd.C_drewN ?_ _) | (with_reducible refine Kd.C_drew ?_))); (case side2 => exact HC0_1.out); rintro e w19 ⟨rfl, hb⟩; refine ⟨_, rfl, ?_⟩; have n0_ := Aside0.mk (blk_below (g := gb460) (o := .cells #[.int .i64 a0_0, .slice A0_1 l0_1.length c0_1, .bool a0_2] 44 (0, 0)) (kb_ BK460) hb); have n1_ := Aside0.mk (below_step hs_ hb); clear BK460; clear HB; have BK460 := n0_; have HB := n1_; clear n0_ n1_; try clear hb; have hcz20_0 : w19.cell? ⟨gb460, 0, none⟩ = some (.int .i64 a0_0) := (blk_cell BK460.out 0).trans rfl; have hcz20_1 : w19.cell? ⟨gb460, 1, none⟩ = some (.slice A0_1 l0_1.length c0_1) := (blk_cell BK460.out 1).trans rfl; have hcz20_2 : w19.cell? ⟨gb460, 2, none⟩ = some (.bool a0_2) := (blk_cell BK460.out 2).trans rfl; have hfz20_0 := blk_frozen BK460.out 0; have hfz20_1 := blk_frozen BK460.out 1; have hfz20_2 := blk_frozen BK460.out 2) | ((with_reducible refine gate_callee (f := 35) rfl ?_); refine goesL_ (some 27) rfl rfl Tryd.func35 (by kernel_rfl) rfl #[.agg #[.int .i64 a0_0, .slice A0_1 l0_1.length c0_1, .bool a0_2]] rfl ka_ ?_; (with_reducible refine (laws_toDec.calls k a0_0 _ _ l0_1 a0_2 t462 t463 t466 _ ?side1 ?side2 A10.out).mono ?_); (case side1 => repeat (first | exact (Kd.C_below HR0_1.out HB.out) | (with_reducible refine Kd.C_alloc ?_ _) | (with_reducible refine Kd.C_drewN ?_ _) | (with_reducible refine Kd.C_drew ?_))); (case side2 => exact HC0_1.out); rintro e w21 ⟨v464, rfl, ho0, hb⟩; refine ⟨_, rfl, ?_⟩; have n0_ := Aside0.mk (Kd.R_lower ho0 (below_size hs_)); have n1_ := Aside0.mk (blk_below (g := gb460) (o := .cells #[.int .i64 a0_0, .slice A0_1 l0_1.length c0_1, .bool a0_2] 44 (0, 0)) (kb_ BK460) hb); have n2_ := Aside0.mk (below_step hs_ hb); clear BK460; clear HB; have HO465 := n0_; have BK460 := n1_; have HB := n2_; clear n0_ n1_ n2_; try clear hb; (try clear ho0)) | ((with_reducible refine gate_callee (f := 31) rfl ?_); refine goesL_ (some 29) rfl rfl Tryd.func31 (by kernel_rfl) rfl #[.slice A1 l1.length c1] rfl ka_ ?_; (with_reducible refine (laws_toByteS.calls k _ _ l1 t467 _ ?side1 ?side2 A11.out).mono ?_); (case side1 => repeat (first | exact (Kd.C_below HR1.out HB.out) | (with_reducible refine Kd.C_alloc ?_ _) | (with_reducible refine Kd.C_drewN ?_ _) | (with_reducible refine Kd.C_drew ?_))); (case side2 => exact HC1.out); rintro e w22 ⟨v468, rfl, ho0, hb⟩; refine ⟨_, rfl, ?_⟩; have n0_ := Aside0.mk (Kd.R_elder' (kr_ HO465) (Kd.R_base ho0) hb); have n1_ := Aside0.mk (Kd.R_lower (Kd.R_new' ho0 (Kd.R_lt (kr_ HO465))) (below_size hs_)); have n2_ := Aside0.mk (blk_below (g := gb460) (o := .cells #[.int .i64 a0_0, .slice A0_1 l0_1.length c0_1, .bool a0_2] 44 (0, 0)) (kb_ BK460) hb); have n3_ := Aside0.mk (below_step hs_ hb); clear HO465; clear BK460; clear HB; have HO465 := n0_; have HO469 := n1_; have BK460 := n2_; have HB := n3_; clear n0_ n1_ n2_ n3_; try clear hb; (try clear ho0); obtain ⟨Ao23, co23, eo23⟩ := Kd.R_slice HO465.out; subst eo23; obtain ⟨Ao24, co24, eo24⟩ := Kd.R_slice HO469.out; subst eo24) | ((with_reducible refine gate_callee (f := 34) rfl ?_); refine goesL_ (some 30) rfl rfl Tryd.func34 (by kernel_rfl) rfl #[.agg #[.int .i64 t462, .slice Ao23 t463.length co23, .bool t466], .slice Ao24 t467.length co24] rfl ka_ ?_; (with_reducible refine (spec_Feed.calls k t462 _ _ t463 t466 _ _ t467 t470 t471 t474 t475 _ ?side1 ?side2 ?side3 ?side4 A12.out).mono ?_); (case side1 => exact kc_ (Kd.R_reads' HO465.out).2.2); (case side2 => exact (Kd.R_reads' HO465.out).2.1); (case side3 => exact kc_ (Kd.R_reads' HO469.out).2.2); (case side4 => exact (Kd.R_reads' HO469.out).2.1); rintro e w25 ⟨v472, rfl, ho0, hb⟩; refine ⟨_, rfl, ?_⟩; have n0_ := Aside0.mk (Kd.R_elder' (kr_ HO465) (Kd.R_base ho0) hb); have n1_ := Aside0.mk (Kd.R_elder' (kr_ HO469) (Kd.R_base ho0) hb); have n2_ := Aside0.mk (Kd.R_lower (Kd.R_new' (Kd.R_new' ho0 (Kd.R_lt (kr_ HO465))) (Kd.R_lt (kr_ HO469))) (below_size hs_)); have n3_ := Aside0.mk (blk_below (g := gb460) (o := .cells #[.int .i64 a0_0, .slice A0_1 l0_1.length c0_1, .bool a0_2] 44 (0, 0)) (kb_ BK460) hb); have n4_ := Aside0.mk (below_step hs_ hb); clear HO465; clear HO469; clear BK460; clear HB; have HO465 := n0_; have HO469 := n1_; have HO473 := n2_; have BK460 := n3_; have HB := n4_; clear n0_ n1_ n2_ n3_ n4_; try clear hb; (try clear ho0)) | ((with_reducible refine gate_dst (N := 6) rfl ?_); refine box_event ?hg (N := 6) ?hd (cs := #[.int .i64 0, .slice none 0 0, .bool false]) (t := 46) ?hr ?_; (case hd => rfl); (case hg => rfl); (case hr => first | (go_simp; done) | (go_simp; rfl)); intro gb476 hg w26 hbox hb; have n0_ := Aside0.mk (Kd.R_below (kr_ HO465) hb); have n1_ := Aside0.mk (Kd.R_below (kr_ HO469) hb); have n2_ := Aside0.mk (Kd.R_below (kr_ HO473) hb); have n3_ := Aside0.mk (blk_below (g := gb460) (o := .cells #[.int .i64 a0_0, .slice A0_1 l0_1.length c0_1, .bool a0_2] 44 (0, 0)) (kb_ BK460) hb); have n4_ := Aside0.mk (below_step hs_ hb); have n5_ := Aside0.mk (hbox); have n6_ := Aside0.mk ((by rw [hg]; exact (below_size hs_) : w.heap.size ≤ gb476)); have n7_ := Aside0.mk ((by rw [hg]; exact (below_size hs_) : w.heap.size ≤ gb476)); have n8_ := Aside0.mk ((by rw [hg]; exact Nat.ne_of_lt (blk_lt (g := gb460) (o := .cells #[.int .i64 a0_0, .slice A0_1 l0_1.length c0_1, .bool a0_2] 44 (0, 0)) (kb_ BK460)) : gb460 ≠ gb476)); have n9_ := Aside0.mk ((by rw [hg]; exact Nat.ne_of_gt (blk_lt (g := gb460) (o := .cells #[.int .i64 a0_0, .slice A0_1 l0_1.length c0_1, .bool a0_2] 44 (0, 0)) (kb_ BK460)) : gb476 ≠ gb460)); clear HO465; clear HO469; clear HO473; clear BK460; clear HB; have HO465 := n0_; have HO469 := n1_; have HO473 := n2_; have BK460 := n3_; have HB := n4_; have BK476 := n5_; have GW476 := n6_; have GE476 := n7_; have NB460_476 := n8_; have NB476_460 := n9_; clear n0_ n1_ n2_ n3_ n4_ n5_ n6_ n7_ n8_ n9_; clear hb hbox hg; have hnb27 := NB476_460.out; have hnc27 := NB460_476.out; have hcz28_0 : w26.cell? ⟨gb476, 0, none⟩ = some (.int .i64 0) := (blk_cell BK476.out 0).trans rfl; have hcz28_1 : w26.cell? ⟨gb476, 1, none⟩ = some (.slice none 0 0) := (blk_cell BK476.out 1).trans rfl; have hcz28_2 : w26.cell? ⟨gb476, 2, none⟩ = some (.bool false) := (blk_cell BK476.out 2).trans rfl; have hfz28_0 := blk_frozen BK476.out 0; have hfz28_1 := blk_frozen BK476.out 1; have hfz28_2 := blk_frozen BK476.out 2; obtain ⟨Ao29, co29, eo29⟩ := Kd.R_slice HO473.out; subst eo29; have hcz30_0 : w26.cell? ⟨gb460, 0, none⟩ = some (.int .i64 a0_0) := (blk_cell BK460.out 0).trans rfl; have hcz30_1 : w26.cell? ⟨gb460, 1, none⟩ = some (.slice A0_1 l0_1.length c0_1) := (blk_cell BK460.out 1).trans rfl; have hcz30_2 : w26.cell? ⟨gb460, 2, none⟩ = some (.bool a0_2) := (blk_cell BK460.out 2).trans rfl; have hfz30_0 := blk_frozen BK460.out 0; have hfz30_1 := blk_frozen BK460.out 1; have hfz30_2 := blk_frozen BK460.out 2) | ((with_reducible refine gate_callee (f := 35) rfl ?_); refine goesL_ (some 34) rfl rfl Tryd.func35 (by kernel_rfl) rfl #[.agg #[.int .i64 a0_0, .slice A0_1 l0_1.length c0_1, .bool a0_2]] rfl ka_ ?_; (with_reducible refine (laws_toDec.calls k a0_0 _ _ l0_1 a0_2 t477 t478 t481 _ ?side1 ?side2 A13.out).mono ?_); (case side1 => exact Kd.C_below HR0_1.out hs_); (case side2 => exact HC0_1.out); rintro e w31 ⟨v479, rfl, ho0, hb⟩; refine ⟨_, rfl, ?_⟩; have n0_ := Aside0.mk (Kd.R_elder' (by (with_reducible repeat (first | apply Kd.R_alloc | apply Kd.R_drewN | apply Kd.R_drew)); exact (Kd.R_mono (Kd.R_far (p := ⟨gb476, 2, none⟩) (Kd.R_far (p := ⟨gb476, 1, none⟩) (Kd.R_far (p := ⟨gb476, 0, none⟩) (Kd.R_types HO465.out BK476.out (by decide)) (fun _ hk => hk.2) (.int .i64 t470)) (fun _ hk => hk.2) (.slice Ao29 t471.length co29)) (fun _ hk => hk.2) (.bool t474)) (fun _ h_ => h_.1))) (Kd.R_base ho0) hb); have n1_ := Aside0.mk (Kd.R_elder' (by (with_reducible repeat (first | apply Kd.R_alloc | apply Kd.R_drewN | apply Kd.R_drew)); exact (Kd.R_mono (Kd.R_far (p := ⟨gb476, 2, none⟩) (Kd.R_far (p := ⟨gb476, 1, none⟩) (Kd.R_far (p := ⟨gb476, 0, none⟩) (Kd.R_types HO469.out BK476.out (by decide)) (fun _ hk => hk.2) (.int .i64 t470)) (fun _ hk => hk.2) (.slice Ao29 t471.length co29)) (fun _ hk => hk.2) (.bool t474)) (fun _ h_ => h_.1))) (Kd.R_base ho0) hb); have n2_ := Aside0.mk (Kd.R_elder' (by (with_reducible repeat (first | apply Kd.R_alloc | apply Kd.R_drewN | apply Kd.R_drew)); exact (Kd.R_mono (Kd.R_far (p := ⟨gb476, 2, none⟩) (Kd.R_far (p := ⟨gb476, 1, none⟩) (Kd.R_far (p := ⟨gb476, 0, none⟩) (Kd.R_types HO473.out BK476.out (by decide)) (fun _ hk => hk.2) (.int .i64 t470)) (fun _ hk => hk.2) (.slice Ao29 t471.length co29)) (fun _ hk => hk.2) (.bool t474)) (fun _ h_ => h_.1))) (Kd.R_base ho0) hb); have n3_ := Aside0.mk (Kd.R_lower (Kd.R_new' (Kd.R_new' (Kd.R_new' ho0 (Kd.R_lt (by (with_reducible repeat (first | apply Kd.R_alloc | apply Kd.R_drewN | apply Kd.R_drew)); exact (Kd.R_mono (Kd.R_far (p := ⟨gb476, 2, none⟩) (Kd.R_far (p := ⟨gb476, 1, none⟩) (Kd.R_far (p := ⟨gb476, 0, none⟩) (Kd.R_types HO465.out BK476.out (by decide)) (fun _ hk => hk.2) (.int .i64 t470)) (fun _ hk => hk.2) (.slice Ao29 t471.length co29)) (fun _ hk => hk.2) (.bool t474)) (fun _ h_ => h_.1))))) (Kd.R_lt (by (with_reducible repeat (first | apply Kd.R_alloc | apply Kd.R_drewN | apply Kd.R_drew)); exact (Kd.R_mono (Kd.R_far (p := ⟨gb476, 2, none⟩) (Kd.R_far (p := ⟨gb476, 1, none⟩) (Kd.R_far (p := ⟨gb476, 0, none⟩) (Kd.R_types HO469.out BK476.out (by decide)) (fun _ hk => hk.2) (.int .i64 t470)) (fun _ hk => hk.2) (.slice Ao29 t471.length co29)) (fun _ hk => hk.2) (.bool t474)) (fun _ h_ => h_.1))))) (Kd.R_lt (by (with_reducible repeat (first | apply Kd.R_alloc | apply Kd.R_drewN | apply Kd.R_drew)); exact (Kd.R_mono (Kd.R_far (p := ⟨gb476, 2, none⟩) (Kd.R_far (p := ⟨gb476, 1, none⟩) (Kd.R_far (p := ⟨gb476, 0, none⟩) (Kd.R_types HO473.out BK476.out (by decide)) (fun _ hk => hk.2) (.int .i64 t470)) (fun _ hk => hk.2) (.slice Ao29 t471.length co29)) (fun _ hk => hk.2) (.bool t474)) (fun _ h_ => h_.1))))) (below_size hs_)); have n4_ := Aside0.mk (blk_below (g := gb460) (o := .cells #[.int .i64 a0_0, .slice A0_1 l0_1.length c0_1, .bool a0_2] 44 (0, 0)) (by (with_reducible repeat (first | refine blk_drewN ?_ _ | refine blk_drew ?_ | refine blk_alloc ?_ _)); refine blk_far ?_ NB460_476.out _; (with_reducible repeat (first | refine blk_drewN ?_ _ | refine blk_drew ?_ | refine blk_alloc ?_ _)); refine blk_far ?_ NB460_476.out _; (with_reducible repeat (first | refine blk_drewN ?_ _ | refine blk_drew ?_ | refine blk_alloc ?_ _)); refine blk_far ?_ NB460_476.out _; (with_reducible repeat (first | refine blk_drewN ?_ _ | refine blk_drew ?_ | refine blk_alloc ?_ _)); exact BK460.out) hb); have n5_ := Aside0.mk (blk_below (g := gb476) (o := .cells #[.int .i64 t470, .slice Ao29 t471.length co29, .bool t474] 46 (0, 0)) (by (with_reducible repeat (first | refine blk_drewN ?_ _ | refine blk_drew ?_ | refine blk_alloc ?_ _)); refine blk_put (cs := #[.int .i64 t470, .slice Ao29 t471.length co29, .bool false]) ?_ 2 _ rfl; (with_reducible repeat (first | refine blk_drewN ?_ _ | refine blk_drew ?_ | refine blk_alloc ?_ _)); refine blk_put (cs := #[.int .i64 t470, .slice none 0 0, .bool false]) ?_ 1 _ rfl; (with_reducible repeat (first | refine blk_drewN ?_ _ | refine blk_drew ?_ | refine blk_alloc ?_ _)); refine blk_put (cs := #[.int .i64 0, .slice none 0 0, .bool false]) ?_ 0 _ rfl; (with_reducible repeat (first | refine blk_drewN ?_ _ | refine blk_drew ?_ | refine blk_alloc ?_ _)); exact BK476.out) hb); have n6_ := Aside0.mk (below_step hs_ hb); clear HO465; clear HO469; clear HO473; clear BK460; clear BK476; clear HB; have HO465 := n0_; have HO469 := n1_; have HO473 := n2_; have HO480 := n3_; have BK460 := n4_; have BK476 := n5_; have HB := n6_; clear n0_ n1_ n2_ n3_ n4_ n5_ n6_; try clear hb; (try clear ho0)) | ((with_reducible refine gate_dst (N := 8) rfl ?_); refine box_event ?hg (N := 8) ?hd (cs := #[.int .i64 0, .slice none 0 0, .bool false]) (t := 46) ?hr ?_; (case hd => rfl); (case hg => rfl); (case hr => first | (go_simp; done) | (go_simp; rfl)); intro gb482 hg w32 hbox hb; have n0_ := Aside0.mk (Kd.R_below (kr_ HO465) hb); have n1_ := Aside0.mk (Kd.R_below (kr_ HO469) hb); have n2_ := Aside0.mk (Kd.R_below (kr_ HO473) hb); have n3_ := Aside0.mk (Kd.R_below (kr_ HO480) hb); have n4_ := Aside0.mk (blk_below (g := gb460) (o := .cells #[.int .i64 a0_0, .slice A0_1 l0_1.length c0_1, .bool a0_2] 44 (0, 0)) (kb_ BK460) hb); have n5_ := Aside0.mk (blk_below (g := gb476) (o := .cells #[.int .i64 t470, .slice Ao29 t471.length co29, .bool t474] 46 (0, 0)) (kb_ BK476) hb); have n6_ := Aside0.mk (below_step hs_ hb); have n7_ := Aside0.mk (hbox); have n8_ := Aside0.mk ((by rw [hg]; exact (below_size hs_) : w.heap.size ≤ gb482)); have n9_ := Aside0.mk ((by rw [hg]; exact (below_size hs_) : w.heap.size ≤ gb482)); have n10_ := Aside0.mk ((by rw [hg]; exact Nat.ne_of_lt (blk_lt (g := gb460) (o := .cells #[.int .i64 a0_0, .slice A0_1 l0_1.length c0_1, .bool a0_2] 44 (0, 0)) (kb_ BK460)) : gb460 ≠ gb482)); have n11_ := Aside0.mk ((by rw [hg]; exact Nat.ne_of_gt (blk_lt (g := gb460) (o := .cells #[.int .i64 a0_0, .slice A0_1 l0_1.length c0_1, .bool a0_2] 44 (0, 0)) (kb_ BK460)) : gb482 ≠ gb460)); have n12_ := Aside0.mk ((by rw [hg]; exact Nat.ne_of_lt (blk_lt (g := gb476) (o := .cells #[.int .i64 t470, .slice Ao29 t471.length co29, .bool t474] 46 (0, 0)) (kb_ BK476)) : gb476 ≠ gb482)); have n13_ := Aside0.mk ((by rw [hg]; exact Nat.ne_of_gt (blk_lt (g := gb476) (o := .cells #[.int .i64 t470, .slice Ao29 t471.length co29, .bool t474] 46 (0, 0)) (kb_ BK476)) : gb482 ≠ gb476)); clear HO465; clear HO469; clear HO473; clear HO480; clear BK460; clear BK476; clear HB; have HO465 := n0_; have HO469 := n1_; have HO473 := n2_; have HO480 := n3_; have BK460 := n4_; have BK476 := n5_; have HB := n6_; have BK482 := n7_; have GW482 := n8_; have GE482 := n9_; have NB460_482 := n10_; have NB482_460 := n11_; have NB476_482 := n12_; have NB482_476 := n13_; clear n0_ n1_ n2_ n3_ n4_ n5_ n6_ n7_ n8_ n9_ n10_ n11_ n12_ n13_; clear hb hbox hg; have hnb33 := NB482_460.out; have hnc33 := NB460_482.out; have hnb34 := NB482_476.out; have hnc34 := NB476_482.out; have hcz35_0 : w32.cell? ⟨gb482, 0, none⟩ = some (.int .i64 0) := (blk_cell BK482.out 0).trans rfl; have hcz35_1 : w32.cell? ⟨gb482, 1, none⟩ = some (.slice none 0 0) := (blk_cell BK482.out 1).trans rfl; have hcz35_2 : w32.cell? ⟨gb482, 2, none⟩ = some (.bool false) := (blk_cell BK482.out 2).trans rfl; have hfz35_0 := blk_frozen BK482.out 0; have hfz35_1 := blk_frozen BK482.out 1; have hfz35_2 := blk_frozen BK482.out 2; obtain ⟨Ao36, co36, eo36⟩ := Kd.R_slice HO480.out; subst eo36) | ((with_reducible refine gate_callee (f := 31) rfl ?_); refine goesL_ (some 36) rfl rfl Tryd.func31 (by kernel_rfl) rfl #[.slice A1 l1.length c1] rfl ka_ ?_; (with_reducible refine (laws_toByteS.calls k _ _ l1 t483 _ ?side1 ?side2 A14.out).mono ?_); (case side1 => exact Kd.C_below HR1.out hs_); (case side2 => exact HC1.out); rintro e w37 ⟨v484, rfl, ho0, hb⟩; refine ⟨_, rfl, ?_⟩; have n0_ := Aside0.mk (Kd.R_elder' (by (with_reducible repeat (first | apply Kd.R_alloc | apply Kd.R_drewN | apply Kd.R_drew)); exact (Kd.R_mono (Kd.R_far (p := ⟨gb482, 2, none⟩) (Kd.R_far (p := ⟨gb482, 1, none⟩) (Kd.R_far (p := ⟨gb482, 0, none⟩) (Kd.R_types HO465.out BK482.out (by decide)) (fun _ hk => hk.2) (.int .i64 t477)) (fun _ hk => hk.2) (.slice Ao36 t478.length co36)) (fun _ hk => hk.2) (.bool t481)) (fun _ h_ => h_.1))) (Kd.R_base ho0) hb); have n1_ := Aside0.mk (Kd.R_elder' (by (with_reducible repeat (first | apply Kd.R_alloc | apply Kd.R_drewN | apply Kd.R_drew)); exact (Kd.R_mono (Kd.R_far (p := ⟨gb482, 2, none⟩) (Kd.R_far (p := ⟨gb482, 1, none⟩) (Kd.R_far (p := ⟨gb482, 0, none⟩) (Kd.R_types HO469.out BK482.out (by decide)) (fun _ hk => hk.2) (.int .i64 t477)) (fun _ hk => hk.2) (.slice Ao36 t478.length co36)) (fun _ hk => hk.2) (.bool t481)) (fun _ h_ => h_.1))) (Kd.R_base ho0) hb); have n2_ := Aside0.mk (Kd.R_elder' (by (with_reducible repeat (first | apply Kd.R_alloc | apply Kd.R_drewN | apply Kd.R_drew)); exact (Kd.R_mono (Kd.R_far (p := ⟨gb482, 2, none⟩) (Kd.R_far (p := ⟨gb482, 1, none⟩) (Kd.R_far (p := ⟨gb482, 0, none⟩) (Kd.R_types HO473.out BK482.out (by decide)) (fun _ hk => hk.2) (.int .i64 t477)) (fun _ hk => hk.2) (.slice Ao36 t478.length co36)) (fun _ hk => hk.2) (.bool t481)) (fun _ h_ => h_.1))) (Kd.R_base ho0) hb); have n3_ := Aside0.mk (Kd.R_elder' (by (with_reducible repeat (first | apply Kd.R_alloc | apply Kd.R_drewN | apply Kd.R_drew)); exact (Kd.R_mono (Kd.R_far (p := ⟨gb482, 2, none⟩) (Kd.R_far (p := ⟨gb482, 1, none⟩) (Kd.R_far (p := ⟨gb482, 0, none⟩) (Kd.R_types HO480.out BK482.out (by decide)) (fun _ hk => hk.2) (.int .i64 t477)) (fun _ hk => hk.2) (.slice Ao36 t478.length co36)) (fun _ hk => hk.2) (.bool t481)) (fun _ h_ => h_.1))) (Kd.R_base ho0) hb); have n4_ := Aside0.mk (Kd.R_lower (Kd.R_new' (Kd.R_new' (Kd.R_new' (Kd.R_new' ho0 (Kd.R_lt (by (with_reducible repeat (first | apply Kd.R_alloc | apply Kd.R_drewN | apply Kd.R_drew)); exact (Kd.R_mono (Kd.R_far (p := ⟨gb482, 2, none⟩) (Kd.R_far (p := ⟨gb482, 1, none⟩) (Kd.R_far (p := ⟨gb482, 0, none⟩) (Kd.R_types HO465.out BK482.out (by decide)) (fun _ hk => hk.2) (.int .i64 t477)) (fun _ hk => hk.2) (.slice Ao36 t478.length co36)) (fun _ hk => hk.2) (.bool t481)) (fun _ h_ => h_.1))))) (Kd.R_lt (by (with_reducible repeat (first | apply Kd.R_alloc | apply Kd.R_drewN | apply Kd.R_drew)); exact (Kd.R_mono (Kd.R_far (p := ⟨gb482, 2, none⟩) (Kd.R_far (p := ⟨gb482, 1, none⟩) (Kd.R_far (p := ⟨gb482, 0, none⟩) (Kd.R_types HO469.out BK482.out (by decide)) (fun _ hk => hk.2) (.int .i64 t477)) (fun _ hk => hk.2) (.slice Ao36 t478.length co36)) (fun _ hk => hk.2) (.bool t481)) (fun _ h_ => h_.1))))) (Kd.R_lt (by (with_reducible repeat (first | apply Kd.R_alloc | apply Kd.R_drewN | apply Kd.R_drew)); exact (Kd.R_mono (Kd.R_far (p := ⟨gb482, 2, none⟩) (Kd.R_far (p := ⟨gb482, 1, none⟩) (Kd.R_far (p := ⟨gb482, 0, none⟩) (Kd.R_types HO473.out BK482.out (by decide)) (fun _ hk => hk.2) (.int .i64 t477)) (fun _ hk => hk.2) (.slice Ao36 t478.length co36)) (fun _ hk => hk.2) (.bool t481)) (fun _ h_ => h_.1))))) (Kd.R_lt (by (with_reducible repeat (first | apply Kd.R_alloc | apply Kd.R_drewN | apply Kd.R_drew)); exact (Kd.R_mono (Kd.R_far (p := ⟨gb482, 2, none⟩) (Kd.R_far (p := ⟨gb482, 1, none⟩) (Kd.R_far (p := ⟨gb482, 0, none⟩) (Kd.R_types HO480.out BK482.out (by decide)) (fun _ hk => hk.2) (.int .i64 t477)) (fun _ hk => hk.2) (.slice Ao36 t478.length co36)) (fun _ hk => hk.2) (.bool t481)) (fun _ h_ => h_.1))))) (below_size hs_)); have n5_ := Aside0.mk (blk_below (g := gb460) (o := .cells #[.int .i64 a0_0, .slice A0_1 l0_1.length c0_1, .bool a0_2] 44 (0, 0)) (by (with_reducible repeat (first | refine blk_drewN ?_ _ | refine blk_drew ?_ | refine blk_alloc ?_ _)); refine blk_far ?_ NB460_482.out _; (with_reducible repeat (first | refine blk_drewN ?_ _ | refine blk_drew ?_ | refine blk_alloc ?_ _)); refine blk_far ?_ NB460_482.out _; (with_reducible repeat (first | refine blk_drewN ?_ _ | refine blk_drew ?_ | refine blk_alloc ?_ _)); refine blk_far ?_ NB460_482.out _; (with_reducible repeat (first | refine blk_drewN ?_ _ | refine blk_drew ?_ | refine blk_alloc ?_ _)); exact BK460.out) hb); have n6_ := Aside0.mk (blk_below (g := gb476) (o := .cells #[.int .i64 t470, .slice Ao29 t471.length co29, .bool t474] 46 (0, 0)) (by (with_reducible repeat (first | refine blk_drewN ?_ _ | refine blk_drew ?_ | refine blk_alloc ?_ _)); refine blk_far ?_ NB476_482.out _; (with_reducible repeat (first | refine blk_drewN ?_ _ | refine blk_drew ?_ | refine blk_alloc ?_ _)); refine blk_far ?_ NB476_482.out _; (with_reducible repeat (first | refine blk_drewN ?_ _ | refine blk_drew ?_ | refine blk_alloc ?_ _)); refine blk_far ?_ NB476_482.out _; (with_reducible repeat (first | refine blk_drewN ?_ _ | refine blk_drew ?_ | refine blk_alloc ?_ _)); exact BK476.out) hb); have n7_ := Aside0.mk (blk_below (g := gb482) (o := .cells #[.int .i64 t477, .slice Ao36 t478.length co36, .bool t481] 46 (0, 0)) (by (with_reducible repeat (first | refine blk_drewN ?_ _ | refine blk_drew ?_ | refine blk_alloc ?_ _)); refine blk_put (cs := #[.int .i64 t477, .slice Ao36 t478.length co36, .bool false]) ?_ 2 _ rfl; (with_reducible repeat (first | refine blk_drewN ?_ _ | refine blk_drew ?_ | refine blk_alloc ?_ _)); refine blk_put (cs := #[.int .i64 t477, .slice none 0 0, .bool false]) ?_ 1 _ rfl; (with_reducible repeat (first | refine blk_drewN ?_ _ | refine blk_drew ?_ | refine blk_alloc ?_ _)); refine blk_put (cs := #[.int .i64 0, .slice none 0 0, .bool false]) ?_ 0 _ rfl; (with_reducible repeat (first | refine blk_drewN ?_ _ | refine blk_drew ?_ | refine blk_alloc ?_ _)); exact BK482.out) hb); have n8_ := Aside0.mk (below_step hs_ hb); clear HO465; clear HO469; clear HO473; clear HO480; clear BK460; clear BK476; clear BK482; clear HB; have HO465 := n0_; have HO469 := n1_; have HO473 := n2_; have HO480 := n3_; have HO485 := n4_; have BK460 := n5_; have BK476 := n6_; have BK482 := n7_; have HB := n8_; clear n0_ n1_ n2_ n3_ n4_ n5_ n6_ n7_ n8_; try clear hb; (try clear ho0); have hcz38_0 : w37.cell? ⟨gb482, 0, none⟩ = some (.int .i64 t477) := (blk_cell BK482.out 0).trans rfl; have hcz38_1 : w37.cell? ⟨gb482, 1, none⟩ = some (.slice Ao36 t478.length co36) := (blk_cell BK482.out 1).trans rfl; have hcz38_2 : w37.cell? ⟨gb482, 2, none⟩ = some (.bool t481) := (blk_cell BK482.out 2).trans rfl; have hfz38_0 := blk_frozen BK482.out 0; have hfz38_1 := blk_frozen BK482.out 1; have hfz38_2 := blk_frozen BK482.out 2; obtain ⟨Ao39, co39, eo39⟩ := Kd.R_slice HO485.out; subst eo39) | ((with_reducible refine gate_callee (f := 36) rfl ?_); refine goesL_ (some 40) rfl rfl Tryd.func36 (by kernel_rfl) rfl #[.agg #[.int .i64 t477, .slice Ao36 t478.length co36, .bool t481], .slice Ao39 t483.length co39] rfl ka_ ?_; (with_reducible refine (impl_Feed.calls (hT := ?sideT) k t477 (fun k_ => some k_ = (.slice Ao36 t478.length co36 : Value).ownBlock) _ _ t478 t481 (fun k_ => some k_ = (.slice Ao39 t483.length co39 : Value).ownBlock) _ _ t483 t486 t487 t490 t491 _ ?side1 ?side2 A15.out).mono ?_); (case sideT => first | exact HT.out | exact HT.out.below hs_ | exact HT.out.drawn (by repeat (first | exact Drawn0.refl _ | apply Drawn0.step | assumption))); (case side1 => exact Kd.R_V (Kd.R_tight rfl (Kd.R_types (Kd.R_types (Kd.R_types (HO480.out) BK460.out (by decide)) BK476.out (by decide)) BK482.out (by decide)))); (case side2 => exact Kd.R_V (Kd.R_tight rfl (Kd.R_types (Kd.R_types (Kd.R_types (HO485.out) BK460.out (by decide)) BK476.out (by decide)) BK482.out (by decide)))); rintro e w40 ⟨v488, rfl, ho0, hb⟩; refine ⟨_, rfl, ?_⟩; have n0_ := Aside0.mk (Kd.R_elder' (kr_ HO465) (Kd.R_base ho0) hb); have n1_ := Aside0.mk (Kd.R_elder' (kr_ HO469) (Kd.R_base ho0) hb); have n2_ := Aside0.mk (Kd.R_elder' (kr_ HO473) (Kd.R_base ho0) hb); have n3_ := Aside0.mk (Kd.R_elder' (kr_ HO480) (Kd.R_base ho0) hb); have n4_ := Aside0.mk (Kd.R_elder' (kr_ HO485) (Kd.R_base ho0) hb); have n5_ := Aside0.mk (Kd.R_lower (Kd.R_new' (Kd.R_new' (Kd.R_new' (Kd.R_new' (Kd.R_new' (Kd.R_mono (ok' := fun k_ => True) ho0 (fun _ hk_ => trivial)) (Kd.R_lt (kr_ HO465))) (Kd.R_lt (kr_ HO469))) (Kd.R_lt (kr_ HO473))) (Kd.R_lt (kr_ HO480))) (Kd.R_lt (kr_ HO485))) (below_size hs_)); have n6_ := Aside0.mk (blk_below (g := gb460) (o := .cells #[.int .i64 a0_0, .slice A0_1 l0_1.length c0_1, .bool a0_2] 44 (0, 0)) (kb_ BK460) hb); have n7_ := Aside0.mk (blk_below (g := gb476) (o := .cells #[.int .i64 t470, .slice Ao29 t471.length co29, .bool t474] 46 (0, 0)) (kb_ BK476) hb); have n8_ := Aside0.mk (blk_below (g := gb482) (o := .cells #[.int .i64 t477, .slice Ao36 t478.length co36, .bool t481] 46 (0, 0)) (kb_ BK482) hb); have n9_ := Aside0.mk (below_step hs_ hb); clear HO465; clear HO469; clear HO473; clear HO480; clear HO485; clear BK460; clear BK476; clear BK482; clear HB; have HO465 := n0_; have HO469 := n1_; have HO473 := n2_; have HO480 := n3_; have HO485 := n4_; have HO489 := n5_; have BK460 := n6_; have BK476 := n7_; have BK482 := n8_; have HB := n9_; clear n0_ n1_ n2_ n3_ n4_ n5_ n6_ n7_ n8_ n9_; try clear hb; (try clear ho0)) | ((with_reducible refine gate_dst (N := 10) rfl ?_); refine box_event ?hg (N := 10) ?hd (cs := #[.int .i64 0, .slice none 0 0, .bool false]) (t := 46) ?hr ?_; (case hd => rfl); (case hg => rfl); (case hr => first | (go_simp; done) | (go_simp; rfl)); intro gb492 hg w41 hbox hb; have n0_ := Aside0.mk (Kd.R_below (kr_ HO465) hb); have n1_ := Aside0.mk (Kd.R_below (kr_ HO469) hb); have n2_ := Aside0.mk (Kd.R_below (kr_ HO473) hb); have n3_ := Aside0.mk (Kd.R_below (kr_ HO480) hb); have n4_ := Aside0.mk (Kd.R_below (kr_ HO485) hb); have n5_ := Aside0.mk (Kd.R_below (kr_ HO489) hb); have n6_ := Aside0.mk (blk_below (g := gb460) (o := .cells #[.int .i64 a0_0, .slice A0_1 l0_1.length c0_1, .bool a0_2] 44 (0, 0)) (kb_ BK460) hb); have n7_ := Aside0.mk (blk_below (g := gb476) (o := .cells #[.int .i64 t470, .slice Ao29 t471.length co29, .bool t474] 46 (0, 0)) (kb_ BK476) hb); have n8_ := Aside0.mk (blk_below (g := gb482) (o := .cells #[.int .i64 t477, .slice Ao36 t478.length co36, .bool t481] 46 (0, 0)) (kb_ BK482) hb); have n9_ := Aside0.mk (below_step hs_ hb); have n10_ := Aside0.mk (hbox); have n11_ := Aside0.mk ((by rw [hg]; exact (below_size hs_) : w.heap.size ≤ gb492)); have n12_ := Aside0.mk ((by rw [hg]; exact (below_size hs_) : w.heap.size ≤ gb492)); have n13_ := Aside0.mk ((by rw [hg]; exact Nat.ne_of_lt (blk_lt (g := gb460) (o := .cells #[.int .i64 a0_0, .slice A0_1 l0_1.length c0_1, .bool a0_2] 44 (0, 0)) (kb_ BK460)) : gb460 ≠ gb492)); have n14_ := Aside0.mk ((by rw [hg]; exact Nat.ne_of_gt (blk_lt (g := gb460) (o := .cells #[.int .i64 a0_0, .slice A0_1 l0_1.length c0_1, .bool a0_2] 44 (0, 0)) (kb_ BK460)) : gb492 ≠ gb460)); have n15_ := Aside0.mk ((by rw [hg]; exact Nat.ne_of_lt (blk_lt (g := gb476) (o := .cells #[.int .i64 t470, .slice Ao29 t471.length co29, .bool t474] 46 (0, 0)) (kb_ BK476)) : gb476 ≠ gb492)); have n16_ := Aside0.mk ((by rw [hg]; exact Nat.ne_of_gt (blk_lt (g := gb476) (o := .cells #[.int .i64 t470, .slice Ao29 t471.length co29, .bool t474] 46 (0, 0)) (kb_ BK476)) : gb492 ≠ gb476)); have n17_ := Aside0.mk ((by rw [hg]; exact Nat.ne_of_lt (blk_lt (g := gb482) (o := .cells #[.int .i64 t477, .slice Ao36 t478.length co36, .bool t481] 46 (0, 0)) (kb_ BK482)) : gb482 ≠ gb492)); have n18_ := Aside0.mk ((by rw [hg]; exact Nat.ne_of_gt (blk_lt (g := gb482) (o := .cells #[.int .i64 t477, .slice Ao36 t478.length co36, .bool t481] 46 (0, 0)) (kb_ BK482)) : gb492 ≠ gb482)); clear HO465; clear HO469; clear HO473; clear HO480; clear HO485; clear HO489; clear BK460; clear BK476; clear BK482; clear HB; have HO465 := n0_; have HO469 := n1_; have HO473 := n2_; have HO480 := n3_; have HO485 := n4_; have HO489 := n5_; have BK460 := n6_; have BK476 := n7_; have BK482 := n8_; have HB := n9_; have BK492 := n10_; have GW492 := n11_; have GE492 := n12_; have NB460_492 := n13_; have NB492_460 := n14_; have NB476_492 := n15_; have NB492_476 := n16_; have NB482_492 := n17_; have NB492_482 := n18_; clear n0_ n1_ n2_ n3_ n4_ n5_ n6_ n7_ n8_ n9_ n10_ n11_ n12_ n13_ n14_ n15_ n16_ n17_ n18_; clear hb hbox hg; have hnb42 := NB492_460.out; have hnc42 := NB460_492.out; have hnb43 := NB492_476.out; have hnc43 := NB476_492.out; have hnb44 := NB492_482.out; have hnc44 := NB482_492.out; have hcz45_0 : w41.cell? ⟨gb492, 0, none⟩ = some (.int .i64 0) := (blk_cell BK492.out 0).trans rfl; have hcz45_1 : w41.cell? ⟨gb492, 1, none⟩ = some (.slice none 0 0) := (blk_cell BK492.out 1).trans rfl; have hcz45_2 : w41.cell? ⟨gb492, 2, none⟩ = some (.bool false) := (blk_cell BK492.out 2).trans rfl; have hfz45_0 := blk_frozen BK492.out 0; have hfz45_1 := blk_frozen BK492.out 1; have hfz45_2 := blk_frozen BK492.out 2; obtain ⟨Ao46, co46, eo46⟩ := Kd.R_slice HO489.out; subst eo46))
   (try simp only [Act.put, List.setIfInBounds_toArray, List.set_cons_zero, List.set_cons_succ])
   go_cut [51] (fun v51 wc => ∃ (kq : Nat) (x51_15 : Bool), v51 = .bool x51_15 ∧ Aside0 (laws_FnExactFeed.j0 kq l1 t475 t483 t491 x51_15 a0_0 l0_1 a0_2 t470 t471 t474 t477 t478 t481 t486 t487 t490 = some r) ∧ Aside0 (kq ≤ k) ∧ Aside0 (Kd.R (Kd.int .u8) 5 wc w.heap.size (fun k_ => some k_ ≠ ((.slice Ao29 t471.length co29) : Value).ownBlock ∧ some k_ ≠ ((.slice Ao36 t478.length co36) : Value).ownBlock ∧ some k_ ≠ ((.slice Ao46 t487.length co46) : Value).ownBlock) (.slice Ao39 t483.length co39) t483) ∧ Aside0 (Kd.R (Kd.int .u8) 5 wc w.heap.size (fun k_ => some k_ ≠ ((.slice Ao39 t483.length co39) : Value).ownBlock ∧ some k_ ≠ ((.slice Ao36 t478.length co36) : Value).ownBlock ∧ some k_ ≠ ((.slice Ao46 t487.length co46) : Value).ownBlock) (.slice Ao29 t471.length co29) t471) ∧ Aside0 (Kd.R (Kd.int .u8) 5 wc w.heap.size (fun k_ => some k_ ≠ ((.slice Ao39 t483.length co39) : Value).ownBlock ∧ some k_ ≠ ((.slice Ao29 t471.length co29) : Value).ownBlock ∧ some k_ ≠ ((.slice Ao46 t487.length co46) : Value).ownBlock) (.slice Ao36 t478.length co36) t478) ∧ Aside0 (Kd.R (Kd.int .u8) 5 wc w.heap.size (fun k_ => some k_ ≠ ((.slice Ao39 t483.length co39) : Value).ownBlock ∧ some k_ ≠ ((.slice Ao29 t471.length co29) : Value).ownBlock ∧ some k_ ≠ ((.slice Ao36 t478.length co36) : Value).ownBlock) (.slice Ao46 t487.length co46) t487) ∧ Aside0 (wc.heap[gb460]? = some (.cells #[.int .i64 a0_0, (.slice A0_1 l0_1.length c0_1), .bool a0_2] 44 (0, 0))) ∧ Aside0 (wc.heap[gb476]? = some (.cells #[.int .i64 t470, (.slice Ao29 t471.length co29), .bool t474] 46 (0, 0))) ∧ Aside0 (wc.heap[gb482]? = some (.cells #[.int .i64 t477, (.slice Ao36 t478.length co36), .bool t481] 46 (0, 0))) ∧ Aside0 (wc.heap[gb492]? = some (.cells #[.int .i64 t486, (.slice Ao46 t487.length co46), .bool t490] 46 (0, 0))) ∧ Aside0 (Below w.heap.size w wc))
   case first =>
    have H := HC16.out
    clear HC16
    replace H := Option.bind_eq_some_iff.mp H
    obtain ⟨t493, A470, H⟩ := H
    try dsimp only at H
    have A47 := Aside0.mk A470
    clear A470
    by_cases c48 : t493 = true
    ·subst c48
     rw [if_pos rfl] at H
     have H' := Aside0.mk H
     clear H
     have hnb49 := NB492_460.out
     have hnc49 := NB460_492.out
     have hnb50 := NB492_476.out
     have hnc50 := NB476_492.out
     have hnb51 := NB492_482.out
     have hnc51 := NB482_492.out
     have hcz52_0 : w41.cell? ⟨gb492, 0, none⟩ = some (.int .i64 0) := (blk_cell BK492.out 0).trans rfl
     have hcz52_1 : w41.cell? ⟨gb492, 1, none⟩ = some (.slice none 0 0) := (blk_cell BK492.out 1).trans rfl
     have hcz52_2 : w41.cell? ⟨gb492, 2, none⟩ = some (.bool false) := (blk_cell BK492.out 2).trans rfl
     have hfz52_0 := blk_frozen BK492.out 0
     have hfz52_1 := blk_frozen BK492.out 1
     have hfz52_2 := blk_frozen BK492.out 2
     have hnb53 := NB476_460.out
     have hnc53 := NB460_476.out
     have hnb54 := NB476_482.out
     have hnc54 := NB482_476.out
     have hcz55_0 : w41.cell? ⟨gb476, 0, none⟩ = some (.int .i64 t470) := (blk_cell BK476.out 0).trans rfl
     have hcz55_1 : w41.cell? ⟨gb476, 1, none⟩ = some (.slice Ao29 t471.length co29) := (blk_cell BK476.out 1).trans rfl
     have hcz55_2 : w41.cell? ⟨gb476, 2, none⟩ = some (.bool t474) := (blk_cell BK476.out 2).trans rfl
     have hfz55_0 := blk_frozen BK476.out 0
     have hfz55_1 := blk_frozen BK476.out 1
     have hfz55_2 := blk_frozen BK476.out 2
     go_wp2_with (first | ((with_reducible refine gate_callee (f := 37) rfl ?_); refine goesL_ (some 45) rfl rfl Tryd.func37 (by kernel_rfl) rfl #[.agg #[.int .i64 t486, .slice Ao46 t487.length co46, .bool t490], .agg #[.int .i64 t470, .slice Ao29 t471.length co29, .bool t474]] rfl ka_ ?_; (with_reducible refine (laws_eqDec.calls k t486 _ _ t487 t490 t470 _ _ t471 t474 true _ ?side1 ?side2 ?side3 ?side4 A47.out).mono ?_); (case side1 => refine (Kd.R_reads' (e := 5) (base := w.heap.size) (ok := fun k_ => (((((True ∧ some k_ ≠ (.slice Ao23 t463.length co23 : Value).ownBlock) ∧ some k_ ≠ (.slice Ao24 t467.length co24 : Value).ownBlock) ∧ some k_ ≠ (.slice Ao29 t471.length co29 : Value).ownBlock) ∧ some k_ ≠ (.slice Ao36 t478.length co36 : Value).ownBlock) ∧ some k_ ≠ (.slice Ao39 t483.length co39 : Value).ownBlock)) (n := t487.length) (c := co46) ?_).2.2; exact (by (with_reducible repeat (first | apply Kd.R_alloc | apply Kd.R_drewN | apply Kd.R_drew)); exact (Kd.R_mono (Kd.R_far (p := ⟨gb492, 2, none⟩) (Kd.R_far (p := ⟨gb492, 1, none⟩) (Kd.R_far (p := ⟨gb492, 0, none⟩) (Kd.R_types HO489.out BK492.out (by decide)) (fun _ hk => hk.2) (.int .i64 t486)) (fun _ hk => hk.2) (.slice Ao46 t487.length co46)) (fun _ hk => hk.2) (.bool t490)) (fun _ h_ => h_.1)))); (case side2 => exact (Kd.R_reads' HO489.out).2.1); (case side3 => refine (Kd.R_reads' (e := 5) (base := w.heap.size) (ok := fun k_ => (((((True ∧ some k_ ≠ (.slice Ao23 t463.length co23 : Value).ownBlock) ∧ some k_ ≠ (.slice Ao24 t467.length co24 : Value).ownBlock) ∧ some k_ ≠ (.slice Ao36 t478.length co36 : Value).ownBlock) ∧ some k_ ≠ (.slice Ao39 t483.length co39 : Value).ownBlock) ∧ some k_ ≠ (.slice Ao46 t487.length co46 : Value).ownBlock)) (n := t471.length) (c := co29) ?_).2.2; exact (by (with_reducible repeat (first | apply Kd.R_alloc | apply Kd.R_drewN | apply Kd.R_drew)); exact (Kd.R_mono (Kd.R_far (p := ⟨gb492, 2, none⟩) (Kd.R_far (p := ⟨gb492, 1, none⟩) (Kd.R_far (p := ⟨gb492, 0, none⟩) (Kd.R_types HO473.out BK492.out (by decide)) (fun _ hk => hk.2) (.int .i64 t486)) (fun _ hk => hk.2) (.slice Ao46 t487.length co46)) (fun _ hk => hk.2) (.bool t490)) (fun _ h_ => h_.1)))); (case side4 => exact (Kd.R_reads' HO473.out).2.1); rintro e w56 ⟨rfl, hb⟩; refine ⟨_, rfl, ?_⟩; have n0_ := Aside0.mk (Kd.R_below (by (with_reducible repeat (first | apply Kd.R_alloc | apply Kd.R_drewN | apply Kd.R_drew)); exact (Kd.R_mono (Kd.R_far (p := ⟨gb492, 2, none⟩) (Kd.R_far (p := ⟨gb492, 1, none⟩) (Kd.R_far (p := ⟨gb492, 0, none⟩) (Kd.R_types HO465.out BK492.out (by decide)) (fun _ hk => hk.2) (.int .i64 t486)) (fun _ hk => hk.2) (.slice Ao46 t487.length co46)) (fun _ hk => hk.2) (.bool t490)) (fun _ h_ => h_.1))) hb); have n1_ := Aside0.mk (Kd.R_below (by (with_reducible repeat (first | apply Kd.R_alloc | apply Kd.R_drewN | apply Kd.R_drew)); exact (Kd.R_mono (Kd.R_far (p := ⟨gb492, 2, none⟩) (Kd.R_far (p := ⟨gb492, 1, none⟩) (Kd.R_far (p := ⟨gb492, 0, none⟩) (Kd.R_types HO469.out BK492.out (by decide)) (fun _ hk => hk.2) (.int .i64 t486)) (fun _ hk => hk.2) (.slice Ao46 t487.length co46)) (fun _ hk => hk.2) (.bool t490)) (fun _ h_ => h_.1))) hb); have n2_ := Aside0.mk (Kd.R_below (by (with_reducible repeat (first | apply Kd.R_alloc | apply Kd.R_drewN | apply Kd.R_drew)); exact (Kd.R_mono (Kd.R_far (p := ⟨gb492, 2, none⟩) (Kd.R_far (p := ⟨gb492, 1, none⟩) (Kd.R_far (p := ⟨gb492, 0, none⟩) (Kd.R_types HO473.out BK492.out (by decide)) (fun _ hk => hk.2) (.int .i64 t486)) (fun _ hk => hk.2) (.slice Ao46 t487.length co46)) (fun _ hk => hk.2) (.bool t490)) (fun _ h_ => h_.1))) hb); have n3_ := Aside0.mk (Kd.R_below (by (with_reducible repeat (first | apply Kd.R_alloc | apply Kd.R_drewN | apply Kd.R_drew)); exact (Kd.R_mono (Kd.R_far (p := ⟨gb492, 2, none⟩) (Kd.R_far (p := ⟨gb492, 1, none⟩) (Kd.R_far (p := ⟨gb492, 0, none⟩) (Kd.R_types HO480.out BK492.out (by decide)) (fun _ hk => hk.2) (.int .i64 t486)) (fun _ hk => hk.2) (.slice Ao46 t487.length co46)) (fun _ hk => hk.2) (.bool t490)) (fun _ h_ => h_.1))) hb); have n4_ := Aside0.mk (Kd.R_below (by (with_reducible repeat (first | apply Kd.R_alloc | apply Kd.R_drewN | apply Kd.R_drew)); exact (Kd.R_mono (Kd.R_far (p := ⟨gb492, 2, none⟩) (Kd.R_far (p := ⟨gb492, 1, none⟩) (Kd.R_far (p := ⟨gb492, 0, none⟩) (Kd.R_types HO485.out BK492.out (by decide)) (fun _ hk => hk.2) (.int .i64 t486)) (fun _ hk => hk.2) (.slice Ao46 t487.length co46)) (fun _ hk => hk.2) (.bool t490)) (fun _ h_ => h_.1))) hb); have n5_ := Aside0.mk (Kd.R_below (by (with_reducible repeat (first | apply Kd.R_alloc | apply Kd.R_drewN | apply Kd.R_drew)); exact (Kd.R_mono (Kd.R_far (p := ⟨gb492, 2, none⟩) (Kd.R_far (p := ⟨gb492, 1, none⟩) (Kd.R_far (p := ⟨gb492, 0, none⟩) (Kd.R_types HO489.out BK492.out (by decide)) (fun _ hk => hk.2) (.int .i64 t486)) (fun _ hk => hk.2) (.slice Ao46 t487.length co46)) (fun _ hk => hk.2) (.bool t490)) (fun _ h_ => h_.1))) hb); have n6_ := Aside0.mk (blk_below (g := gb460) (o := .cells #[.int .i64 a0_0, .slice A0_1 l0_1.length c0_1, .bool a0_2] 44 (0, 0)) (by (with_reducible repeat (first | refine blk_drewN ?_ _ | refine blk_drew ?_ | refine blk_alloc ?_ _)); refine blk_far ?_ NB460_492.out _; (with_reducible repeat (first | refine blk_drewN ?_ _ | refine blk_drew ?_ | refine blk_alloc ?_ _)); refine blk_far ?_ NB460_492.out _; (with_reducible repeat (first | refine blk_drewN ?_ _ | refine blk_drew ?_ | refine blk_alloc ?_ _)); refine blk_far ?_ NB460_492.out _; (with_reducible repeat (first | refine blk_drewN ?_ _ | refine blk_drew ?_ | refine blk_alloc ?_ _)); exact BK460.out) hb); have n7_ := Aside0.mk (blk_below (g := gb476) (o := .cells #[.int .i64 t470, .slice Ao29 t471.length co29, .bool t474] 46 (0, 0)) (by (with_reducible repeat (first | refine blk_drewN ?_ _ | refine blk_drew ?_ | refine blk_alloc ?_ _)); refine blk_far ?_ NB476_492.out _; (with_reducible repeat (first | refine blk_drewN ?_ _ | refine blk_drew ?_ | refine blk_alloc ?_ _)); refine blk_far ?_ NB476_492.out _; (with_reducible repeat (first | refine blk_drewN ?_ _ | refine blk_drew ?_ | refine blk_alloc ?_ _)); refine blk_far ?_ NB476_492.out _; (with_reducible repeat (first | refine blk_drewN ?_ _ | refine blk_drew ?_ | refine blk_alloc ?_ _)); exact BK476.out) hb); have n8_ := Aside0.mk (blk_below (g := gb482) (o := .cells #[.int .i64 t477, .slice Ao36 t478.length co36, .bool t481] 46 (0, 0)) (by (with_reducible repeat (first | refine blk_drewN ?_ _ | refine blk_drew ?_ | refine blk_alloc ?_ _)); refine blk_far ?_ NB482_492.out _; (with_reducible repeat (first | refine blk_drewN ?_ _ | refine blk_drew ?_ | refine blk_alloc ?_ _)); refine blk_far ?_ NB482_492.out _; (with_reducible repeat (first | refine blk_drewN ?_ _ | refine blk_drew ?_ | refine blk_alloc ?_ _)); refine blk_far ?_ NB482_492.out _; (with_reducible repeat (first | refine blk_drewN ?_ _ | refine blk_drew ?_ | refine blk_alloc ?_ _)); exact BK482.out) hb); have n9_ := Aside0.mk (blk_below (g := gb492) (o := .cells #[.int .i64 t486, .slice Ao46 t487.length co46, .bool t490] 46 (0, 0)) (by (with_reducible repeat (first | refine blk_drewN ?_ _ | refine blk_drew ?_ | refine blk_alloc ?_ _)); refine blk_put (cs := #[.int .i64 t486, .slice Ao46 t487.length co46, .bool false]) ?_ 2 _ rfl; (with_reducible repeat (first | refine blk_drewN ?_ _ | refine blk_drew ?_ | refine blk_alloc ?_ _)); refine blk_put (cs := #[.int .i64 t486, .slice none 0 0, .bool false]) ?_ 1 _ rfl; (with_reducible repeat (first | refine blk_drewN ?_ _ | refine blk_drew ?_ | refine blk_alloc ?_ _)); refine blk_put (cs := #[.int .i64 0, .slice none 0 0, .bool false]) ?_ 0 _ rfl; (with_reducible repeat (first | refine blk_drewN ?_ _ | refine blk_drew ?_ | refine blk_alloc ?_ _)); exact BK492.out) hb); have n10_ := Aside0.mk (below_step hs_ hb); clear HO465; clear HO469; clear HO473; clear HO480; clear HO485; clear HO489; clear BK460; clear BK476; clear BK482; clear BK492; clear HB; have HO465 := n0_; have HO469 := n1_; have HO473 := n2_; have HO480 := n3_; have HO485 := n4_; have HO489 := n5_; have BK460 := n6_; have BK476 := n7_; have BK482 := n8_; have BK492 := n9_; have HB := n10_; clear n0_ n1_ n2_ n3_ n4_ n5_ n6_ n7_ n8_ n9_ n10_; try clear hb))
     go_meet
     case rel => exact ⟨_, ((t491.toList != t475.toList)), (by first | rfl | (simp; done) | (simp [*]; done)), H', ⟨by first | omega | exact Nat.le_refl _⟩, ⟨by (with_reducible repeat (first | apply Kd.R_alloc | apply Kd.R_drewN | apply Kd.R_drew)); exact Kd.R_mono HO485.out (fun _ hk => ⟨hk.1.1.2, ⟨hk.1.2, hk.2⟩⟩)⟩, ⟨by (with_reducible repeat (first | apply Kd.R_alloc | apply Kd.R_drewN | apply Kd.R_drew)); exact Kd.R_mono HO473.out (fun _ hk => ⟨hk.1.2, ⟨hk.1.1.2, hk.2⟩⟩)⟩, ⟨by (with_reducible repeat (first | apply Kd.R_alloc | apply Kd.R_drewN | apply Kd.R_drew)); exact Kd.R_mono HO480.out (fun _ hk => ⟨hk.1.2, ⟨hk.1.1.2, hk.2⟩⟩)⟩, ⟨by (with_reducible repeat (first | apply Kd.R_alloc | apply Kd.R_drewN | apply Kd.R_drew)); exact Kd.R_mono HO489.out (fun _ hk => ⟨hk.2, ⟨hk.1.1.2, hk.1.2⟩⟩)⟩, ⟨by (with_reducible repeat (first | refine blk_drewN ?_ _ | refine blk_drew ?_ | refine blk_alloc ?_ _)); exact BK460.out⟩, ⟨by (with_reducible repeat (first | refine blk_drewN ?_ _ | refine blk_drew ?_ | refine blk_alloc ?_ _)); exact BK476.out⟩, ⟨by (with_reducible repeat (first | refine blk_drewN ?_ _ | refine blk_drew ?_ | refine blk_alloc ?_ _)); exact BK482.out⟩, ⟨by (with_reducible repeat (first | refine blk_drewN ?_ _ | refine blk_drew ?_ | refine blk_alloc ?_ _)); exact BK492.out⟩, ⟨by repeat (first | (with_reducible first | exact HB.out | apply below_alloc | apply pw_below_drewN | apply below_drew1 | refine below_set ?_ GE460.out | refine below_set ?_ GE476.out | refine below_set ?_ GE482.out | refine below_set ?_ GE492.out) | exact HB.out)⟩⟩
    ·replace c48 := Bool.eq_false_iff.mpr c48
     subst c48
     rw [if_neg (show ¬ (false = true) by decide)] at H
     have H' := Aside0.mk H
     clear H
     have hnb57 := NB492_460.out
     have hnc57 := NB460_492.out
     have hnb58 := NB492_476.out
     have hnc58 := NB476_492.out
     have hnb59 := NB492_482.out
     have hnc59 := NB482_492.out
     have hcz60_0 : w41.cell? ⟨gb492, 0, none⟩ = some (.int .i64 0) := (blk_cell BK492.out 0).trans rfl
     have hcz60_1 : w41.cell? ⟨gb492, 1, none⟩ = some (.slice none 0 0) := (blk_cell BK492.out 1).trans rfl
     have hcz60_2 : w41.cell? ⟨gb492, 2, none⟩ = some (.bool false) := (blk_cell BK492.out 2).trans rfl
     have hfz60_0 := blk_frozen BK492.out 0
     have hfz60_1 := blk_frozen BK492.out 1
     have hfz60_2 := blk_frozen BK492.out 2
     have hnb61 := NB476_460.out
     have hnc61 := NB460_476.out
     have hnb62 := NB476_482.out
     have hnc62 := NB482_476.out
     have hcz63_0 : w41.cell? ⟨gb476, 0, none⟩ = some (.int .i64 t470) := (blk_cell BK476.out 0).trans rfl
     have hcz63_1 : w41.cell? ⟨gb476, 1, none⟩ = some (.slice Ao29 t471.length co29) := (blk_cell BK476.out 1).trans rfl
     have hcz63_2 : w41.cell? ⟨gb476, 2, none⟩ = some (.bool t474) := (blk_cell BK476.out 2).trans rfl
     have hfz63_0 := blk_frozen BK476.out 0
     have hfz63_1 := blk_frozen BK476.out 1
     have hfz63_2 := blk_frozen BK476.out 2
     go_wp2_with (first | ((with_reducible refine gate_callee (f := 37) rfl ?_); refine goesL_ (some 45) rfl rfl Tryd.func37 (by kernel_rfl) rfl #[.agg #[.int .i64 t486, .slice Ao46 t487.length co46, .bool t490], .agg #[.int .i64 t470, .slice Ao29 t471.length co29, .bool t474]] rfl ka_ ?_; (with_reducible refine (laws_eqDec.calls k t486 _ _ t487 t490 t470 _ _ t471 t474 false _ ?side1 ?side2 ?side3 ?side4 A47.out).mono ?_); (case side1 => refine (Kd.R_reads' (e := 5) (base := w.heap.size) (ok := fun k_ => (((((True ∧ some k_ ≠ (.slice Ao23 t463.length co23 : Value).ownBlock) ∧ some k_ ≠ (.slice Ao24 t467.length co24 : Value).ownBlock) ∧ some k_ ≠ (.slice Ao29 t471.length co29 : Value).ownBlock) ∧ some k_ ≠ (.slice Ao36 t478.length co36 : Value).ownBlock) ∧ some k_ ≠ (.slice Ao39 t483.length co39 : Value).ownBlock)) (n := t487.length) (c := co46) ?_).2.2; exact (by (with_reducible repeat (first | apply Kd.R_alloc | apply Kd.R_drewN | apply Kd.R_drew)); exact (Kd.R_mono (Kd.R_far (p := ⟨gb492, 2, none⟩) (Kd.R_far (p := ⟨gb492, 1, none⟩) (Kd.R_far (p := ⟨gb492, 0, none⟩) (Kd.R_types HO489.out BK492.out (by decide)) (fun _ hk => hk.2) (.int .i64 t486)) (fun _ hk => hk.2) (.slice Ao46 t487.length co46)) (fun _ hk => hk.2) (.bool t490)) (fun _ h_ => h_.1)))); (case side2 => exact (Kd.R_reads' HO489.out).2.1); (case side3 => refine (Kd.R_reads' (e := 5) (base := w.heap.size) (ok := fun k_ => (((((True ∧ some k_ ≠ (.slice Ao23 t463.length co23 : Value).ownBlock) ∧ some k_ ≠ (.slice Ao24 t467.length co24 : Value).ownBlock) ∧ some k_ ≠ (.slice Ao36 t478.length co36 : Value).ownBlock) ∧ some k_ ≠ (.slice Ao39 t483.length co39 : Value).ownBlock) ∧ some k_ ≠ (.slice Ao46 t487.length co46 : Value).ownBlock)) (n := t471.length) (c := co29) ?_).2.2; exact (by (with_reducible repeat (first | apply Kd.R_alloc | apply Kd.R_drewN | apply Kd.R_drew)); exact (Kd.R_mono (Kd.R_far (p := ⟨gb492, 2, none⟩) (Kd.R_far (p := ⟨gb492, 1, none⟩) (Kd.R_far (p := ⟨gb492, 0, none⟩) (Kd.R_types HO473.out BK492.out (by decide)) (fun _ hk => hk.2) (.int .i64 t486)) (fun _ hk => hk.2) (.slice Ao46 t487.length co46)) (fun _ hk => hk.2) (.bool t490)) (fun _ h_ => h_.1)))); (case side4 => exact (Kd.R_reads' HO473.out).2.1); rintro e w64 ⟨rfl, hb⟩; refine ⟨_, rfl, ?_⟩; have n0_ := Aside0.mk (Kd.R_below (by (with_reducible repeat (first | apply Kd.R_alloc | apply Kd.R_drewN | apply Kd.R_drew)); exact (Kd.R_mono (Kd.R_far (p := ⟨gb492, 2, none⟩) (Kd.R_far (p := ⟨gb492, 1, none⟩) (Kd.R_far (p := ⟨gb492, 0, none⟩) (Kd.R_types HO465.out BK492.out (by decide)) (fun _ hk => hk.2) (.int .i64 t486)) (fun _ hk => hk.2) (.slice Ao46 t487.length co46)) (fun _ hk => hk.2) (.bool t490)) (fun _ h_ => h_.1))) hb); have n1_ := Aside0.mk (Kd.R_below (by (with_reducible repeat (first | apply Kd.R_alloc | apply Kd.R_drewN | apply Kd.R_drew)); exact (Kd.R_mono (Kd.R_far (p := ⟨gb492, 2, none⟩) (Kd.R_far (p := ⟨gb492, 1, none⟩) (Kd.R_far (p := ⟨gb492, 0, none⟩) (Kd.R_types HO469.out BK492.out (by decide)) (fun _ hk => hk.2) (.int .i64 t486)) (fun _ hk => hk.2) (.slice Ao46 t487.length co46)) (fun _ hk => hk.2) (.bool t490)) (fun _ h_ => h_.1))) hb); have n2_ := Aside0.mk (Kd.R_below (by (with_reducible repeat (first | apply Kd.R_alloc | apply Kd.R_drewN | apply Kd.R_drew)); exact (Kd.R_mono (Kd.R_far (p := ⟨gb492, 2, none⟩) (Kd.R_far (p := ⟨gb492, 1, none⟩) (Kd.R_far (p := ⟨gb492, 0, none⟩) (Kd.R_types HO473.out BK492.out (by decide)) (fun _ hk => hk.2) (.int .i64 t486)) (fun _ hk => hk.2) (.slice Ao46 t487.length co46)) (fun _ hk => hk.2) (.bool t490)) (fun _ h_ => h_.1))) hb); have n3_ := Aside0.mk (Kd.R_below (by (with_reducible repeat (first | apply Kd.R_alloc | apply Kd.R_drewN | apply Kd.R_drew)); exact (Kd.R_mono (Kd.R_far (p := ⟨gb492, 2, none⟩) (Kd.R_far (p := ⟨gb492, 1, none⟩) (Kd.R_far (p := ⟨gb492, 0, none⟩) (Kd.R_types HO480.out BK492.out (by decide)) (fun _ hk => hk.2) (.int .i64 t486)) (fun _ hk => hk.2) (.slice Ao46 t487.length co46)) (fun _ hk => hk.2) (.bool t490)) (fun _ h_ => h_.1))) hb); have n4_ := Aside0.mk (Kd.R_below (by (with_reducible repeat (first | apply Kd.R_alloc | apply Kd.R_drewN | apply Kd.R_drew)); exact (Kd.R_mono (Kd.R_far (p := ⟨gb492, 2, none⟩) (Kd.R_far (p := ⟨gb492, 1, none⟩) (Kd.R_far (p := ⟨gb492, 0, none⟩) (Kd.R_types HO485.out BK492.out (by decide)) (fun _ hk => hk.2) (.int .i64 t486)) (fun _ hk => hk.2) (.slice Ao46 t487.length co46)) (fun _ hk => hk.2) (.bool t490)) (fun _ h_ => h_.1))) hb); have n5_ := Aside0.mk (Kd.R_below (by (with_reducible repeat (first | apply Kd.R_alloc | apply Kd.R_drewN | apply Kd.R_drew)); exact (Kd.R_mono (Kd.R_far (p := ⟨gb492, 2, none⟩) (Kd.R_far (p := ⟨gb492, 1, none⟩) (Kd.R_far (p := ⟨gb492, 0, none⟩) (Kd.R_types HO489.out BK492.out (by decide)) (fun _ hk => hk.2) (.int .i64 t486)) (fun _ hk => hk.2) (.slice Ao46 t487.length co46)) (fun _ hk => hk.2) (.bool t490)) (fun _ h_ => h_.1))) hb); have n6_ := Aside0.mk (blk_below (g := gb460) (o := .cells #[.int .i64 a0_0, .slice A0_1 l0_1.length c0_1, .bool a0_2] 44 (0, 0)) (by (with_reducible repeat (first | refine blk_drewN ?_ _ | refine blk_drew ?_ | refine blk_alloc ?_ _)); refine blk_far ?_ NB460_492.out _; (with_reducible repeat (first | refine blk_drewN ?_ _ | refine blk_drew ?_ | refine blk_alloc ?_ _)); refine blk_far ?_ NB460_492.out _; (with_reducible repeat (first | refine blk_drewN ?_ _ | refine blk_drew ?_ | refine blk_alloc ?_ _)); refine blk_far ?_ NB460_492.out _; (with_reducible repeat (first | refine blk_drewN ?_ _ | refine blk_drew ?_ | refine blk_alloc ?_ _)); exact BK460.out) hb); have n7_ := Aside0.mk (blk_below (g := gb476) (o := .cells #[.int .i64 t470, .slice Ao29 t471.length co29, .bool t474] 46 (0, 0)) (by (with_reducible repeat (first | refine blk_drewN ?_ _ | refine blk_drew ?_ | refine blk_alloc ?_ _)); refine blk_far ?_ NB476_492.out _; (with_reducible repeat (first | refine blk_drewN ?_ _ | refine blk_drew ?_ | refine blk_alloc ?_ _)); refine blk_far ?_ NB476_492.out _; (with_reducible repeat (first | refine blk_drewN ?_ _ | refine blk_drew ?_ | refine blk_alloc ?_ _)); refine blk_far ?_ NB476_492.out _; (with_reducible repeat (first | refine blk_drewN ?_ _ | refine blk_drew ?_ | refine blk_alloc ?_ _)); exact BK476.out) hb); have n8_ := Aside0.mk (blk_below (g := gb482) (o := .cells #[.int .i64 t477, .slice Ao36 t478.length co36, .bool t481] 46 (0, 0)) (by (with_reducible repeat (first | refine blk_drewN ?_ _ | refine blk_drew ?_ | refine blk_alloc ?_ _)); refine blk_far ?_ NB482_492.out _; (with_reducible repeat (first | refine blk_drewN ?_ _ | refine blk_drew ?_ | refine blk_alloc ?_ _)); refine blk_far ?_ NB482_492.out _; (with_reducible repeat (first | refine blk_drewN ?_ _ | refine blk_drew ?_ | refine blk_alloc ?_ _)); refine blk_far ?_ NB482_492.out _; (with_reducible repeat (first | refine blk_drewN ?_ _ | refine blk_drew ?_ | refine blk_alloc ?_ _)); exact BK482.out) hb); have n9_ := Aside0.mk (blk_below (g := gb492) (o := .cells #[.int .i64 t486, .slice Ao46 t487.length co46, .bool t490] 46 (0, 0)) (by (with_reducible repeat (first | refine blk_drewN ?_ _ | refine blk_drew ?_ | refine blk_alloc ?_ _)); refine blk_put (cs := #[.int .i64 t486, .slice Ao46 t487.length co46, .bool false]) ?_ 2 _ rfl; (with_reducible repeat (first | refine blk_drewN ?_ _ | refine blk_drew ?_ | refine blk_alloc ?_ _)); refine blk_put (cs := #[.int .i64 t486, .slice none 0 0, .bool false]) ?_ 1 _ rfl; (with_reducible repeat (first | refine blk_drewN ?_ _ | refine blk_drew ?_ | refine blk_alloc ?_ _)); refine blk_put (cs := #[.int .i64 0, .slice none 0 0, .bool false]) ?_ 0 _ rfl; (with_reducible repeat (first | refine blk_drewN ?_ _ | refine blk_drew ?_ | refine blk_alloc ?_ _)); exact BK492.out) hb); have n10_ := Aside0.mk (below_step hs_ hb); clear HO465; clear HO469; clear HO473; clear HO480; clear HO485; clear HO489; clear BK460; clear BK476; clear BK482; clear BK492; clear HB; have HO465 := n0_; have HO469 := n1_; have HO473 := n2_; have HO480 := n3_; have HO485 := n4_; have HO489 := n5_; have BK460 := n6_; have BK476 := n7_; have BK482 := n8_; have BK492 := n9_; have HB := n10_; clear n0_ n1_ n2_ n3_ n4_ n5_ n6_ n7_ n8_ n9_ n10_; try clear hb))
     go_meet
     case rel => exact ⟨_, (true), (by first | rfl | (simp; done) | (simp [*]; done)), H', ⟨by first | omega | exact Nat.le_refl _⟩, ⟨by (with_reducible repeat (first | apply Kd.R_alloc | apply Kd.R_drewN | apply Kd.R_drew)); exact Kd.R_mono HO485.out (fun _ hk => ⟨hk.1.1.2, ⟨hk.1.2, hk.2⟩⟩)⟩, ⟨by (with_reducible repeat (first | apply Kd.R_alloc | apply Kd.R_drewN | apply Kd.R_drew)); exact Kd.R_mono HO473.out (fun _ hk => ⟨hk.1.2, ⟨hk.1.1.2, hk.2⟩⟩)⟩, ⟨by (with_reducible repeat (first | apply Kd.R_alloc | apply Kd.R_drewN | apply Kd.R_drew)); exact Kd.R_mono HO480.out (fun _ hk => ⟨hk.1.2, ⟨hk.1.1.2, hk.2⟩⟩)⟩, ⟨by (with_reducible repeat (first | apply Kd.R_alloc | apply Kd.R_drewN | apply Kd.R_drew)); exact Kd.R_mono HO489.out (fun _ hk => ⟨hk.2, ⟨hk.1.1.2, hk.1.2⟩⟩)⟩, ⟨by (with_reducible repeat (first | refine blk_drewN ?_ _ | refine blk_drew ?_ | refine blk_alloc ?_ _)); exact BK460.out⟩, ⟨by (with_reducible repeat (first | refine blk_drewN ?_ _ | refine blk_drew ?_ | refine blk_alloc ?_ _)); exact BK476.out⟩, ⟨by (with_reducible repeat (first | refine blk_drewN ?_ _ | refine blk_drew ?_ | refine blk_alloc ?_ _)); exact BK482.out⟩, ⟨by (with_reducible repeat (first | refine blk_drewN ?_ _ | refine blk_drew ?_ | refine blk_alloc ?_ _)); exact BK492.out⟩, ⟨by repeat (first | (with_reducible first | exact HB.out | apply below_alloc | apply pw_below_drewN | apply below_drew1 | refine below_set ?_ GE460.out | refine below_set ?_ GE476.out | refine below_set ?_ GE482.out | refine below_set ?_ GE492.out) | exact HB.out)⟩⟩
   case rest =>
    clear HC16
    try clear c1
    try clear c2
    try clear p2
    try clear c3
    try clear c3b0
    try clear c3b1
    try clear c4
    try clear c5
    try clear c6
    try clear c6b0
    try clear c8
    try clear c27
    try clear c31
    try clear c33
    try clear c34
    try clear c35
    try clear c36
    try clear c37
    try clear c42
    try clear c43
    try clear c44
    try clear c48
    try clear c49
    try clear c50
    try clear c51
    try clear c53
    try clear c54
    try clear c57
    try clear c58
    try clear c59
    try clear c61
    try clear c62
    try clear hcz18_0
    try clear hcz18_1
    try clear hcz18_2
    try clear hcz20_0
    try clear hcz20_1
    try clear hcz20_2
    try clear hcz28_0
    try clear hcz28_1
    try clear hcz28_2
    try clear hcz30_0
    try clear hcz30_1
    try clear hcz30_2
    try clear hcz35_0
    try clear hcz35_1
    try clear hcz35_2
    try clear hcz38_0
    try clear hcz38_1
    try clear hcz38_2
    try clear hcz45_0
    try clear hcz45_1
    try clear hcz45_2
    try clear hcz52_0
    try clear hcz52_1
    try clear hcz52_2
    try clear hcz55_0
    try clear hcz55_1
    try clear hcz55_2
    try clear hcz60_0
    try clear hcz60_1
    try clear hcz60_2
    try clear hcz63_0
    try clear hcz63_1
    try clear hcz63_2
    try clear hcz8_0
    try clear hcz8_1
    try clear hcz8_2
    try clear hfz18_0
    try clear hfz18_1
    try clear hfz18_2
    try clear hfz20_0
    try clear hfz20_1
    try clear hfz20_2
    try clear hfz28_0
    try clear hfz28_1
    try clear hfz28_2
    try clear hfz30_0
    try clear hfz30_1
    try clear hfz30_2
    try clear hfz35_0
    try clear hfz35_1
    try clear hfz35_2
    try clear hfz38_0
    try clear hfz38_1
    try clear hfz38_2
    try clear hfz45_0
    try clear hfz45_1
    try clear hfz45_2
    try clear hfz52_0
    try clear hfz52_1
    try clear hfz52_2
    try clear hfz55_0
    try clear hfz55_1
    try clear hfz55_2
    try clear hfz60_0
    try clear hfz60_1
    try clear hfz60_2
    try clear hfz63_0
    try clear hfz63_1
    try clear hfz63_2
    try clear hfz8_0
    try clear hfz8_1
    try clear hfz8_2
    obtain ⟨kq, x51_15, rfl, HA, HJ15, HO_9, HO_477001, HO_483001, HO_493001, BK460, BK476, BK482, BK492, HB⟩ := hcut
    cases kq with
    | zero => exact absurd HA.out (by simp [laws_FnExactFeed.j0])
    | succ kj15 =>
     have H := HA.out
     clear HA
     simp only [laws_FnExactFeed.j0] at H
     by_cases c65 : x51_15 = true
     ·subst c65
      rw [if_pos rfl] at H
      obtain rfl := Option.some.inj H
      cases hr_
     ·replace c65 := Bool.eq_false_iff.mpr c65
      subst c65
      rw [if_neg (show ¬ (false = true) by decide)] at H
      replace H := Option.bind_eq_some_iff.mp H
      obtain ⟨⟨t494, t495, t498⟩, A660, H⟩ := H
      try dsimp only at H
      have A66 := Aside0.mk A660
      clear A660
      replace H := Option.bind_eq_some_iff.mp H
      obtain ⟨t499, A670, H⟩ := H
      try dsimp only at H
      have A67 := Aside0.mk A670
      clear A670
      by_cases c68 : t499 = true
      ·subst c68
       rw [if_pos rfl] at H
       replace H := Option.bind_eq_some_iff.mp H
       obtain ⟨t500, A690, H⟩ := H
       try dsimp only at H
       have A69 := Aside0.mk A690
       clear A690
       replace H := Option.bind_eq_some_iff.mp H
       obtain ⟨t503, A700, H⟩ := H
       try dsimp only at H
       have A70 := Aside0.mk A700
       clear A700
       by_cases c71 : t503 = true
       ·subst c71
        rw [if_pos rfl] at H
        replace H := Option.bind_eq_some_iff.mp H
        obtain ⟨⟨t504, t505⟩, A720, H⟩ := H
        try dsimp only at H
        have A72 := Aside0.mk A720
        clear A720
        replace H := Option.bind_eq_some_iff.mp H
        obtain ⟨⟨t506, t507⟩, A730, H⟩ := H
        try dsimp only at H
        have A73 := Aside0.mk A730
        clear A730
        have HC74 := Aside0.mk H
        clear H
        try go_wp2
        have n0_ := Aside0.mk (Kd.R_drew HO_9.out)
        have n1_ := Aside0.mk (Kd.R_drew HO_477001.out)
        have n2_ := Aside0.mk (Kd.R_drew HO_483001.out)
        have n3_ := Aside0.mk (Kd.R_drew HO_493001.out)
        have n4_ := Aside0.mk (blk_drew BK460.out)
        have n5_ := Aside0.mk (blk_drew BK476.out)
        have n6_ := Aside0.mk (blk_drew BK482.out)
        have n7_ := Aside0.mk (blk_drew BK492.out)
        have n8_ := Aside0.mk (below_drew1 HB.out)
        clear HO_9
        clear HO_477001
        clear HO_483001
        clear HO_493001
        clear BK460
        clear BK476
        clear BK482
        clear BK492
        clear HB
        have HO_9 := n0_
        have HO_477001 := n1_
        have HO_483001 := n2_
        have HO_493001 := n3_
        have BK460 := n4_
        have BK476 := n5_
        have BK482 := n6_
        have BK492 := n7_
        have HB := n8_
        clear n0_ n1_ n2_ n3_ n4_ n5_ n6_ n7_ n8_
        refine start_ (n := 5) (S := fun w' => w'.cell? ⟨gb482, 0, none⟩ = some (.int .i64 t477) ∧ w'.cell? ⟨gb482, 1, none⟩ = some (.slice Ao36 t478.length co36) ∧ w'.cell? ⟨gb482, 2, none⟩ = some (.bool t481) ∧ w'.cell? ⟨gb460, 0, none⟩ = some (.int .i64 a0_0) ∧ w'.cell? ⟨gb460, 1, none⟩ = some (.slice A0_1 l0_1.length c0_1) ∧ w'.cell? ⟨gb460, 2, none⟩ = some (.bool a0_2)) (ds := []) #[false, false, false, false, false] (by kernel_rfl) rfl rfl ⟨(blk_cell BK482.out 0).trans rfl, (blk_cell BK482.out 1).trans rfl, (blk_cell BK482.out 2).trans rfl, (blk_cell BK460.out 0).trans rfl, (blk_cell BK460.out 1).trans rfl, (blk_cell BK460.out 2).trans rfl⟩ (fun hHeld => ?_)
        generalize wc.drew = w75 at HO_9 HO_477001 HO_483001 HO_493001 BK460 BK476 BK482 BK492 HB hHeld ⊢
        refine take_ (i := 0) (N := some 52) (v := ?_) (a' := ?_) #[true, false, false, false, false] rfl rfl (by kernel_rfl) (fun _ _ _ h => h) (Or.inl ⟨by rfl, ?_⟩) hHeld ?_ ?_
        rotate_left
        ·rintro w' ⟨s0, s1, s2, s3, s4, s5⟩
         go_simp
         with_reducible rfl
        rotate_left
        ·simp only [Act.put, List.setIfInBounds_toArray, List.set_cons_zero, List.set_cons_succ, i64_w, i32_w]
         rfl
        refine take_ (i := 1) (N := some 53) (v := ?_) (a' := ?_) #[true, true, false, false, false] rfl rfl (by kernel_rfl) (fun _ _ _ h => h) (Or.inl ⟨by rfl, ?_⟩) hHeld ?_ ?_
        rotate_left
        ·rintro w' ⟨s0, s1, s2, s3, s4, s5⟩
         go_simp
         with_reducible rfl
        rotate_left
        ·simp only [Act.put, List.setIfInBounds_toArray, List.set_cons_zero, List.set_cons_succ, i64_w, i32_w]
         rfl
        refine one_ (i := 2) (N := some 54) #[true, true, true, false, false] rfl rfl (by kernel_rfl) (by decide) (fun K hK => ?_)
        refine goes_ Tryd.func35 (by kernel_rfl) rfl #[.agg #[.int .i64 a0_0, .slice A0_1 l0_1.length c0_1, .bool a0_2]] (by rfl) rfl rfl ka_ ?_
        with_reducible refine (laws_toDec.calls kj15 a0_0 _ _ l0_1 a0_2 t494 t495 t498 _ ?side1 ?side2 A66.out).mono ?_
        (case side1 => repeat (first | exact (Kd.C_below HR0_1.out HB.out) | (with_reducible refine Kd.C_alloc ?_ _) | (with_reducible refine Kd.C_drewN ?_ _) | (with_reducible refine Kd.C_drew ?_)))
        (case side2 => exact HC0_1.out)
        rintro e w76 ⟨v496, rfl, ho0, hb⟩
        refine ⟨_, rfl, ?_⟩
        have n0_ := Aside0.mk (Kd.R_elder' (kr_ HO_9) (Kd.R_base ho0) hb)
        have n1_ := Aside0.mk (Kd.R_elder' (kr_ HO_477001) (Kd.R_base ho0) hb)
        have n2_ := Aside0.mk (Kd.R_elder' (kr_ HO_483001) (Kd.R_base ho0) hb)
        have n3_ := Aside0.mk (Kd.R_elder' (kr_ HO_493001) (Kd.R_base ho0) hb)
        have n4_ := Aside0.mk (Kd.R_lower (Kd.R_new' (Kd.R_new' (Kd.R_new' (Kd.R_new' ho0 (Kd.R_lt (kr_ HO_9))) (Kd.R_lt (kr_ HO_477001))) (Kd.R_lt (kr_ HO_483001))) (Kd.R_lt (kr_ HO_493001))) (below_size hs_))
        have n5_ := Aside0.mk (blk_below (g := gb460) (o := .cells #[.int .i64 a0_0, .slice A0_1 l0_1.length c0_1, .bool a0_2] 44 (0, 0)) (kb_ BK460) hb)
        have n6_ := Aside0.mk (blk_below (g := gb476) (o := .cells #[.int .i64 t470, .slice Ao29 t471.length co29, .bool t474] 46 (0, 0)) (kb_ BK476) hb)
        have n7_ := Aside0.mk (blk_below (g := gb482) (o := .cells #[.int .i64 t477, .slice Ao36 t478.length co36, .bool t481] 46 (0, 0)) (kb_ BK482) hb)
        have n8_ := Aside0.mk (blk_below (g := gb492) (o := .cells #[.int .i64 t486, .slice Ao46 t487.length co46, .bool t490] 46 (0, 0)) (kb_ BK492) hb)
        have n9_ := Aside0.mk (below_step hs_ hb)
        clear HO_9
        clear HO_477001
        clear HO_483001
        clear HO_493001
        clear BK460
        clear BK476
        clear BK482
        clear BK492
        clear HB
        have HO_9 := n0_
        have HO_477001 := n1_
        have HO_483001 := n2_
        have HO_493001 := n3_
        have HO497 := n4_
        have BK460 := n5_
        have BK476 := n6_
        have BK482 := n7_
        have BK492 := n8_
        have HB := n9_
        clear n0_ n1_ n2_ n3_ n4_ n5_ n6_ n7_ n8_ n9_
        (try clear hb)
        (try clear hb2)
        (try clear hk)
        (try clear hi)
        (try clear ho0)
        obtain ⟨Ao77, co77, eo77⟩ := Kd.R_slice HO497.out
        (first | subst eo77 | (injection eo77 with f1_ f2_ f3_; have f4_ := f1_.symm; have f5_ := f3_.symm; clear f1_ f2_ f3_; subst f4_; subst f5_))
        refine hK.out _ _ ⟨(blk_cell BK482.out 0).trans rfl, (blk_cell BK482.out 1).trans rfl, (blk_cell BK482.out 2).trans rfl, (blk_cell BK460.out 0).trans rfl, (blk_cell BK460.out 1).trans rfl, (blk_cell BK460.out 2).trans rfl⟩ (fun hHeld => ?_)
        clear hK K
        refine norm_ (a' := ?_) ?_ ?_
        rotate_left
        ·show Act.put _ (some 54) _ = _
         simp only [Act.put, List.setIfInBounds_toArray, List.set_cons_zero, List.set_cons_succ, i64_w, i32_w]
         rfl
        refine one_ (i := 3) (N := some 55) #[true, true, true, true, false] rfl rfl (by kernel_rfl) (by decide) (fun K hK => ?_)
        refine goes_ Tryd.func37 (by kernel_rfl) rfl #[.agg #[.int .i64 t477, .slice Ao36 t478.length co36, .bool t481], .agg #[.int .i64 t494, .slice Ao77 t495.length co77, .bool t498]] (by rfl) rfl rfl ka_ ?_
        with_reducible refine (laws_eqDec.calls kj15 t477 _ _ t478 t481 t494 _ _ t495 t498 true _ ?side1 ?side2 ?side3 ?side4 A67.out).mono ?_
        (case side1 => exact kc_ (Kd.R_reads' HO_483001.out).2.2)
        (case side2 => exact (Kd.R_reads' HO_483001.out).2.1)
        (case side3 => exact kc_ (Kd.R_reads' HO497.out).2.2)
        (case side4 => exact (Kd.R_reads' HO497.out).2.1)
        rintro e w78 ⟨rfl, hb⟩
        refine ⟨_, rfl, ?_⟩
        have n0_ := Aside0.mk (Kd.R_below (kr_ HO_9) hb)
        have n1_ := Aside0.mk (Kd.R_below (kr_ HO_477001) hb)
        have n2_ := Aside0.mk (Kd.R_below (kr_ HO_483001) hb)
        have n3_ := Aside0.mk (Kd.R_below (kr_ HO_493001) hb)
        have n4_ := Aside0.mk (Kd.R_below (kr_ HO497) hb)
        have n5_ := Aside0.mk (blk_below (g := gb460) (o := .cells #[.int .i64 a0_0, .slice A0_1 l0_1.length c0_1, .bool a0_2] 44 (0, 0)) (kb_ BK460) hb)
        have n6_ := Aside0.mk (blk_below (g := gb476) (o := .cells #[.int .i64 t470, .slice Ao29 t471.length co29, .bool t474] 46 (0, 0)) (kb_ BK476) hb)
        have n7_ := Aside0.mk (blk_below (g := gb482) (o := .cells #[.int .i64 t477, .slice Ao36 t478.length co36, .bool t481] 46 (0, 0)) (kb_ BK482) hb)
        have n8_ := Aside0.mk (blk_below (g := gb492) (o := .cells #[.int .i64 t486, .slice Ao46 t487.length co46, .bool t490] 46 (0, 0)) (kb_ BK492) hb)
        have n9_ := Aside0.mk (below_step hs_ hb)
        clear HO_9
        clear HO_477001
        clear HO_483001
        clear HO_493001
        clear HO497
        clear BK460
        clear BK476
        clear BK482
        clear BK492
        clear HB
        have HO_9 := n0_
        have HO_477001 := n1_
        have HO_483001 := n2_
        have HO_493001 := n3_
        have HO497 := n4_
        have BK460 := n5_
        have BK476 := n6_
        have BK482 := n7_
        have BK492 := n8_
        have HB := n9_
        clear n0_ n1_ n2_ n3_ n4_ n5_ n6_ n7_ n8_ n9_
        (try clear hb)
        (try clear hb2)
        (try clear hk)
        (try clear hi)
        refine hK.out _ _ ⟨(blk_cell BK482.out 0).trans rfl, (blk_cell BK482.out 1).trans rfl, (blk_cell BK482.out 2).trans rfl, (blk_cell BK460.out 0).trans rfl, (blk_cell BK460.out 1).trans rfl, (blk_cell BK460.out 2).trans rfl⟩ (fun hHeld => ?_)
        clear hK K
        refine norm_ (a' := ?_) ?_ ?_
        rotate_left
        ·show Act.put _ (some 55) _ = _
         simp only [Act.put, List.setIfInBounds_toArray, List.set_cons_zero, List.set_cons_succ, i64_w, i32_w]
         rfl
        refine pure_ (i := 4) (N := some 56) (v := ?_) (a' := ?_) #[true, true, true, true, true] rfl rfl (by kernel_rfl) (fun _ _ _ h => h) (Or.inl ⟨by rfl, ?_⟩) ?_ ?_
        rotate_left
        ·intro w'
         go_simp
         with_reducible rfl
        rotate_left
        ·simp only [Act.put, List.setIfInBounds_toArray, List.set_cons_zero, List.set_cons_succ, i64_w, i32_w]
         rfl
        refine done_ (by kernel_rfl) ?_
        go_upto_region 20 with (first | ((with_reducible refine gate_callee (f := 31) rfl ?_); refine goesL_ (some 59) rfl rfl Tryd.func31 (by kernel_rfl) rfl #[.slice A1 l1.length c1] rfl ka_ ?_; (with_reducible refine (laws_toByteS.calls kj15 _ _ l1 t500 _ ?side1 ?side2 A69.out).mono ?_); (case side1 => repeat (first | exact (Kd.C_below HR1.out HB.out) | (with_reducible refine Kd.C_alloc ?_ _) | (with_reducible refine Kd.C_drewN ?_ _) | (with_reducible refine Kd.C_drew ?_))); (case side2 => exact HC1.out); rintro e w79 ⟨v501, rfl, ho0, hb⟩; refine ⟨_, rfl, ?_⟩; have n0_ := Aside0.mk (Kd.R_elder' (kr_ HO_9) (Kd.R_base ho0) hb); have n1_ := Aside0.mk (Kd.R_elder' (kr_ HO_477001) (Kd.R_base ho0) hb); have n2_ := Aside0.mk (Kd.R_elder' (kr_ HO_483001) (Kd.R_base ho0) hb); have n3_ := Aside0.mk (Kd.R_elder' (kr_ HO_493001) (Kd.R_base ho0) hb); have n4_ := Aside0.mk (Kd.R_elder' (kr_ HO497) (Kd.R_base ho0) hb); have n5_ := Aside0.mk (Kd.R_lower (Kd.R_new' (Kd.R_new' (Kd.R_new' (Kd.R_new' (Kd.R_new' ho0 (Kd.R_lt (kr_ HO_9))) (Kd.R_lt (kr_ HO_477001))) (Kd.R_lt (kr_ HO_483001))) (Kd.R_lt (kr_ HO_493001))) (Kd.R_lt (kr_ HO497))) (below_size hs_)); have n6_ := Aside0.mk (blk_below (g := gb460) (o := .cells #[.int .i64 a0_0, .slice A0_1 l0_1.length c0_1, .bool a0_2] 44 (0, 0)) (kb_ BK460) hb); have n7_ := Aside0.mk (blk_below (g := gb476) (o := .cells #[.int .i64 t470, .slice Ao29 t471.length co29, .bool t474] 46 (0, 0)) (kb_ BK476) hb); have n8_ := Aside0.mk (blk_below (g := gb482) (o := .cells #[.int .i64 t477, .slice Ao36 t478.length co36, .bool t481] 46 (0, 0)) (kb_ BK482) hb); have n9_ := Aside0.mk (blk_below (g := gb492) (o := .cells #[.int .i64 t486, .slice Ao46 t487.length co46, .bool t490] 46 (0, 0)) (kb_ BK492) hb); have n10_ := Aside0.mk (below_step hs_ hb); clear HO_9; clear HO_477001; clear HO_483001; clear HO_493001; clear HO497; clear BK460; clear BK476; clear BK482; clear BK492; clear HB; have HO_9 := n0_; have HO_477001 := n1_; have HO_483001 := n2_; have HO_493001 := n3_; have HO497 := n4_; have HO502 := n5_; have BK460 := n6_; have BK476 := n7_; have BK482 := n8_; have BK492 := n9_; have HB := n10_; clear n0_ n1_ n2_ n3_ n4_ n5_ n6_ n7_ n8_ n9_ n10_; try clear hb; (try clear ho0); obtain ⟨Ao80, co80, eo80⟩ := Kd.R_slice HO502.out; subst eo80) | ((with_reducible refine gate_callee (f := 20) rfl ?_); refine goesL_ (some 60) rfl rfl Tryd.func20 (by kernel_rfl) rfl #[.slice Ao39 t483.length co39, .slice Ao80 t500.length co80] rfl ka_ ?_; (with_reducible refine (laws_eqByteS.calls kj15 _ _ t483 _ _ t500 true _ ?side1 ?side2 ?side3 ?side4 A70.out).mono ?_); (case side1 => exact kc_ (Kd.R_reads' HO_9.out).2.2); (case side2 => exact (Kd.R_reads' HO_9.out).2.1); (case side3 => exact kc_ (Kd.R_reads' HO502.out).2.2); (case side4 => exact (Kd.R_reads' HO502.out).2.1); rintro e w' ⟨rfl, ⟨nd, rfl⟩⟩; refine ⟨_, rfl, ?_⟩; have hnb81 := NB482_460.out; have hnc81 := NB460_482.out; have hnb82 := NB482_476.out; have hnc82 := NB476_482.out; have hnb83 := NB482_492.out; have hnc83 := NB492_482.out; have hcz84_0 : w79.cell? ⟨gb482, 0, none⟩ = some (.int .i64 t477) := (blk_cell BK482.out 0).trans rfl; have hcz84_1 : w79.cell? ⟨gb482, 1, none⟩ = some (.slice Ao36 t478.length co36) := (blk_cell BK482.out 1).trans rfl; have hcz84_2 : w79.cell? ⟨gb482, 2, none⟩ = some (.bool t481) := (blk_cell BK482.out 2).trans rfl; have hfz84_0 := blk_frozen BK482.out 0; have hfz84_1 := blk_frozen BK482.out 1; have hfz84_2 := blk_frozen BK482.out 2) | ((with_reducible refine gate_callee (f := 38) rfl ?_); refine goesL_ (some 64) rfl rfl Tryd.func38 (by kernel_rfl) rfl #[.agg #[.int .i64 t477, .slice Ao36 t478.length co36, .bool t481], .int .i64 1] rfl ka_ ?_; (with_reducible refine (laws_markDec.calls kj15 t477 (fun k_ => some k_ = (.slice Ao36 t478.length co36 : Value).ownBlock) (.slice Ao36 t478.length co36) t478 t481 1 t504 t505 w _ ?side1 ?side2 A72.out).mono ?_); (case side1 => exact hs_); (case side2 => exact Kd.R_tight rfl HO_483001.out); rintro e w85 ⟨rfl, hy0, hb, hkp⟩; refine ⟨_, rfl, ?_⟩; have n0_ := Aside0.mk (Kd.R_mono (ok' := fun k_ => some k_ ≠ (.slice Ao29 t471.length co29 : Value).ownBlock ∧ some k_ ≠ (.slice Ao36 t478.length co36 : Value).ownBlock ∧ some k_ ≠ (.slice Ao46 t487.length co46 : Value).ownBlock ∧ some k_ ≠ (.slice Ao77 t495.length co77 : Value).ownBlock ∧ some k_ ≠ (.slice Ao80 t500.length co80 : Value).ownBlock) (Kd.R_keptB (HO_9.out) hkp (fun k_ hk_ hs_ => (hk_.1.1.2.1) hs_)) (fun k_ hk_ => ⟨hk_.1.1.1.1, hk_.1.1.1.2.1, hk_.1.1.1.2.2, hk_.1.1.2, hk_.1.2⟩)); have n1_ := Aside0.mk (Kd.R_mono (ok' := fun k_ => some k_ ≠ (.slice Ao39 t483.length co39 : Value).ownBlock ∧ some k_ ≠ (.slice Ao36 t478.length co36 : Value).ownBlock ∧ some k_ ≠ (.slice Ao46 t487.length co46 : Value).ownBlock ∧ some k_ ≠ (.slice Ao77 t495.length co77 : Value).ownBlock ∧ some k_ ≠ (.slice Ao80 t500.length co80 : Value).ownBlock) (Kd.R_keptB (HO_477001.out) hkp (fun k_ hk_ hs_ => (hk_.1.1.2.1) hs_)) (fun k_ hk_ => ⟨hk_.1.1.1.1, hk_.1.1.1.2.1, hk_.1.1.1.2.2, hk_.1.1.2, hk_.1.2⟩)); have n2_ := Aside0.mk (Kd.R_reok rfl hy0 (fun k_ e_ => HO_483001.out.1 k_ e_)); have n3_ := Aside0.mk (Kd.R_mono (ok' := fun k_ => some k_ ≠ (.slice Ao39 t483.length co39 : Value).ownBlock ∧ some k_ ≠ (.slice Ao29 t471.length co29 : Value).ownBlock ∧ some k_ ≠ (.slice Ao36 t478.length co36 : Value).ownBlock ∧ some k_ ≠ (.slice Ao77 t495.length co77 : Value).ownBlock ∧ some k_ ≠ (.slice Ao80 t500.length co80 : Value).ownBlock) (Kd.R_keptB (HO_493001.out) hkp (fun k_ hk_ hs_ => (hk_.1.1.2.2) hs_)) (fun k_ hk_ => ⟨hk_.1.1.1.1, hk_.1.1.1.2.1, hk_.1.1.1.2.2, hk_.1.1.2, hk_.1.2⟩)); have n4_ := Aside0.mk (blk_kept (kb_ BK460) hkp (fun hs_ => (fun e_ => (Kd.R_ne HO_483001.out BK460.out (by decide)) e_) hs_)); have n5_ := Aside0.mk (blk_kept (kb_ BK476) hkp (fun hs_ => (fun e_ => (Kd.R_ne HO_483001.out BK476.out (by decide)) e_) hs_)); have n6_ := Aside0.mk (blk_kept (kb_ BK482) hkp (fun hs_ => (fun e_ => (Kd.R_ne HO_483001.out BK482.out (by decide)) e_) hs_)); have n7_ := Aside0.mk (blk_kept (kb_ BK492) hkp (fun hs_ => (fun e_ => (Kd.R_ne HO_483001.out BK492.out (by decide)) e_) hs_)); have n8_ := Aside0.mk (Kd.R_mono (ok' := fun k_ => some k_ ≠ (.slice Ao39 t483.length co39 : Value).ownBlock ∧ some k_ ≠ (.slice Ao29 t471.length co29 : Value).ownBlock ∧ some k_ ≠ (.slice Ao36 t478.length co36 : Value).ownBlock ∧ some k_ ≠ (.slice Ao46 t487.length co46 : Value).ownBlock ∧ some k_ ≠ (.slice Ao80 t500.length co80 : Value).ownBlock) (Kd.R_keptB (HO497.out) hkp (fun k_ hk_ hs_ => (hk_.1.1.2) hs_)) (fun k_ hk_ => ⟨hk_.1.1.1.1.1.2, hk_.1.1.1.1.2, hk_.1.1.1.2, hk_.1.1.2, hk_.1.2⟩)); have n9_ := Aside0.mk (Kd.R_mono (ok' := fun k_ => some k_ ≠ (.slice Ao39 t483.length co39 : Value).ownBlock ∧ some k_ ≠ (.slice Ao29 t471.length co29 : Value).ownBlock ∧ some k_ ≠ (.slice Ao36 t478.length co36 : Value).ownBlock ∧ some k_ ≠ (.slice Ao46 t487.length co46 : Value).ownBlock ∧ some k_ ≠ (.slice Ao77 t495.length co77 : Value).ownBlock) (Kd.R_keptB (HO502.out) hkp (fun k_ hk_ hs_ => (hk_.1.1.2) hs_)) (fun k_ hk_ => ⟨hk_.1.1.1.1.1.2, hk_.1.1.1.1.2, hk_.1.1.1.2, hk_.1.1.2, hk_.1.2⟩)); have n10_ := Aside0.mk (hb); clear HO_9; clear HO_477001; clear HO_483001; clear HO_493001; clear BK460; clear BK476; clear BK482; clear BK492; clear HO497; clear HO502; clear HB; have HO_9 := n0_; have HO_477001 := n1_; have HO_483001 := n2_; have HO_493001 := n3_; have BK460 := n4_; have BK476 := n5_; have BK482 := n6_; have BK492 := n7_; have HO497 := n8_; have HO502 := n9_; have HB := n10_; clear n0_ n1_ n2_ n3_ n4_ n5_ n6_ n7_ n8_ n9_ n10_; (try clear hb); (try clear hkp); (try clear hy0)) | ((with_reducible refine gate_callee (f := 21) rfl ?_); refine goesL_ (some 67) rfl rfl Tryd.func21 (by kernel_rfl) rfl #[.slice Ao39 t483.length co39, .int .i64 t504] rfl ka_ ?_; (with_reducible refine (laws_markByteS.calls kj15 (fun k_ => some k_ = (.slice Ao39 t483.length co39 : Value).ownBlock) (.slice Ao39 t483.length co39) t483 t504 t506 t507 w _ ?side1 ?side2 A73.out).mono ?_); (case side1 => exact hs_); (case side2 => exact Kd.R_tight rfl HO_9.out); rintro e w86 ⟨rfl, hy0, hb, hkp⟩; refine ⟨_, rfl, ?_⟩; have n0_ := Aside0.mk (Kd.R_reok rfl hy0 (fun k_ e_ => HO_9.out.1 k_ e_)); have n1_ := Aside0.mk (Kd.R_mono (ok' := fun k_ => some k_ ≠ (.slice Ao39 t483.length co39 : Value).ownBlock ∧ some k_ ≠ (.slice Ao36 t478.length co36 : Value).ownBlock ∧ some k_ ≠ (.slice Ao46 t487.length co46 : Value).ownBlock ∧ some k_ ≠ (.slice Ao77 t495.length co77 : Value).ownBlock ∧ some k_ ≠ (.slice Ao80 t500.length co80 : Value).ownBlock) (Kd.R_keptB (HO_477001.out) hkp (fun k_ hk_ hs_ => (hk_.1) hs_)) (fun k_ hk_ => ⟨hk_.1.1, hk_.1.2.1, hk_.1.2.2.1, hk_.1.2.2.2.1, hk_.1.2.2.2.2⟩)); have n2_ := Aside0.mk (Kd.R_mono (ok' := fun k_ => some k_ ≠ (.slice Ao39 t483.length co39 : Value).ownBlock ∧ some k_ ≠ (.slice Ao29 t471.length co29 : Value).ownBlock ∧ some k_ ≠ (.slice Ao46 t487.length co46 : Value).ownBlock ∧ some k_ ≠ (.slice Ao77 t495.length co77 : Value).ownBlock ∧ some k_ ≠ (.slice Ao80 t500.length co80 : Value).ownBlock) (Kd.R_keptB (HO_483001.out) hkp (fun k_ hk_ hs_ => (hk_.1.1.1) hs_)) (fun k_ hk_ => ⟨hk_.1.1.1.1, hk_.1.1.1.2.1, hk_.1.1.1.2.2, hk_.1.1.2, hk_.1.2⟩)); have n3_ := Aside0.mk (Kd.R_mono (ok' := fun k_ => some k_ ≠ (.slice Ao39 t483.length co39 : Value).ownBlock ∧ some k_ ≠ (.slice Ao29 t471.length co29 : Value).ownBlock ∧ some k_ ≠ (.slice Ao36 t478.length co36 : Value).ownBlock ∧ some k_ ≠ (.slice Ao77 t495.length co77 : Value).ownBlock ∧ some k_ ≠ (.slice Ao80 t500.length co80 : Value).ownBlock) (Kd.R_keptB (HO_493001.out) hkp (fun k_ hk_ hs_ => (hk_.1) hs_)) (fun k_ hk_ => ⟨hk_.1.1, hk_.1.2.1, hk_.1.2.2.1, hk_.1.2.2.2.1, hk_.1.2.2.2.2⟩)); have n4_ := Aside0.mk (blk_kept (kb_ BK460) hkp (fun hs_ => (fun e_ => (Kd.R_ne HO_9.out BK460.out (by decide)) e_) hs_)); have n5_ := Aside0.mk (blk_kept (kb_ BK476) hkp (fun hs_ => (fun e_ => (Kd.R_ne HO_9.out BK476.out (by decide)) e_) hs_)); have n6_ := Aside0.mk (blk_kept (kb_ BK482) hkp (fun hs_ => (fun e_ => (Kd.R_ne HO_9.out BK482.out (by decide)) e_) hs_)); have n7_ := Aside0.mk (blk_kept (kb_ BK492) hkp (fun hs_ => (fun e_ => (Kd.R_ne HO_9.out BK492.out (by decide)) e_) hs_)); have n8_ := Aside0.mk (Kd.R_mono (ok' := fun k_ => some k_ ≠ (.slice Ao39 t483.length co39 : Value).ownBlock ∧ some k_ ≠ (.slice Ao29 t471.length co29 : Value).ownBlock ∧ some k_ ≠ (.slice Ao36 t478.length co36 : Value).ownBlock ∧ some k_ ≠ (.slice Ao46 t487.length co46 : Value).ownBlock ∧ some k_ ≠ (.slice Ao80 t500.length co80 : Value).ownBlock) (Kd.R_keptB (HO497.out) hkp (fun k_ hk_ hs_ => (hk_.1) hs_)) (fun k_ hk_ => ⟨hk_.1.1, hk_.1.2.1, hk_.1.2.2.1, hk_.1.2.2.2.1, hk_.1.2.2.2.2⟩)); have n9_ := Aside0.mk (Kd.R_mono (ok' := fun k_ => some k_ ≠ (.slice Ao39 t483.length co39 : Value).ownBlock ∧ some k_ ≠ (.slice Ao29 t471.length co29 : Value).ownBlock ∧ some k_ ≠ (.slice Ao36 t478.length co36 : Value).ownBlock ∧ some k_ ≠ (.slice Ao46 t487.length co46 : Value).ownBlock ∧ some k_ ≠ (.slice Ao77 t495.length co77 : Value).ownBlock) (Kd.R_keptB (HO502.out) hkp (fun k_ hk_ hs_ => (hk_.1) hs_)) (fun k_ hk_ => ⟨hk_.1.1, hk_.1.2.1, hk_.1.2.2.1, hk_.1.2.2.2.1, hk_.1.2.2.2.2⟩)); have n10_ := Aside0.mk (hb); clear HO_9; clear HO_477001; clear HO_483001; clear HO_493001; clear BK460; clear BK476; clear BK482; clear BK492; clear HO497; clear HO502; clear HB; have HO_9 := n0_; have HO_477001 := n1_; have HO_483001 := n2_; have HO_493001 := n3_; have BK460 := n4_; have BK476 := n5_; have BK482 := n6_; have BK492 := n7_; have HO497 := n8_; have HO502 := n9_; have HB := n10_; clear n0_ n1_ n2_ n3_ n4_ n5_ n6_ n7_ n8_ n9_ n10_; (try clear hb); (try clear hkp); (try clear hy0)))
        (try simp only [Act.put, List.setIfInBounds_toArray, List.set_cons_zero, List.set_cons_succ])
        go_cut [80] (fun v80 wc => ∃ (kq : Nat) (x80_73 : Bool), v80 = .bool x80_73 ∧ Aside0 (laws_FnExactFeed.j1 kq l1 t475 x80_73 a0_0 l0_1 a0_2 t470 t471 t474 t486 t487 t490 = some r) ∧ Aside0 (kq ≤ kj15) ∧ Aside0 (Kd.R (Kd.int .u8) 5 wc w.heap.size (fun k_ => some k_ ≠ ((.slice Ao36 t478.length co36) : Value).ownBlock ∧ some k_ ≠ ((.slice Ao46 t487.length co46) : Value).ownBlock) (.slice Ao29 t471.length co29) t471) ∧ Aside0 (Kd.R (Kd.int .u8) 5 wc w.heap.size (fun k_ => some k_ ≠ ((.slice Ao29 t471.length co29) : Value).ownBlock ∧ some k_ ≠ ((.slice Ao46 t487.length co46) : Value).ownBlock) (.slice Ao36 t478.length co36) t505) ∧ Aside0 (Kd.R (Kd.int .u8) 5 wc w.heap.size (fun k_ => some k_ ≠ ((.slice Ao29 t471.length co29) : Value).ownBlock ∧ some k_ ≠ ((.slice Ao36 t478.length co36) : Value).ownBlock) (.slice Ao46 t487.length co46) t487) ∧ Aside0 (wc.heap[gb460]? = some (.cells #[.int .i64 a0_0, (.slice A0_1 l0_1.length c0_1), .bool a0_2] 44 (0, 0))) ∧ Aside0 (wc.heap[gb476]? = some (.cells #[.int .i64 t470, (.slice Ao29 t471.length co29), .bool t474] 46 (0, 0))) ∧ Aside0 (wc.heap[gb482]? = some (.cells #[.int .i64 t477, (.slice Ao36 t478.length co36), .bool t481] 46 (0, 0))) ∧ Aside0 (wc.heap[gb492]? = some (.cells #[.int .i64 t486, (.slice Ao46 t487.length co46), .bool t490] 46 (0, 0))) ∧ Aside0 (Below w.heap.size w wc))
        case first =>
         have H := HC74.out
         clear HC74
         by_cases c87 : t506 < 0
         ·rw [if_pos c87] at H
          have c87b0 : decide (t506 < 0) = true := decide_eq_true c87
          clear c87
          (first | rw [c87b0] | (simp only [i64_w, i32_w]; rw [c87b0]) | skip)
          have H' := Aside0.mk H
          clear H
          go_wp2
          go_meet
          case rel => exact ⟨_, (true), (by first | rfl | (simp; done) | (simp [*]; done)), H', ⟨by have := HJ15.out; first | omega | exact Nat.le_refl _⟩, ⟨by (with_reducible repeat (first | apply Kd.R_alloc | apply Kd.R_drewN | apply Kd.R_drew)); exact Kd.R_mono HO_477001.out (fun _ hk => ⟨hk.2.1, hk.2.2.1⟩)⟩, ⟨by (with_reducible repeat (first | apply Kd.R_alloc | apply Kd.R_drewN | apply Kd.R_drew)); exact Kd.R_mono HO_483001.out (fun _ hk => ⟨hk.2.1, hk.2.2.1⟩)⟩, ⟨by (with_reducible repeat (first | apply Kd.R_alloc | apply Kd.R_drewN | apply Kd.R_drew)); exact Kd.R_mono HO_493001.out (fun _ hk => ⟨hk.2.1, hk.2.2.1⟩)⟩, ⟨by (with_reducible repeat (first | refine blk_drewN ?_ _ | refine blk_drew ?_ | refine blk_alloc ?_ _)); exact BK460.out⟩, ⟨by (with_reducible repeat (first | refine blk_drewN ?_ _ | refine blk_drew ?_ | refine blk_alloc ?_ _)); exact BK476.out⟩, ⟨by (with_reducible repeat (first | refine blk_drewN ?_ _ | refine blk_drew ?_ | refine blk_alloc ?_ _)); exact BK482.out⟩, ⟨by (with_reducible repeat (first | refine blk_drewN ?_ _ | refine blk_drew ?_ | refine blk_alloc ?_ _)); exact BK492.out⟩, ⟨by repeat (first | (with_reducible first | exact HB.out | apply below_alloc | apply pw_below_drewN | apply below_drew1 | refine below_set ?_ GE460.out | refine below_set ?_ GE476.out | refine below_set ?_ GE482.out | refine below_set ?_ GE492.out) | exact HB.out)⟩⟩
         ·rw [if_neg c87] at H
          have c87b0 : decide (t506 < 0) = false := decide_eq_false c87
          clear c87
          (first | rw [c87b0] | (simp only [i64_w, i32_w]; rw [c87b0]) | skip)
          replace H := Option.bind_eq_some_iff.mp H
          obtain ⟨t508, A880, H⟩ := H
          try dsimp only at H
          have A88 := Aside0.mk A880
          clear A880
          by_cases c89 : t508 = true
          ·subst c89
           rw [if_pos rfl] at H
           have H' := Aside0.mk H
           clear H
           have hnb90 := NB492_460.out
           have hnc90 := NB460_492.out
           have hnb91 := NB492_476.out
           have hnc91 := NB476_492.out
           have hnb92 := NB492_482.out
           have hnc92 := NB482_492.out
           have hcz93_0 : w86.cell? ⟨gb492, 0, none⟩ = some (.int .i64 t486) := (blk_cell BK492.out 0).trans rfl
           have hcz93_1 : w86.cell? ⟨gb492, 1, none⟩ = some (.slice Ao46 t487.length co46) := (blk_cell BK492.out 1).trans rfl
           have hcz93_2 : w86.cell? ⟨gb492, 2, none⟩ = some (.bool t490) := (blk_cell BK492.out 2).trans rfl
           have hfz93_0 := blk_frozen BK492.out 0
           have hfz93_1 := blk_frozen BK492.out 1
           have hfz93_2 := blk_frozen BK492.out 2
           have hnb94 := NB476_460.out
           have hnc94 := NB460_476.out
           have hnb95 := NB476_482.out
           have hnc95 := NB482_476.out
           have hcz96_0 : w86.cell? ⟨gb476, 0, none⟩ = some (.int .i64 t470) := (blk_cell BK476.out 0).trans rfl
           have hcz96_1 : w86.cell? ⟨gb476, 1, none⟩ = some (.slice Ao29 t471.length co29) := (blk_cell BK476.out 1).trans rfl
           have hcz96_2 : w86.cell? ⟨gb476, 2, none⟩ = some (.bool t474) := (blk_cell BK476.out 2).trans rfl
           have hfz96_0 := blk_frozen BK476.out 0
           have hfz96_1 := blk_frozen BK476.out 1
           have hfz96_2 := blk_frozen BK476.out 2
           go_wp2_with (first | (go_at_call 37; (with_reducible refine (laws_eqDec.calls kj15 t486 _ _ t487 t490 t470 _ _ t471 t474 true _ ?side1 ?side2 ?side3 ?side4 A88.out).mono ?_); (case side1 => exact kc_ (Kd.R_reads' HO_493001.out).2.2); (case side2 => exact (Kd.R_reads' HO_493001.out).2.1); (case side3 => exact kc_ (Kd.R_reads' HO_477001.out).2.2); (case side4 => exact (Kd.R_reads' HO_477001.out).2.1); rintro e w97 ⟨rfl, hb⟩; have n0_ := Aside0.mk (Kd.R_below (kr_ HO_9) hb); have n1_ := Aside0.mk (Kd.R_below (kr_ HO_477001) hb); have n2_ := Aside0.mk (Kd.R_below (kr_ HO_483001) hb); have n3_ := Aside0.mk (Kd.R_below (kr_ HO_493001) hb); have n4_ := Aside0.mk (Kd.R_below (kr_ HO497) hb); have n5_ := Aside0.mk (Kd.R_below (kr_ HO502) hb); have n6_ := Aside0.mk (blk_below (g := gb460) (o := .cells #[.int .i64 a0_0, .slice A0_1 l0_1.length c0_1, .bool a0_2] 44 (0, 0)) (kb_ BK460) hb); have n7_ := Aside0.mk (blk_below (g := gb476) (o := .cells #[.int .i64 t470, .slice Ao29 t471.length co29, .bool t474] 46 (0, 0)) (kb_ BK476) hb); have n8_ := Aside0.mk (blk_below (g := gb482) (o := .cells #[.int .i64 t477, .slice Ao36 t478.length co36, .bool t481] 46 (0, 0)) (kb_ BK482) hb); have n9_ := Aside0.mk (blk_below (g := gb492) (o := .cells #[.int .i64 t486, .slice Ao46 t487.length co46, .bool t490] 46 (0, 0)) (kb_ BK492) hb); have n10_ := Aside0.mk (below_step hs_ hb); clear HO_9; clear HO_477001; clear HO_483001; clear HO_493001; clear HO497; clear HO502; clear BK460; clear BK476; clear BK482; clear BK492; clear HB; have HO_9 := n0_; have HO_477001 := n1_; have HO_483001 := n2_; have HO_493001 := n3_; have HO497 := n4_; have HO502 := n5_; have BK460 := n6_; have BK476 := n7_; have BK482 := n8_; have BK492 := n9_; have HB := n10_; clear n0_ n1_ n2_ n3_ n4_ n5_ n6_ n7_ n8_ n9_ n10_; try clear hb))
           go_meet
           case rel => exact ⟨_, ((t491.toList != t475.toList)), (by first | rfl | (simp; done) | (simp [*]; done)), H', ⟨by have := HJ15.out; first | omega | exact Nat.le_refl _⟩, ⟨by (with_reducible repeat (first | apply Kd.R_alloc | apply Kd.R_drewN | apply Kd.R_drew)); exact Kd.R_mono HO_477001.out (fun _ hk => ⟨hk.2.1, hk.2.2.1⟩)⟩, ⟨by (with_reducible repeat (first | apply Kd.R_alloc | apply Kd.R_drewN | apply Kd.R_drew)); exact Kd.R_mono HO_483001.out (fun _ hk => ⟨hk.2.1, hk.2.2.1⟩)⟩, ⟨by (with_reducible repeat (first | apply Kd.R_alloc | apply Kd.R_drewN | apply Kd.R_drew)); exact Kd.R_mono HO_493001.out (fun _ hk => ⟨hk.2.1, hk.2.2.1⟩)⟩, ⟨by (with_reducible repeat (first | refine blk_drewN ?_ _ | refine blk_drew ?_ | refine blk_alloc ?_ _)); exact BK460.out⟩, ⟨by (with_reducible repeat (first | refine blk_drewN ?_ _ | refine blk_drew ?_ | refine blk_alloc ?_ _)); exact BK476.out⟩, ⟨by (with_reducible repeat (first | refine blk_drewN ?_ _ | refine blk_drew ?_ | refine blk_alloc ?_ _)); exact BK482.out⟩, ⟨by (with_reducible repeat (first | refine blk_drewN ?_ _ | refine blk_drew ?_ | refine blk_alloc ?_ _)); exact BK492.out⟩, ⟨by repeat (first | (with_reducible first | exact HB.out | apply below_alloc | apply pw_below_drewN | apply below_drew1 | refine below_set ?_ GE460.out | refine below_set ?_ GE476.out | refine below_set ?_ GE482.out | refine below_set ?_ GE492.out) | exact HB.out)⟩⟩
          ·replace c89 := Bool.eq_false_iff.mpr c89
           subst c89
           rw [if_neg (show ¬ (false = true) by decide)] at H
           have H' := Aside0.mk H
           clear H
           have hnb98 := NB492_460.out
           have hnc98 := NB460_492.out
           have hnb99 := NB492_476.out
           have hnc99 := NB476_492.out
           have hnb100 := NB492_482.out
           have hnc100 := NB482_492.out
           have hcz101_0 : w86.cell? ⟨gb492, 0, none⟩ = some (.int .i64 t486) := (blk_cell BK492.out 0).trans rfl
           have hcz101_1 : w86.cell? ⟨gb492, 1, none⟩ = some (.slice Ao46 t487.length co46) := (blk_cell BK492.out 1).trans rfl
           have hcz101_2 : w86.cell? ⟨gb492, 2, none⟩ = some (.bool t490) := (blk_cell BK492.out 2).trans rfl
           have hfz101_0 := blk_frozen BK492.out 0
           have hfz101_1 := blk_frozen BK492.out 1
           have hfz101_2 := blk_frozen BK492.out 2
           have hnb102 := NB476_460.out
           have hnc102 := NB460_476.out
           have hnb103 := NB476_482.out
           have hnc103 := NB482_476.out
           have hcz104_0 : w86.cell? ⟨gb476, 0, none⟩ = some (.int .i64 t470) := (blk_cell BK476.out 0).trans rfl
           have hcz104_1 : w86.cell? ⟨gb476, 1, none⟩ = some (.slice Ao29 t471.length co29) := (blk_cell BK476.out 1).trans rfl
           have hcz104_2 : w86.cell? ⟨gb476, 2, none⟩ = some (.bool t474) := (blk_cell BK476.out 2).trans rfl
           have hfz104_0 := blk_frozen BK476.out 0
           have hfz104_1 := blk_frozen BK476.out 1
           have hfz104_2 := blk_frozen BK476.out 2
           go_wp2_with (first | (go_at_call 37; (with_reducible refine (laws_eqDec.calls kj15 t486 _ _ t487 t490 t470 _ _ t471 t474 false _ ?side1 ?side2 ?side3 ?side4 A88.out).mono ?_); (case side1 => exact kc_ (Kd.R_reads' HO_493001.out).2.2); (case side2 => exact (Kd.R_reads' HO_493001.out).2.1); (case side3 => exact kc_ (Kd.R_reads' HO_477001.out).2.2); (case side4 => exact (Kd.R_reads' HO_477001.out).2.1); rintro e w105 ⟨rfl, hb⟩; have n0_ := Aside0.mk (Kd.R_below (kr_ HO_9) hb); have n1_ := Aside0.mk (Kd.R_below (kr_ HO_477001) hb); have n2_ := Aside0.mk (Kd.R_below (kr_ HO_483001) hb); have n3_ := Aside0.mk (Kd.R_below (kr_ HO_493001) hb); have n4_ := Aside0.mk (Kd.R_below (kr_ HO497) hb); have n5_ := Aside0.mk (Kd.R_below (kr_ HO502) hb); have n6_ := Aside0.mk (blk_below (g := gb460) (o := .cells #[.int .i64 a0_0, .slice A0_1 l0_1.length c0_1, .bool a0_2] 44 (0, 0)) (kb_ BK460) hb); have n7_ := Aside0.mk (blk_below (g := gb476) (o := .cells #[.int .i64 t470, .slice Ao29 t471.length co29, .bool t474] 46 (0, 0)) (kb_ BK476) hb); have n8_ := Aside0.mk (blk_below (g := gb482) (o := .cells #[.int .i64 t477, .slice Ao36 t478.length co36, .bool t481] 46 (0, 0)) (kb_ BK482) hb); have n9_ := Aside0.mk (blk_below (g := gb492) (o := .cells #[.int .i64 t486, .slice Ao46 t487.length co46, .bool t490] 46 (0, 0)) (kb_ BK492) hb); have n10_ := Aside0.mk (below_step hs_ hb); clear HO_9; clear HO_477001; clear HO_483001; clear HO_493001; clear HO497; clear HO502; clear BK460; clear BK476; clear BK482; clear BK492; clear HB; have HO_9 := n0_; have HO_477001 := n1_; have HO_483001 := n2_; have HO_493001 := n3_; have HO497 := n4_; have HO502 := n5_; have BK460 := n6_; have BK476 := n7_; have BK482 := n8_; have BK492 := n9_; have HB := n10_; clear n0_ n1_ n2_ n3_ n4_ n5_ n6_ n7_ n8_ n9_ n10_; try clear hb))
           go_meet
           case rel => exact ⟨_, (true), (by first | rfl | (simp; done) | (simp [*]; done)), H', ⟨by have := HJ15.out; first | omega | exact Nat.le_refl _⟩, ⟨by (with_reducible repeat (first | apply Kd.R_alloc | apply Kd.R_drewN | apply Kd.R_drew)); exact Kd.R_mono HO_477001.out (fun _ hk => ⟨hk.2.1, hk.2.2.1⟩)⟩, ⟨by (with_reducible repeat (first | apply Kd.R_alloc | apply Kd.R_drewN | apply Kd.R_drew)); exact Kd.R_mono HO_483001.out (fun _ hk => ⟨hk.2.1, hk.2.2.1⟩)⟩, ⟨by (with_reducible repeat (first | apply Kd.R_alloc | apply Kd.R_drewN | apply Kd.R_drew)); exact Kd.R_mono HO_493001.out (fun _ hk => ⟨hk.2.1, hk.2.2.1⟩)⟩, ⟨by (with_reducible repeat (first | refine blk_drewN ?_ _ | refine blk_drew ?_ | refine blk_alloc ?_ _)); exact BK460.out⟩, ⟨by (with_reducible repeat (first | refine blk_drewN ?_ _ | refine blk_drew ?_ | refine blk_alloc ?_ _)); exact BK476.out⟩, ⟨by (with_reducible repeat (first | refine blk_drewN ?_ _ | refine blk_drew ?_ | refine blk_alloc ?_ _)); exact BK482.out⟩, ⟨by (with_reducible repeat (first | refine blk_drewN ?_ _ | refine blk_drew ?_ | refine blk_alloc ?_ _)); exact BK492.out⟩, ⟨by repeat (first | (with_reducible first | exact HB.out | apply below_alloc | apply pw_below_drewN | apply below_drew1 | refine below_set ?_ GE460.out | refine below_set ?_ GE476.out | refine below_set ?_ GE482.out | refine below_set ?_ GE492.out) | exact HB.out)⟩⟩
        case rest =>
         clear HC74
         try clear c1
         try clear c2
         try clear p2
         try clear c3
         try clear c3b0
         try clear c3b1
         try clear c4
         try clear c5
         try clear c6
         try clear c6b0
         try clear c7
         try clear c8
         try clear c9
         try clear c10
         try clear c20
         try clear c21
         try clear c27
         try clear c31
         try clear c33
         try clear c34
         try clear c35
         try clear c36
         try clear c37
         try clear c38
         try clear c42
         try clear c43
         try clear c44
         try clear c48
         try clear c49
         try clear c50
         try clear c51
         try clear c53
         try clear c54
         try clear c57
         try clear c58
         try clear c59
         try clear c61
         try clear c62
         try clear c65
         try clear c68
         try clear c71
         try clear c81
         try clear c82
         try clear c83
         try clear c87
         try clear c87b0
         try clear c89
         try clear c90
         try clear c91
         try clear c92
         try clear c94
         try clear c95
         try clear c98
         try clear c99
         try clear c100
         try clear c102
         try clear c103
         try clear hcz101_0
         try clear hcz101_1
         try clear hcz101_2
         try clear hcz104_0
         try clear hcz104_1
         try clear hcz104_2
         try clear hcz18_0
         try clear hcz18_1
         try clear hcz18_2
         try clear hcz20_0
         try clear hcz20_1
         try clear hcz20_2
         try clear hcz28_0
         try clear hcz28_1
         try clear hcz28_2
         try clear hcz30_0
         try clear hcz30_1
         try clear hcz30_2
         try clear hcz35_0
         try clear hcz35_1
         try clear hcz35_2
         try clear hcz38_0
         try clear hcz38_1
         try clear hcz38_2
         try clear hcz45_0
         try clear hcz45_1
         try clear hcz45_2
         try clear hcz52_0
         try clear hcz52_1
         try clear hcz52_2
         try clear hcz55_0
         try clear hcz55_1
         try clear hcz55_2
         try clear hcz60_0
         try clear hcz60_1
         try clear hcz60_2
         try clear hcz63_0
         try clear hcz63_1
         try clear hcz63_2
         try clear hcz84_0
         try clear hcz84_1
         try clear hcz84_2
         try clear hcz8_0
         try clear hcz8_1
         try clear hcz8_2
         try clear hcz93_0
         try clear hcz93_1
         try clear hcz93_2
         try clear hcz96_0
         try clear hcz96_1
         try clear hcz96_2
         try clear hfz101_0
         try clear hfz101_1
         try clear hfz101_2
         try clear hfz104_0
         try clear hfz104_1
         try clear hfz104_2
         try clear hfz18_0
         try clear hfz18_1
         try clear hfz18_2
         try clear hfz20_0
         try clear hfz20_1
         try clear hfz20_2
         try clear hfz28_0
         try clear hfz28_1
         try clear hfz28_2
         try clear hfz30_0
         try clear hfz30_1
         try clear hfz30_2
         try clear hfz35_0
         try clear hfz35_1
         try clear hfz35_2
         try clear hfz38_0
         try clear hfz38_1
         try clear hfz38_2
         try clear hfz45_0
         try clear hfz45_1
         try clear hfz45_2
         try clear hfz52_0
         try clear hfz52_1
         try clear hfz52_2
         try clear hfz55_0
         try clear hfz55_1
         try clear hfz55_2
         try clear hfz60_0
         try clear hfz60_1
         try clear hfz60_2
         try clear hfz63_0
         try clear hfz63_1
         try clear hfz63_2
         try clear hfz84_0
         try clear hfz84_1
         try clear hfz84_2
         try clear hfz8_0
         try clear hfz8_1
         try clear hfz8_2
         try clear hfz93_0
         try clear hfz93_1
         try clear hfz93_2
         try clear hfz96_0
         try clear hfz96_1
         try clear hfz96_2
         try clear p2
         obtain ⟨kq, x80_73, rfl, HA, HJ73, HO_477001, HO_483001, HO_493001, BK460, BK476, BK482, BK492, HB⟩ := hcut
         have hl483001_73 := (Kd.R_reads' HO_483001.out).1
         rw [hl483001_73] at HO_483001
         (try simp only [hl483001_73])
         (try simp only [hl483001_73] at BK460)
         (try simp only [hl483001_73] at BK476)
         (try simp only [hl483001_73] at BK482)
         (try simp only [hl483001_73] at BK492)
         (try simp only [hl483001_73] at HO_477001)
         (try simp only [hl483001_73] at HO_493001)
         cases kq with
         | zero => exact absurd HA.out (by simp [laws_FnExactFeed.j1])
         | succ kj73 =>
          have H := HA.out
          clear HA
          simp only [laws_FnExactFeed.j1] at H
          by_cases c106 : x80_73 = true
          ·subst c106
           rw [if_pos rfl] at H
           obtain rfl := Option.some.inj H
           cases hr_
          ·replace c106 := Bool.eq_false_iff.mpr c106
           subst c106
           rw [if_neg (show ¬ (false = true) by decide)] at H
           replace H := Option.bind_eq_some_iff.mp H
           obtain ⟨⟨t509, t510⟩, A1070, H⟩ := H
           try dsimp only at H
           have A107 := Aside0.mk A1070
           clear A1070
           replace H := Option.bind_eq_some_iff.mp H
           obtain ⟨t511, A1080, H⟩ := H
           try dsimp only at H
           have A108 := Aside0.mk A1080
           clear A1080
           by_cases c109 : t511 < 0
           ·rw [if_pos c109] at H
            have c109b0 : decide (t511 < 0) = true := decide_eq_true c109
            clear c109
            obtain rfl := Option.some.inj H
            cases hr_
           ·rw [if_neg c109] at H
            have c109b0 : decide (t511 < 0) = false := decide_eq_false c109
            clear c109
            by_cases c117 : t511 = t509
            ·rw [if_pos c117] at H
             have c117b0 : (t511 == t509) = true := beq_iff_eq.mpr c117
             have c117b1 : (t511 != t509) = false := bne_eq_false_iff_eq.mpr c117
             clear c117
             replace H := Option.bind_eq_some_iff.mp H
             obtain ⟨⟨t512, t513, t516⟩, A1180, H⟩ := H
             try dsimp only at H
             have A118 := Aside0.mk A1180
             clear A1180
             replace H := Option.bind_eq_some_iff.mp H
             obtain ⟨t517, A1190, H⟩ := H
             try dsimp only at H
             have A119 := Aside0.mk A1190
             clear A1190
             replace H := Option.bind_eq_some_iff.mp H
             obtain ⟨⟨t520, t521, t524, t525⟩, A1200, H⟩ := H
             try dsimp only at H
             have A120 := Aside0.mk A1200
             clear A1200
             have HC121 := Aside0.mk H
             clear H
             have hnb122 := NB492_460.out
             have hnc122 := NB460_492.out
             have hnb123 := NB492_476.out
             have hnc123 := NB476_492.out
             have hnb124 := NB492_482.out
             have hnc124 := NB482_492.out
             have hcz125_0 : wc.cell? ⟨gb492, 0, none⟩ = some (.int .i64 t486) := (blk_cell BK492.out 0).trans rfl
             have hcz125_1 : wc.cell? ⟨gb492, 1, none⟩ = some (.slice Ao46 t487.length co46) := (blk_cell BK492.out 1).trans rfl
             have hcz125_2 : wc.cell? ⟨gb492, 2, none⟩ = some (.bool t490) := (blk_cell BK492.out 2).trans rfl
             have hfz125_0 := blk_frozen BK492.out 0
             have hfz125_1 := blk_frozen BK492.out 1
             have hfz125_2 := blk_frozen BK492.out 2
             go_upto_region 31 with (first | ((with_reducible refine gate_callee (f := 38) rfl ?_); refine goesL_ (some 83) rfl rfl Tryd.func38 (by kernel_rfl) rfl #[.agg #[.int .i64 t486, .slice Ao46 t487.length co46, .bool t490], .int .i64 1] rfl ka_ ?_; (with_reducible refine (laws_markDec.calls kj73 t486 (fun k_ => some k_ = (.slice Ao46 t487.length co46 : Value).ownBlock) (.slice Ao46 t487.length co46) t487 t490 1 t509 t510 w _ ?side1 ?side2 A107.out).mono ?_); (case side1 => exact hs_); (case side2 => exact Kd.R_tight rfl HO_493001.out); rintro e w126 ⟨rfl, hy0, hb, hkp⟩; refine ⟨_, rfl, ?_⟩; have n0_ := Aside0.mk (Kd.R_mono (ok' := fun k_ => some k_ ≠ (.slice Ao36 t505.length co36 : Value).ownBlock ∧ some k_ ≠ (.slice Ao46 t487.length co46 : Value).ownBlock) (Kd.R_keptB (HO_477001.out) hkp (fun k_ hk_ hs_ => (hk_.2) hs_)) (fun k_ hk_ => ⟨hk_.1.1, hk_.1.2⟩)); have n1_ := Aside0.mk (Kd.R_mono (ok' := fun k_ => some k_ ≠ (.slice Ao29 t471.length co29 : Value).ownBlock ∧ some k_ ≠ (.slice Ao46 t487.length co46 : Value).ownBlock) (Kd.R_keptB (HO_483001.out) hkp (fun k_ hk_ hs_ => (hk_.2) hs_)) (fun k_ hk_ => ⟨hk_.1.1, hk_.1.2⟩)); have n2_ := Aside0.mk (Kd.R_reok rfl hy0 (fun k_ e_ => HO_493001.out.1 k_ e_)); have n3_ := Aside0.mk (blk_kept (kb_ BK460) hkp (fun hs_ => (fun e_ => (Kd.R_ne HO_493001.out BK460.out (by decide)) e_) hs_)); have n4_ := Aside0.mk (blk_kept (kb_ BK476) hkp (fun hs_ => (fun e_ => (Kd.R_ne HO_493001.out BK476.out (by decide)) e_) hs_)); have n5_ := Aside0.mk (blk_kept (kb_ BK482) hkp (fun hs_ => (fun e_ => (Kd.R_ne HO_493001.out BK482.out (by decide)) e_) hs_)); have n6_ := Aside0.mk (blk_kept (kb_ BK492) hkp (fun hs_ => (fun e_ => (Kd.R_ne HO_493001.out BK492.out (by decide)) e_) hs_)); have n7_ := Aside0.mk (hb); clear HO_477001; clear HO_483001; clear HO_493001; clear BK460; clear BK476; clear BK482; clear BK492; clear HB; have HO_477001 := n0_; have HO_483001 := n1_; have HO_493001 := n2_; have BK460 := n3_; have BK476 := n4_; have BK482 := n5_; have BK492 := n6_; have HB := n7_; clear n0_ n1_ n2_ n3_ n4_ n5_ n6_ n7_; (try clear hb); (try clear hkp); (try clear hy0); have hcz127_0 : w126.cell? ⟨gb492, 0, none⟩ = some (.int .i64 t486) := (blk_cell BK492.out 0).trans rfl; have hcz127_1 : w126.cell? ⟨gb492, 1, none⟩ = some (.slice Ao46 t487.length co46) := (blk_cell BK492.out 1).trans rfl; have hcz127_2 : w126.cell? ⟨gb492, 2, none⟩ = some (.bool t490) := (blk_cell BK492.out 2).trans rfl; have hfz127_0 := blk_frozen BK492.out 0; have hfz127_1 := blk_frozen BK492.out 1; have hfz127_2 := blk_frozen BK492.out 2) | ((with_reducible refine gate_callee (f := 39) rfl ?_); refine goesL_ (some 86) rfl rfl Tryd.func39 (by kernel_rfl) rfl #[.agg #[.int .i64 t486, .slice Ao46 t510.length co46, .bool t490], .int .i64 1] rfl (by (try simp only [List.map_toArray, List.map_cons, List.map_nil]); first | done | (rw [show t510.length = t487.length from (Kd.R_reads' HO_493001.out).1.symm] <;> rfl) | rfl | (simp only [List.length_drop, List.length_take]; rfl)) ?_; (with_reducible refine (laws_heldDec.calls kj73 t486 _ _ t510 t490 1 t511 _ ?side1 ?side2 A108.out).mono ?_); (case side1 => exact kc_ (Kd.R_reads' HO_493001.out).2.2); (case side2 => rw [show t510.length = t487.length from (Kd.R_reads' HO_493001.out).1.symm]; exact (Kd.R_reads' HO_493001.out).2.1); rintro e w128 ⟨rfl, hb⟩; refine ⟨_, rfl, ?_⟩; have n0_ := Aside0.mk (Kd.R_below (kr_ HO_477001) hb); have n1_ := Aside0.mk (Kd.R_below (kr_ HO_483001) hb); have n2_ := Aside0.mk (Kd.R_below (kr_ HO_493001) hb); have n3_ := Aside0.mk (blk_below (g := gb460) (o := .cells #[.int .i64 a0_0, .slice A0_1 l0_1.length c0_1, .bool a0_2] 44 (0, 0)) (kb_ BK460) hb); have n4_ := Aside0.mk (blk_below (g := gb476) (o := .cells #[.int .i64 t470, .slice Ao29 t471.length co29, .bool t474] 46 (0, 0)) (kb_ BK476) hb); have n5_ := Aside0.mk (blk_below (g := gb482) (o := .cells #[.int .i64 t477, .slice Ao36 t505.length co36, .bool t481] 46 (0, 0)) (kb_ BK482) hb); have n6_ := Aside0.mk (blk_below (g := gb492) (o := .cells #[.int .i64 t486, .slice Ao46 t487.length co46, .bool t490] 46 (0, 0)) (kb_ BK492) hb); have n7_ := Aside0.mk (below_step hs_ hb); clear HO_477001; clear HO_483001; clear HO_493001; clear BK460; clear BK476; clear BK482; clear BK492; clear HB; have HO_477001 := n0_; have HO_483001 := n1_; have HO_493001 := n2_; have BK460 := n3_; have BK476 := n4_; have BK482 := n5_; have BK492 := n6_; have HB := n7_; clear n0_ n1_ n2_ n3_ n4_ n5_ n6_ n7_; try clear hb; have hnb129 := NB460_476.out; have hnc129 := NB476_460.out; have hnb130 := NB460_482.out; have hnc130 := NB482_460.out; have hcz131_0 : w128.cell? ⟨gb460, 0, none⟩ = some (.int .i64 a0_0) := (blk_cell BK460.out 0).trans rfl; have hcz131_1 : w128.cell? ⟨gb460, 1, none⟩ = some (.slice A0_1 l0_1.length c0_1) := (blk_cell BK460.out 1).trans rfl; have hcz131_2 : w128.cell? ⟨gb460, 2, none⟩ = some (.bool a0_2) := (blk_cell BK460.out 2).trans rfl; have hfz131_0 := blk_frozen BK460.out 0; have hfz131_1 := blk_frozen BK460.out 1; have hfz131_2 := blk_frozen BK460.out 2) | ((with_reducible refine gate_callee (f := 35) rfl ?_); refine goesL_ (some 94) rfl rfl Tryd.func35 (by kernel_rfl) rfl #[.agg #[.int .i64 a0_0, .slice A0_1 l0_1.length c0_1, .bool a0_2]] rfl ka_ ?_; (with_reducible refine (laws_toDec.calls kj73 a0_0 _ _ l0_1 a0_2 t512 t513 t516 _ ?side1 ?side2 A118.out).mono ?_); (case side1 => repeat (first | exact (Kd.C_below HR0_1.out HB.out) | (with_reducible refine Kd.C_alloc ?_ _) | (with_reducible refine Kd.C_drewN ?_ _) | (with_reducible refine Kd.C_drew ?_))); (case side2 => exact HC0_1.out); rintro e w132 ⟨v514, rfl, ho0, hb⟩; refine ⟨_, rfl, ?_⟩; have n0_ := Aside0.mk (Kd.R_elder' (kr_ HO_477001) (Kd.R_base ho0) hb); have n1_ := Aside0.mk (Kd.R_elder' (kr_ HO_483001) (Kd.R_base ho0) hb); have n2_ := Aside0.mk (Kd.R_elder' (kr_ HO_493001) (Kd.R_base ho0) hb); have n3_ := Aside0.mk (Kd.R_lower (Kd.R_new' (Kd.R_new' (Kd.R_new' ho0 (Kd.R_lt (kr_ HO_477001))) (Kd.R_lt (kr_ HO_483001))) (Kd.R_lt (kr_ HO_493001))) (below_size hs_)); have n4_ := Aside0.mk (blk_below (g := gb460) (o := .cells #[.int .i64 a0_0, .slice A0_1 l0_1.length c0_1, .bool a0_2] 44 (0, 0)) (kb_ BK460) hb); have n5_ := Aside0.mk (blk_below (g := gb476) (o := .cells #[.int .i64 t470, .slice Ao29 t471.length co29, .bool t474] 46 (0, 0)) (kb_ BK476) hb); have n6_ := Aside0.mk (blk_below (g := gb482) (o := .cells #[.int .i64 t477, .slice Ao36 t505.length co36, .bool t481] 46 (0, 0)) (kb_ BK482) hb); have n7_ := Aside0.mk (blk_below (g := gb492) (o := .cells #[.int .i64 t486, .slice Ao46 t487.length co46, .bool t490] 46 (0, 0)) (kb_ BK492) hb); have n8_ := Aside0.mk (below_step hs_ hb); clear HO_477001; clear HO_483001; clear HO_493001; clear BK460; clear BK476; clear BK482; clear BK492; clear HB; have HO_477001 := n0_; have HO_483001 := n1_; have HO_493001 := n2_; have HO515 := n3_; have BK460 := n4_; have BK476 := n5_; have BK482 := n6_; have BK492 := n7_; have HB := n8_; clear n0_ n1_ n2_ n3_ n4_ n5_ n6_ n7_ n8_; try clear hb; (try clear ho0)) | ((with_reducible refine gate_callee (f := 31) rfl ?_); refine goesL_ (some 96) rfl rfl Tryd.func31 (by kernel_rfl) rfl #[.slice A1 l1.length c1] rfl ka_ ?_; (with_reducible refine (laws_toByteS.calls kj73 _ _ l1 t517 _ ?side1 ?side2 A119.out).mono ?_); (case side1 => repeat (first | exact (Kd.C_below HR1.out HB.out) | (with_reducible refine Kd.C_alloc ?_ _) | (with_reducible refine Kd.C_drewN ?_ _) | (with_reducible refine Kd.C_drew ?_))); (case side2 => exact HC1.out); rintro e w133 ⟨v518, rfl, ho0, hb⟩; refine ⟨_, rfl, ?_⟩; have n0_ := Aside0.mk (Kd.R_elder' (kr_ HO_477001) (Kd.R_base ho0) hb); have n1_ := Aside0.mk (Kd.R_elder' (kr_ HO_483001) (Kd.R_base ho0) hb); have n2_ := Aside0.mk (Kd.R_elder' (kr_ HO_493001) (Kd.R_base ho0) hb); have n3_ := Aside0.mk (Kd.R_elder' (kr_ HO515) (Kd.R_base ho0) hb); have n4_ := Aside0.mk (Kd.R_lower (Kd.R_new' (Kd.R_new' (Kd.R_new' (Kd.R_new' ho0 (Kd.R_lt (kr_ HO_477001))) (Kd.R_lt (kr_ HO_483001))) (Kd.R_lt (kr_ HO_493001))) (Kd.R_lt (kr_ HO515))) (below_size hs_)); have n5_ := Aside0.mk (blk_below (g := gb460) (o := .cells #[.int .i64 a0_0, .slice A0_1 l0_1.length c0_1, .bool a0_2] 44 (0, 0)) (kb_ BK460) hb); have n6_ := Aside0.mk (blk_below (g := gb476) (o := .cells #[.int .i64 t470, .slice Ao29 t471.length co29, .bool t474] 46 (0, 0)) (kb_ BK476) hb); have n7_ := Aside0.mk (blk_below (g := gb482) (o := .cells #[.int .i64 t477, .slice Ao36 t505.length co36, .bool t481] 46 (0, 0)) (kb_ BK482) hb); have n8_ := Aside0.mk (blk_below (g := gb492) (o := .cells #[.int .i64 t486, .slice Ao46 t487.length co46, .bool t490] 46 (0, 0)) (kb_ BK492) hb); have n9_ := Aside0.mk (below_step hs_ hb); clear HO_477001; clear HO_483001; clear HO_493001; clear HO515; clear BK460; clear BK476; clear BK482; clear BK492; clear HB; have HO_477001 := n0_; have HO_483001 := n1_; have HO_493001 := n2_; have HO515 := n3_; have HO519 := n4_; have BK460 := n5_; have BK476 := n6_; have BK482 := n7_; have BK492 := n8_; have HB := n9_; clear n0_ n1_ n2_ n3_ n4_ n5_ n6_ n7_ n8_ n9_; try clear hb; (try clear ho0); obtain ⟨Ao134, co134, eo134⟩ := Kd.R_slice HO515.out; subst eo134; obtain ⟨Ao135, co135, eo135⟩ := Kd.R_slice HO519.out; subst eo135) | ((with_reducible refine gate_callee (f := 36) rfl ?_); refine goesL_ (some 97) rfl rfl Tryd.func36 (by kernel_rfl) rfl #[.agg #[.int .i64 t512, .slice Ao134 t513.length co134, .bool t516], .slice Ao135 t517.length co135] rfl ka_ ?_; (with_reducible refine (impl_Feed.calls (hT := ?sideT) kj73 t512 (fun k_ => some k_ = (.slice Ao134 t513.length co134 : Value).ownBlock) _ _ t513 t516 (fun k_ => some k_ = (.slice Ao135 t517.length co135 : Value).ownBlock) _ _ t517 t520 t521 t524 t525 _ ?side1 ?side2 A120.out).mono ?_); (case sideT => first | exact HT.out | exact HT.out.below hs_ | exact HT.out.drawn (by repeat (first | exact Drawn0.refl _ | apply Drawn0.step | assumption))); (case side1 => exact Kd.R_V (Kd.R_tight rfl (Kd.R_types (Kd.R_types (Kd.R_types (Kd.R_types (HO515.out) BK460.out (by decide)) BK476.out (by decide)) BK482.out (by decide)) BK492.out (by decide)))); (case side2 => exact Kd.R_V (Kd.R_tight rfl (Kd.R_types (Kd.R_types (Kd.R_types (Kd.R_types (HO519.out) BK460.out (by decide)) BK476.out (by decide)) BK482.out (by decide)) BK492.out (by decide)))); rintro e w136 ⟨v522, rfl, ho0, hb⟩; refine ⟨_, rfl, ?_⟩; have n0_ := Aside0.mk (Kd.R_elder' (kr_ HO_477001) (Kd.R_base ho0) hb); have n1_ := Aside0.mk (Kd.R_elder' (kr_ HO_483001) (Kd.R_base ho0) hb); have n2_ := Aside0.mk (Kd.R_elder' (kr_ HO_493001) (Kd.R_base ho0) hb); have n3_ := Aside0.mk (Kd.R_elder' (kr_ HO515) (Kd.R_base ho0) hb); have n4_ := Aside0.mk (Kd.R_elder' (kr_ HO519) (Kd.R_base ho0) hb); have n5_ := Aside0.mk (Kd.R_lower (Kd.R_new' (Kd.R_new' (Kd.R_new' (Kd.R_new' (Kd.R_new' (Kd.R_mono (ok' := fun k_ => True) ho0 (fun _ hk_ => trivial)) (Kd.R_lt (kr_ HO_477001))) (Kd.R_lt (kr_ HO_483001))) (Kd.R_lt (kr_ HO_493001))) (Kd.R_lt (kr_ HO515))) (Kd.R_lt (kr_ HO519))) (below_size hs_)); have n6_ := Aside0.mk (blk_below (g := gb460) (o := .cells #[.int .i64 a0_0, .slice A0_1 l0_1.length c0_1, .bool a0_2] 44 (0, 0)) (kb_ BK460) hb); have n7_ := Aside0.mk (blk_below (g := gb476) (o := .cells #[.int .i64 t470, .slice Ao29 t471.length co29, .bool t474] 46 (0, 0)) (kb_ BK476) hb); have n8_ := Aside0.mk (blk_below (g := gb482) (o := .cells #[.int .i64 t477, .slice Ao36 t505.length co36, .bool t481] 46 (0, 0)) (kb_ BK482) hb); have n9_ := Aside0.mk (blk_below (g := gb492) (o := .cells #[.int .i64 t486, .slice Ao46 t487.length co46, .bool t490] 46 (0, 0)) (kb_ BK492) hb); have n10_ := Aside0.mk (below_step hs_ hb); clear HO_477001; clear HO_483001; clear HO_493001; clear HO515; clear HO519; clear BK460; clear BK476; clear BK482; clear BK492; clear HB; have HO_477001 := n0_; have HO_483001 := n1_; have HO_493001 := n2_; have HO515 := n3_; have HO519 := n4_; have HO523 := n5_; have BK460 := n6_; have BK476 := n7_; have BK482 := n8_; have BK492 := n9_; have HB := n10_; clear n0_ n1_ n2_ n3_ n4_ n5_ n6_ n7_ n8_ n9_ n10_; try clear hb; (try clear ho0)) | ((with_reducible refine gate_dst (N := 15) rfl ?_); refine box_event ?hg (N := 15) ?hd (cs := #[.int .i64 0, .slice none 0 0, .bool false]) (t := 46) ?hr ?_; (case hd => rfl); (case hg => rfl); (case hr => first | (go_simp; done) | (go_simp; rfl)); intro gb526 hg w137 hbox hb; have n0_ := Aside0.mk (Kd.R_below (kr_ HO_477001) hb); have n1_ := Aside0.mk (Kd.R_below (kr_ HO_483001) hb); have n2_ := Aside0.mk (Kd.R_below (kr_ HO_493001) hb); have n3_ := Aside0.mk (Kd.R_below (kr_ HO515) hb); have n4_ := Aside0.mk (Kd.R_below (kr_ HO519) hb); have n5_ := Aside0.mk (Kd.R_below (kr_ HO523) hb); have n6_ := Aside0.mk (blk_below (g := gb460) (o := .cells #[.int .i64 a0_0, .slice A0_1 l0_1.length c0_1, .bool a0_2] 44 (0, 0)) (kb_ BK460) hb); have n7_ := Aside0.mk (blk_below (g := gb476) (o := .cells #[.int .i64 t470, .slice Ao29 t471.length co29, .bool t474] 46 (0, 0)) (kb_ BK476) hb); have n8_ := Aside0.mk (blk_below (g := gb482) (o := .cells #[.int .i64 t477, .slice Ao36 t505.length co36, .bool t481] 46 (0, 0)) (kb_ BK482) hb); have n9_ := Aside0.mk (blk_below (g := gb492) (o := .cells #[.int .i64 t486, .slice Ao46 t487.length co46, .bool t490] 46 (0, 0)) (kb_ BK492) hb); have n10_ := Aside0.mk (below_step hs_ hb); have n11_ := Aside0.mk (hbox); have n12_ := Aside0.mk ((by rw [hg]; exact (below_size hs_) : w.heap.size ≤ gb526)); have n13_ := Aside0.mk ((by rw [hg]; exact (below_size hs_) : w.heap.size ≤ gb526)); have n14_ := Aside0.mk ((by rw [hg]; exact Nat.ne_of_lt (blk_lt (g := gb460) (o := .cells #[.int .i64 a0_0, .slice A0_1 l0_1.length c0_1, .bool a0_2] 44 (0, 0)) (kb_ BK460)) : gb460 ≠ gb526)); have n15_ := Aside0.mk ((by rw [hg]; exact Nat.ne_of_gt (blk_lt (g := gb460) (o := .cells #[.int .i64 a0_0, .slice A0_1 l0_1.length c0_1, .bool a0_2] 44 (0, 0)) (kb_ BK460)) : gb526 ≠ gb460)); have n16_ := Aside0.mk ((by rw [hg]; exact Nat.ne_of_lt (blk_lt (g := gb476) (o := .cells #[.int .i64 t470, .slice Ao29 t471.length co29, .bool t474] 46 (0, 0)) (kb_ BK476)) : gb476 ≠ gb526)); have n17_ := Aside0.mk ((by rw [hg]; exact Nat.ne_of_gt (blk_lt (g := gb476) (o := .cells #[.int .i64 t470, .slice Ao29 t471.length co29, .bool t474] 46 (0, 0)) (kb_ BK476)) : gb526 ≠ gb476)); have n18_ := Aside0.mk ((by rw [hg]; exact Nat.ne_of_lt (blk_lt (g := gb482) (o := .cells #[.int .i64 t477, .slice Ao36 t505.length co36, .bool t481] 46 (0, 0)) (kb_ BK482)) : gb482 ≠ gb526)); have n19_ := Aside0.mk ((by rw [hg]; exact Nat.ne_of_gt (blk_lt (g := gb482) (o := .cells #[.int .i64 t477, .slice Ao36 t505.length co36, .bool t481] 46 (0, 0)) (kb_ BK482)) : gb526 ≠ gb482)); have n20_ := Aside0.mk ((by rw [hg]; exact Nat.ne_of_lt (blk_lt (g := gb492) (o := .cells #[.int .i64 t486, .slice Ao46 t487.length co46, .bool t490] 46 (0, 0)) (kb_ BK492)) : gb492 ≠ gb526)); have n21_ := Aside0.mk ((by rw [hg]; exact Nat.ne_of_gt (blk_lt (g := gb492) (o := .cells #[.int .i64 t486, .slice Ao46 t487.length co46, .bool t490] 46 (0, 0)) (kb_ BK492)) : gb526 ≠ gb492)); clear HO_477001; clear HO_483001; clear HO_493001; clear HO515; clear HO519; clear HO523; clear BK460; clear BK476; clear BK482; clear BK492; clear HB; have HO_477001 := n0_; have HO_483001 := n1_; have HO_493001 := n2_; have HO515 := n3_; have HO519 := n4_; have HO523 := n5_; have BK460 := n6_; have BK476 := n7_; have BK482 := n8_; have BK492 := n9_; have HB := n10_; have BK526 := n11_; have GW526 := n12_; have GE526 := n13_; have NB460_526 := n14_; have NB526_460 := n15_; have NB476_526 := n16_; have NB526_476 := n17_; have NB482_526 := n18_; have NB526_482 := n19_; have NB492_526 := n20_; have NB526_492 := n21_; clear n0_ n1_ n2_ n3_ n4_ n5_ n6_ n7_ n8_ n9_ n10_ n11_ n12_ n13_ n14_ n15_ n16_ n17_ n18_ n19_ n20_ n21_; clear hb hbox hg; have hnb138 := NB526_460.out; have hnc138 := NB460_526.out; have hnb139 := NB526_476.out; have hnc139 := NB476_526.out; have hnb140 := NB526_482.out; have hnc140 := NB482_526.out; have hnb141 := NB526_492.out; have hnc141 := NB492_526.out; have hcz142_0 : w137.cell? ⟨gb526, 0, none⟩ = some (.int .i64 0) := (blk_cell BK526.out 0).trans rfl; have hcz142_1 : w137.cell? ⟨gb526, 1, none⟩ = some (.slice none 0 0) := (blk_cell BK526.out 1).trans rfl; have hcz142_2 : w137.cell? ⟨gb526, 2, none⟩ = some (.bool false) := (blk_cell BK526.out 2).trans rfl; have hfz142_0 := blk_frozen BK526.out 0; have hfz142_1 := blk_frozen BK526.out 1; have hfz142_2 := blk_frozen BK526.out 2; obtain ⟨Ao143, co143, eo143⟩ := Kd.R_slice HO523.out; subst eo143))
             (try simp only [Act.put, List.setIfInBounds_toArray, List.set_cons_zero, List.set_cons_succ])
             go_cut [108] (fun v108 wc => ∃ (kq : Nat) (x108_120 : Bool), v108 = .bool x108_120 ∧ Aside0 (laws_FnExactFeed.j2 kq t509 x108_120 t486 t510 t490 = some r) ∧ Aside0 (kq ≤ kj73) ∧ Aside0 (Kd.R (Kd.int .u8) 5 wc w.heap.size (fun k_ => some k_ ≠ ((.slice Ao36 t505.length co36) : Value).ownBlock ∧ some k_ ≠ ((.slice Ao46 t487.length co46) : Value).ownBlock ∧ some k_ ≠ ((.slice Ao143 t521.length co143) : Value).ownBlock) (.slice Ao29 t471.length co29) t471) ∧ Aside0 (Kd.R (Kd.int .u8) 5 wc w.heap.size (fun k_ => some k_ ≠ ((.slice Ao29 t471.length co29) : Value).ownBlock ∧ some k_ ≠ ((.slice Ao46 t487.length co46) : Value).ownBlock ∧ some k_ ≠ ((.slice Ao143 t521.length co143) : Value).ownBlock) (.slice Ao36 t505.length co36) t505) ∧ Aside0 (Kd.R (Kd.int .u8) 5 wc w.heap.size (fun k_ => some k_ ≠ ((.slice Ao29 t471.length co29) : Value).ownBlock ∧ some k_ ≠ ((.slice Ao36 t505.length co36) : Value).ownBlock ∧ some k_ ≠ ((.slice Ao143 t521.length co143) : Value).ownBlock) (.slice Ao46 t487.length co46) t510) ∧ Aside0 (Kd.R (Kd.int .u8) 5 wc w.heap.size (fun k_ => some k_ ≠ ((.slice Ao29 t471.length co29) : Value).ownBlock ∧ some k_ ≠ ((.slice Ao36 t505.length co36) : Value).ownBlock ∧ some k_ ≠ ((.slice Ao46 t487.length co46) : Value).ownBlock) (.slice Ao143 t521.length co143) t521) ∧ Aside0 (wc.heap[gb460]? = some (.cells #[.int .i64 a0_0, (.slice A0_1 l0_1.length c0_1), .bool a0_2] 44 (0, 0))) ∧ Aside0 (wc.heap[gb476]? = some (.cells #[.int .i64 t470, (.slice Ao29 t471.length co29), .bool t474] 46 (0, 0))) ∧ Aside0 (wc.heap[gb482]? = some (.cells #[.int .i64 t477, (.slice Ao36 t505.length co36), .bool t481] 46 (0, 0))) ∧ Aside0 (wc.heap[gb492]? = some (.cells #[.int .i64 t486, (.slice Ao46 t487.length co46), .bool t490] 46 (0, 0))) ∧ Aside0 (wc.heap[gb526]? = some (.cells #[.int .i64 t520, (.slice Ao143 t521.length co143), .bool t524] 46 (0, 0))) ∧ Aside0 (Below w.heap.size w wc))
             case first =>
              have H := HC121.out
              clear HC121
              replace H := Option.bind_eq_some_iff.mp H
              obtain ⟨t527, A1440, H⟩ := H
              try dsimp only at H
              have A144 := Aside0.mk A1440
              clear A1440
              by_cases c145 : t527 = true
              ·subst c145
               rw [if_pos rfl] at H
               have H' := Aside0.mk H
               clear H
               have hnb146 := NB526_460.out
               have hnc146 := NB460_526.out
               have hnb147 := NB526_476.out
               have hnc147 := NB476_526.out
               have hnb148 := NB526_482.out
               have hnc148 := NB482_526.out
               have hnb149 := NB526_492.out
               have hnc149 := NB492_526.out
               have hcz150_0 : w137.cell? ⟨gb526, 0, none⟩ = some (.int .i64 0) := (blk_cell BK526.out 0).trans rfl
               have hcz150_1 : w137.cell? ⟨gb526, 1, none⟩ = some (.slice none 0 0) := (blk_cell BK526.out 1).trans rfl
               have hcz150_2 : w137.cell? ⟨gb526, 2, none⟩ = some (.bool false) := (blk_cell BK526.out 2).trans rfl
               have hfz150_0 := blk_frozen BK526.out 0
               have hfz150_1 := blk_frozen BK526.out 1
               have hfz150_2 := blk_frozen BK526.out 2
               have hnb151 := NB476_460.out
               have hnc151 := NB460_476.out
               have hnb152 := NB476_482.out
               have hnc152 := NB482_476.out
               have hnb153 := NB476_492.out
               have hnc153 := NB492_476.out
               have hcz154_0 : w137.cell? ⟨gb476, 0, none⟩ = some (.int .i64 t470) := (blk_cell BK476.out 0).trans rfl
               have hcz154_1 : w137.cell? ⟨gb476, 1, none⟩ = some (.slice Ao29 t471.length co29) := (blk_cell BK476.out 1).trans rfl
               have hcz154_2 : w137.cell? ⟨gb476, 2, none⟩ = some (.bool t474) := (blk_cell BK476.out 2).trans rfl
               have hfz154_0 := blk_frozen BK476.out 0
               have hfz154_1 := blk_frozen BK476.out 1
               have hfz154_2 := blk_frozen BK476.out 2
               go_wp2_with (first | ((with_reducible refine gate_callee (f := 37) rfl ?_); refine goesL_ (some 102) rfl rfl Tryd.func37 (by kernel_rfl) rfl #[.agg #[.int .i64 t520, .slice Ao143 t521.length co143, .bool t524], .agg #[.int .i64 t470, .slice Ao29 t471.length co29, .bool t474]] rfl ka_ ?_; (with_reducible refine (laws_eqDec.calls kj73 t520 _ _ t521 t524 t470 _ _ t471 t474 true _ ?side1 ?side2 ?side3 ?side4 A144.out).mono ?_); (case side1 => refine (Kd.R_reads' (e := 5) (base := w.heap.size) (ok := fun k_ => (((((True ∧ some k_ ≠ (.slice Ao29 t471.length co29 : Value).ownBlock) ∧ some k_ ≠ (.slice Ao36 t505.length co36 : Value).ownBlock) ∧ some k_ ≠ (.slice Ao46 t487.length co46 : Value).ownBlock) ∧ some k_ ≠ (.slice Ao134 t513.length co134 : Value).ownBlock) ∧ some k_ ≠ (.slice Ao135 t517.length co135 : Value).ownBlock)) (n := t521.length) (c := co143) ?_).2.2; exact (by (with_reducible repeat (first | apply Kd.R_alloc | apply Kd.R_drewN | apply Kd.R_drew)); exact (Kd.R_mono (Kd.R_far (p := ⟨gb526, 2, none⟩) (Kd.R_far (p := ⟨gb526, 1, none⟩) (Kd.R_far (p := ⟨gb526, 0, none⟩) (Kd.R_types HO523.out BK526.out (by decide)) (fun _ hk => hk.2) (.int .i64 t520)) (fun _ hk => hk.2) (.slice Ao143 t521.length co143)) (fun _ hk => hk.2) (.bool t524)) (fun _ h_ => h_.1)))); (case side2 => exact (Kd.R_reads' HO523.out).2.1); (case side3 => refine (Kd.R_reads' (e := 5) (base := w.heap.size) (ok := fun k_ => ((((some k_ ≠ (.slice Ao36 t505.length co36 : Value).ownBlock ∧ some k_ ≠ (.slice Ao46 t487.length co46 : Value).ownBlock) ∧ some k_ ≠ (.slice Ao134 t513.length co134 : Value).ownBlock) ∧ some k_ ≠ (.slice Ao135 t517.length co135 : Value).ownBlock) ∧ some k_ ≠ (.slice Ao143 t521.length co143 : Value).ownBlock)) (n := t471.length) (c := co29) ?_).2.2; exact (by (with_reducible repeat (first | apply Kd.R_alloc | apply Kd.R_drewN | apply Kd.R_drew)); exact (Kd.R_mono (Kd.R_far (p := ⟨gb526, 2, none⟩) (Kd.R_far (p := ⟨gb526, 1, none⟩) (Kd.R_far (p := ⟨gb526, 0, none⟩) (Kd.R_types HO_477001.out BK526.out (by decide)) (fun _ hk => hk.2) (.int .i64 t520)) (fun _ hk => hk.2) (.slice Ao143 t521.length co143)) (fun _ hk => hk.2) (.bool t524)) (fun _ h_ => h_.1)))); (case side4 => exact (Kd.R_reads' HO_477001.out).2.1); rintro e w155 ⟨rfl, hb⟩; refine ⟨_, rfl, ?_⟩; have n0_ := Aside0.mk (Kd.R_below (by (with_reducible repeat (first | apply Kd.R_alloc | apply Kd.R_drewN | apply Kd.R_drew)); exact (Kd.R_mono (Kd.R_far (p := ⟨gb526, 2, none⟩) (Kd.R_far (p := ⟨gb526, 1, none⟩) (Kd.R_far (p := ⟨gb526, 0, none⟩) (Kd.R_types HO_477001.out BK526.out (by decide)) (fun _ hk => hk.2) (.int .i64 t520)) (fun _ hk => hk.2) (.slice Ao143 t521.length co143)) (fun _ hk => hk.2) (.bool t524)) (fun _ h_ => h_.1))) hb); have n1_ := Aside0.mk (Kd.R_below (by (with_reducible repeat (first | apply Kd.R_alloc | apply Kd.R_drewN | apply Kd.R_drew)); exact (Kd.R_mono (Kd.R_far (p := ⟨gb526, 2, none⟩) (Kd.R_far (p := ⟨gb526, 1, none⟩) (Kd.R_far (p := ⟨gb526, 0, none⟩) (Kd.R_types HO_483001.out BK526.out (by decide)) (fun _ hk => hk.2) (.int .i64 t520)) (fun _ hk => hk.2) (.slice Ao143 t521.length co143)) (fun _ hk => hk.2) (.bool t524)) (fun _ h_ => h_.1))) hb); have n2_ := Aside0.mk (Kd.R_below (by (with_reducible repeat (first | apply Kd.R_alloc | apply Kd.R_drewN | apply Kd.R_drew)); exact (Kd.R_mono (Kd.R_far (p := ⟨gb526, 2, none⟩) (Kd.R_far (p := ⟨gb526, 1, none⟩) (Kd.R_far (p := ⟨gb526, 0, none⟩) (Kd.R_types HO_493001.out BK526.out (by decide)) (fun _ hk => hk.2) (.int .i64 t520)) (fun _ hk => hk.2) (.slice Ao143 t521.length co143)) (fun _ hk => hk.2) (.bool t524)) (fun _ h_ => h_.1))) hb); have n3_ := Aside0.mk (Kd.R_below (by (with_reducible repeat (first | apply Kd.R_alloc | apply Kd.R_drewN | apply Kd.R_drew)); exact (Kd.R_mono (Kd.R_far (p := ⟨gb526, 2, none⟩) (Kd.R_far (p := ⟨gb526, 1, none⟩) (Kd.R_far (p := ⟨gb526, 0, none⟩) (Kd.R_types HO515.out BK526.out (by decide)) (fun _ hk => hk.2) (.int .i64 t520)) (fun _ hk => hk.2) (.slice Ao143 t521.length co143)) (fun _ hk => hk.2) (.bool t524)) (fun _ h_ => h_.1))) hb); have n4_ := Aside0.mk (Kd.R_below (by (with_reducible repeat (first | apply Kd.R_alloc | apply Kd.R_drewN | apply Kd.R_drew)); exact (Kd.R_mono (Kd.R_far (p := ⟨gb526, 2, none⟩) (Kd.R_far (p := ⟨gb526, 1, none⟩) (Kd.R_far (p := ⟨gb526, 0, none⟩) (Kd.R_types HO519.out BK526.out (by decide)) (fun _ hk => hk.2) (.int .i64 t520)) (fun _ hk => hk.2) (.slice Ao143 t521.length co143)) (fun _ hk => hk.2) (.bool t524)) (fun _ h_ => h_.1))) hb); have n5_ := Aside0.mk (Kd.R_below (by (with_reducible repeat (first | apply Kd.R_alloc | apply Kd.R_drewN | apply Kd.R_drew)); exact (Kd.R_mono (Kd.R_far (p := ⟨gb526, 2, none⟩) (Kd.R_far (p := ⟨gb526, 1, none⟩) (Kd.R_far (p := ⟨gb526, 0, none⟩) (Kd.R_types HO523.out BK526.out (by decide)) (fun _ hk => hk.2) (.int .i64 t520)) (fun _ hk => hk.2) (.slice Ao143 t521.length co143)) (fun _ hk => hk.2) (.bool t524)) (fun _ h_ => h_.1))) hb); have n6_ := Aside0.mk (blk_below (g := gb460) (o := .cells #[.int .i64 a0_0, .slice A0_1 l0_1.length c0_1, .bool a0_2] 44 (0, 0)) (by (with_reducible repeat (first | refine blk_drewN ?_ _ | refine blk_drew ?_ | refine blk_alloc ?_ _)); refine blk_far ?_ NB460_526.out _; (with_reducible repeat (first | refine blk_drewN ?_ _ | refine blk_drew ?_ | refine blk_alloc ?_ _)); refine blk_far ?_ NB460_526.out _; (with_reducible repeat (first | refine blk_drewN ?_ _ | refine blk_drew ?_ | refine blk_alloc ?_ _)); refine blk_far ?_ NB460_526.out _; (with_reducible repeat (first | refine blk_drewN ?_ _ | refine blk_drew ?_ | refine blk_alloc ?_ _)); exact BK460.out) hb); have n7_ := Aside0.mk (blk_below (g := gb476) (o := .cells #[.int .i64 t470, .slice Ao29 t471.length co29, .bool t474] 46 (0, 0)) (by (with_reducible repeat (first | refine blk_drewN ?_ _ | refine blk_drew ?_ | refine blk_alloc ?_ _)); refine blk_far ?_ NB476_526.out _; (with_reducible repeat (first | refine blk_drewN ?_ _ | refine blk_drew ?_ | refine blk_alloc ?_ _)); refine blk_far ?_ NB476_526.out _; (with_reducible repeat (first | refine blk_drewN ?_ _ | refine blk_drew ?_ | refine blk_alloc ?_ _)); refine blk_far ?_ NB476_526.out _; (with_reducible repeat (first | refine blk_drewN ?_ _ | refine blk_drew ?_ | refine blk_alloc ?_ _)); exact BK476.out) hb); have n8_ := Aside0.mk (blk_below (g := gb482) (o := .cells #[.int .i64 t477, .slice Ao36 t505.length co36, .bool t481] 46 (0, 0)) (by (with_reducible repeat (first | refine blk_drewN ?_ _ | refine blk_drew ?_ | refine blk_alloc ?_ _)); refine blk_far ?_ NB482_526.out _; (with_reducible repeat (first | refine blk_drewN ?_ _ | refine blk_drew ?_ | refine blk_alloc ?_ _)); refine blk_far ?_ NB482_526.out _; (with_reducible repeat (first | refine blk_drewN ?_ _ | refine blk_drew ?_ | refine blk_alloc ?_ _)); refine blk_far ?_ NB482_526.out _; (with_reducible repeat (first | refine blk_drewN ?_ _ | refine blk_drew ?_ | refine blk_alloc ?_ _)); exact BK482.out) hb); have n9_ := Aside0.mk (blk_below (g := gb492) (o := .cells #[.int .i64 t486, .slice Ao46 t487.length co46, .bool t490] 46 (0, 0)) (by (with_reducible repeat (first | refine blk_drewN ?_ _ | refine blk_drew ?_ | refine blk_alloc ?_ _)); refine blk_far ?_ NB492_526.out _; (with_reducible repeat (first | refine blk_drewN ?_ _ | refine blk_drew ?_ | refine blk_alloc ?_ _)); refine blk_far ?_ NB492_526.out _; (with_reducible repeat (first | refine blk_drewN ?_ _ | refine blk_drew ?_ | refine blk_alloc ?_ _)); refine blk_far ?_ NB492_526.out _; (with_reducible repeat (first | refine blk_drewN ?_ _ | refine blk_drew ?_ | refine blk_alloc ?_ _)); exact BK492.out) hb); have n10_ := Aside0.mk (blk_below (g := gb526) (o := .cells #[.int .i64 t520, .slice Ao143 t521.length co143, .bool t524] 46 (0, 0)) (by (with_reducible repeat (first | refine blk_drewN ?_ _ | refine blk_drew ?_ | refine blk_alloc ?_ _)); refine blk_put (cs := #[.int .i64 t520, .slice Ao143 t521.length co143, .bool false]) ?_ 2 _ rfl; (with_reducible repeat (first | refine blk_drewN ?_ _ | refine blk_drew ?_ | refine blk_alloc ?_ _)); refine blk_put (cs := #[.int .i64 t520, .slice none 0 0, .bool false]) ?_ 1 _ rfl; (with_reducible repeat (first | refine blk_drewN ?_ _ | refine blk_drew ?_ | refine blk_alloc ?_ _)); refine blk_put (cs := #[.int .i64 0, .slice none 0 0, .bool false]) ?_ 0 _ rfl; (with_reducible repeat (first | refine blk_drewN ?_ _ | refine blk_drew ?_ | refine blk_alloc ?_ _)); exact BK526.out) hb); have n11_ := Aside0.mk (below_step hs_ hb); clear HO_477001; clear HO_483001; clear HO_493001; clear HO515; clear HO519; clear HO523; clear BK460; clear BK476; clear BK482; clear BK492; clear BK526; clear HB; have HO_477001 := n0_; have HO_483001 := n1_; have HO_493001 := n2_; have HO515 := n3_; have HO519 := n4_; have HO523 := n5_; have BK460 := n6_; have BK476 := n7_; have BK482 := n8_; have BK492 := n9_; have BK526 := n10_; have HB := n11_; clear n0_ n1_ n2_ n3_ n4_ n5_ n6_ n7_ n8_ n9_ n10_ n11_; try clear hb))
               go_meet
               case rel => exact ⟨_, ((t525.toList != t475.toList)), (by first | rfl | (simp; done) | (simp [*]; done)), H', ⟨by have := HJ15.out; have := HJ73.out; first | omega | exact Nat.le_refl _⟩, ⟨by (try simp only [hl483001_73]); (with_reducible repeat (first | apply Kd.R_alloc | apply Kd.R_drewN | apply Kd.R_drew)); exact Kd.R_mono HO_477001.out (fun _ hk => ⟨hk.1.1.1.1, ⟨hk.1.1.1.2, hk.2⟩⟩)⟩, ⟨by (try simp only [hl483001_73]); (with_reducible repeat (first | apply Kd.R_alloc | apply Kd.R_drewN | apply Kd.R_drew)); exact Kd.R_mono HO_483001.out (fun _ hk => ⟨hk.1.1.1.1, ⟨hk.1.1.1.2, hk.2⟩⟩)⟩, ⟨by (try simp only [hl483001_73]); (with_reducible repeat (first | apply Kd.R_alloc | apply Kd.R_drewN | apply Kd.R_drew)); exact Kd.R_mono HO_493001.out (fun _ hk => ⟨hk.1.1.1.1, ⟨hk.1.1.1.2, hk.2⟩⟩)⟩, ⟨by (try simp only [hl483001_73]); (with_reducible repeat (first | apply Kd.R_alloc | apply Kd.R_drewN | apply Kd.R_drew)); exact Kd.R_mono HO523.out (fun _ hk => ⟨hk.1.1.1.1.2, ⟨hk.1.1.1.2, hk.1.1.2⟩⟩)⟩, ⟨by (try simp only [hl483001_73]); (with_reducible repeat (first | refine blk_drewN ?_ _ | refine blk_drew ?_ | refine blk_alloc ?_ _)); exact BK460.out⟩, ⟨by (try simp only [hl483001_73]); (with_reducible repeat (first | refine blk_drewN ?_ _ | refine blk_drew ?_ | refine blk_alloc ?_ _)); exact BK476.out⟩, ⟨by (try simp only [hl483001_73]); (with_reducible repeat (first | refine blk_drewN ?_ _ | refine blk_drew ?_ | refine blk_alloc ?_ _)); exact BK482.out⟩, ⟨by (try simp only [hl483001_73]); (with_reducible repeat (first | refine blk_drewN ?_ _ | refine blk_drew ?_ | refine blk_alloc ?_ _)); exact BK492.out⟩, ⟨by (try simp only [hl483001_73]); (with_reducible repeat (first | refine blk_drewN ?_ _ | refine blk_drew ?_ | refine blk_alloc ?_ _)); exact BK526.out⟩, ⟨by repeat (first | (with_reducible first | exact HB.out | apply below_alloc | apply pw_below_drewN | apply below_drew1 | refine below_set ?_ GE460.out | refine below_set ?_ GE476.out | refine below_set ?_ GE482.out | refine below_set ?_ GE492.out | refine below_set ?_ GE526.out) | exact HB.out)⟩⟩
              ·replace c145 := Bool.eq_false_iff.mpr c145
               subst c145
               rw [if_neg (show ¬ (false = true) by decide)] at H
               have H' := Aside0.mk H
               clear H
               have hnb156 := NB526_460.out
               have hnc156 := NB460_526.out
               have hnb157 := NB526_476.out
               have hnc157 := NB476_526.out
               have hnb158 := NB526_482.out
               have hnc158 := NB482_526.out
               have hnb159 := NB526_492.out
               have hnc159 := NB492_526.out
               have hcz160_0 : w137.cell? ⟨gb526, 0, none⟩ = some (.int .i64 0) := (blk_cell BK526.out 0).trans rfl
               have hcz160_1 : w137.cell? ⟨gb526, 1, none⟩ = some (.slice none 0 0) := (blk_cell BK526.out 1).trans rfl
               have hcz160_2 : w137.cell? ⟨gb526, 2, none⟩ = some (.bool false) := (blk_cell BK526.out 2).trans rfl
               have hfz160_0 := blk_frozen BK526.out 0
               have hfz160_1 := blk_frozen BK526.out 1
               have hfz160_2 := blk_frozen BK526.out 2
               have hnb161 := NB476_460.out
               have hnc161 := NB460_476.out
               have hnb162 := NB476_482.out
               have hnc162 := NB482_476.out
               have hnb163 := NB476_492.out
               have hnc163 := NB492_476.out
               have hcz164_0 : w137.cell? ⟨gb476, 0, none⟩ = some (.int .i64 t470) := (blk_cell BK476.out 0).trans rfl
               have hcz164_1 : w137.cell? ⟨gb476, 1, none⟩ = some (.slice Ao29 t471.length co29) := (blk_cell BK476.out 1).trans rfl
               have hcz164_2 : w137.cell? ⟨gb476, 2, none⟩ = some (.bool t474) := (blk_cell BK476.out 2).trans rfl
               have hfz164_0 := blk_frozen BK476.out 0
               have hfz164_1 := blk_frozen BK476.out 1
               have hfz164_2 := blk_frozen BK476.out 2
               go_wp2_with (first | ((with_reducible refine gate_callee (f := 37) rfl ?_); refine goesL_ (some 102) rfl rfl Tryd.func37 (by kernel_rfl) rfl #[.agg #[.int .i64 t520, .slice Ao143 t521.length co143, .bool t524], .agg #[.int .i64 t470, .slice Ao29 t471.length co29, .bool t474]] rfl ka_ ?_; (with_reducible refine (laws_eqDec.calls kj73 t520 _ _ t521 t524 t470 _ _ t471 t474 false _ ?side1 ?side2 ?side3 ?side4 A144.out).mono ?_); (case side1 => refine (Kd.R_reads' (e := 5) (base := w.heap.size) (ok := fun k_ => (((((True ∧ some k_ ≠ (.slice Ao29 t471.length co29 : Value).ownBlock) ∧ some k_ ≠ (.slice Ao36 t505.length co36 : Value).ownBlock) ∧ some k_ ≠ (.slice Ao46 t487.length co46 : Value).ownBlock) ∧ some k_ ≠ (.slice Ao134 t513.length co134 : Value).ownBlock) ∧ some k_ ≠ (.slice Ao135 t517.length co135 : Value).ownBlock)) (n := t521.length) (c := co143) ?_).2.2; exact (by (with_reducible repeat (first | apply Kd.R_alloc | apply Kd.R_drewN | apply Kd.R_drew)); exact (Kd.R_mono (Kd.R_far (p := ⟨gb526, 2, none⟩) (Kd.R_far (p := ⟨gb526, 1, none⟩) (Kd.R_far (p := ⟨gb526, 0, none⟩) (Kd.R_types HO523.out BK526.out (by decide)) (fun _ hk => hk.2) (.int .i64 t520)) (fun _ hk => hk.2) (.slice Ao143 t521.length co143)) (fun _ hk => hk.2) (.bool t524)) (fun _ h_ => h_.1)))); (case side2 => exact (Kd.R_reads' HO523.out).2.1); (case side3 => refine (Kd.R_reads' (e := 5) (base := w.heap.size) (ok := fun k_ => ((((some k_ ≠ (.slice Ao36 t505.length co36 : Value).ownBlock ∧ some k_ ≠ (.slice Ao46 t487.length co46 : Value).ownBlock) ∧ some k_ ≠ (.slice Ao134 t513.length co134 : Value).ownBlock) ∧ some k_ ≠ (.slice Ao135 t517.length co135 : Value).ownBlock) ∧ some k_ ≠ (.slice Ao143 t521.length co143 : Value).ownBlock)) (n := t471.length) (c := co29) ?_).2.2; exact (by (with_reducible repeat (first | apply Kd.R_alloc | apply Kd.R_drewN | apply Kd.R_drew)); exact (Kd.R_mono (Kd.R_far (p := ⟨gb526, 2, none⟩) (Kd.R_far (p := ⟨gb526, 1, none⟩) (Kd.R_far (p := ⟨gb526, 0, none⟩) (Kd.R_types HO_477001.out BK526.out (by decide)) (fun _ hk => hk.2) (.int .i64 t520)) (fun _ hk => hk.2) (.slice Ao143 t521.length co143)) (fun _ hk => hk.2) (.bool t524)) (fun _ h_ => h_.1)))); (case side4 => exact (Kd.R_reads' HO_477001.out).2.1); rintro e w165 ⟨rfl, hb⟩; refine ⟨_, rfl, ?_⟩; have n0_ := Aside0.mk (Kd.R_below (by (with_reducible repeat (first | apply Kd.R_alloc | apply Kd.R_drewN | apply Kd.R_drew)); exact (Kd.R_mono (Kd.R_far (p := ⟨gb526, 2, none⟩) (Kd.R_far (p := ⟨gb526, 1, none⟩) (Kd.R_far (p := ⟨gb526, 0, none⟩) (Kd.R_types HO_477001.out BK526.out (by decide)) (fun _ hk => hk.2) (.int .i64 t520)) (fun _ hk => hk.2) (.slice Ao143 t521.length co143)) (fun _ hk => hk.2) (.bool t524)) (fun _ h_ => h_.1))) hb); have n1_ := Aside0.mk (Kd.R_below (by (with_reducible repeat (first | apply Kd.R_alloc | apply Kd.R_drewN | apply Kd.R_drew)); exact (Kd.R_mono (Kd.R_far (p := ⟨gb526, 2, none⟩) (Kd.R_far (p := ⟨gb526, 1, none⟩) (Kd.R_far (p := ⟨gb526, 0, none⟩) (Kd.R_types HO_483001.out BK526.out (by decide)) (fun _ hk => hk.2) (.int .i64 t520)) (fun _ hk => hk.2) (.slice Ao143 t521.length co143)) (fun _ hk => hk.2) (.bool t524)) (fun _ h_ => h_.1))) hb); have n2_ := Aside0.mk (Kd.R_below (by (with_reducible repeat (first | apply Kd.R_alloc | apply Kd.R_drewN | apply Kd.R_drew)); exact (Kd.R_mono (Kd.R_far (p := ⟨gb526, 2, none⟩) (Kd.R_far (p := ⟨gb526, 1, none⟩) (Kd.R_far (p := ⟨gb526, 0, none⟩) (Kd.R_types HO_493001.out BK526.out (by decide)) (fun _ hk => hk.2) (.int .i64 t520)) (fun _ hk => hk.2) (.slice Ao143 t521.length co143)) (fun _ hk => hk.2) (.bool t524)) (fun _ h_ => h_.1))) hb); have n3_ := Aside0.mk (Kd.R_below (by (with_reducible repeat (first | apply Kd.R_alloc | apply Kd.R_drewN | apply Kd.R_drew)); exact (Kd.R_mono (Kd.R_far (p := ⟨gb526, 2, none⟩) (Kd.R_far (p := ⟨gb526, 1, none⟩) (Kd.R_far (p := ⟨gb526, 0, none⟩) (Kd.R_types HO515.out BK526.out (by decide)) (fun _ hk => hk.2) (.int .i64 t520)) (fun _ hk => hk.2) (.slice Ao143 t521.length co143)) (fun _ hk => hk.2) (.bool t524)) (fun _ h_ => h_.1))) hb); have n4_ := Aside0.mk (Kd.R_below (by (with_reducible repeat (first | apply Kd.R_alloc | apply Kd.R_drewN | apply Kd.R_drew)); exact (Kd.R_mono (Kd.R_far (p := ⟨gb526, 2, none⟩) (Kd.R_far (p := ⟨gb526, 1, none⟩) (Kd.R_far (p := ⟨gb526, 0, none⟩) (Kd.R_types HO519.out BK526.out (by decide)) (fun _ hk => hk.2) (.int .i64 t520)) (fun _ hk => hk.2) (.slice Ao143 t521.length co143)) (fun _ hk => hk.2) (.bool t524)) (fun _ h_ => h_.1))) hb); have n5_ := Aside0.mk (Kd.R_below (by (with_reducible repeat (first | apply Kd.R_alloc | apply Kd.R_drewN | apply Kd.R_drew)); exact (Kd.R_mono (Kd.R_far (p := ⟨gb526, 2, none⟩) (Kd.R_far (p := ⟨gb526, 1, none⟩) (Kd.R_far (p := ⟨gb526, 0, none⟩) (Kd.R_types HO523.out BK526.out (by decide)) (fun _ hk => hk.2) (.int .i64 t520)) (fun _ hk => hk.2) (.slice Ao143 t521.length co143)) (fun _ hk => hk.2) (.bool t524)) (fun _ h_ => h_.1))) hb); have n6_ := Aside0.mk (blk_below (g := gb460) (o := .cells #[.int .i64 a0_0, .slice A0_1 l0_1.length c0_1, .bool a0_2] 44 (0, 0)) (by (with_reducible repeat (first | refine blk_drewN ?_ _ | refine blk_drew ?_ | refine blk_alloc ?_ _)); refine blk_far ?_ NB460_526.out _; (with_reducible repeat (first | refine blk_drewN ?_ _ | refine blk_drew ?_ | refine blk_alloc ?_ _)); refine blk_far ?_ NB460_526.out _; (with_reducible repeat (first | refine blk_drewN ?_ _ | refine blk_drew ?_ | refine blk_alloc ?_ _)); refine blk_far ?_ NB460_526.out _; (with_reducible repeat (first | refine blk_drewN ?_ _ | refine blk_drew ?_ | refine blk_alloc ?_ _)); exact BK460.out) hb); have n7_ := Aside0.mk (blk_below (g := gb476) (o := .cells #[.int .i64 t470, .slice Ao29 t471.length co29, .bool t474] 46 (0, 0)) (by (with_reducible repeat (first | refine blk_drewN ?_ _ | refine blk_drew ?_ | refine blk_alloc ?_ _)); refine blk_far ?_ NB476_526.out _; (with_reducible repeat (first | refine blk_drewN ?_ _ | refine blk_drew ?_ | refine blk_alloc ?_ _)); refine blk_far ?_ NB476_526.out _; (with_reducible repeat (first | refine blk_drewN ?_ _ | refine blk_drew ?_ | refine blk_alloc ?_ _)); refine blk_far ?_ NB476_526.out _; (with_reducible repeat (first | refine blk_drewN ?_ _ | refine blk_drew ?_ | refine blk_alloc ?_ _)); exact BK476.out) hb); have n8_ := Aside0.mk (blk_below (g := gb482) (o := .cells #[.int .i64 t477, .slice Ao36 t505.length co36, .bool t481] 46 (0, 0)) (by (with_reducible repeat (first | refine blk_drewN ?_ _ | refine blk_drew ?_ | refine blk_alloc ?_ _)); refine blk_far ?_ NB482_526.out _; (with_reducible repeat (first | refine blk_drewN ?_ _ | refine blk_drew ?_ | refine blk_alloc ?_ _)); refine blk_far ?_ NB482_526.out _; (with_reducible repeat (first | refine blk_drewN ?_ _ | refine blk_drew ?_ | refine blk_alloc ?_ _)); refine blk_far ?_ NB482_526.out _; (with_reducible repeat (first | refine blk_drewN ?_ _ | refine blk_drew ?_ | refine blk_alloc ?_ _)); exact BK482.out) hb); have n9_ := Aside0.mk (blk_below (g := gb492) (o := .cells #[.int .i64 t486, .slice Ao46 t487.length co46, .bool t490] 46 (0, 0)) (by (with_reducible repeat (first | refine blk_drewN ?_ _ | refine blk_drew ?_ | refine blk_alloc ?_ _)); refine blk_far ?_ NB492_526.out _; (with_reducible repeat (first | refine blk_drewN ?_ _ | refine blk_drew ?_ | refine blk_alloc ?_ _)); refine blk_far ?_ NB492_526.out _; (with_reducible repeat (first | refine blk_drewN ?_ _ | refine blk_drew ?_ | refine blk_alloc ?_ _)); refine blk_far ?_ NB492_526.out _; (with_reducible repeat (first | refine blk_drewN ?_ _ | refine blk_drew ?_ | refine blk_alloc ?_ _)); exact BK492.out) hb); have n10_ := Aside0.mk (blk_below (g := gb526) (o := .cells #[.int .i64 t520, .slice Ao143 t521.length co143, .bool t524] 46 (0, 0)) (by (with_reducible repeat (first | refine blk_drewN ?_ _ | refine blk_drew ?_ | refine blk_alloc ?_ _)); refine blk_put (cs := #[.int .i64 t520, .slice Ao143 t521.length co143, .bool false]) ?_ 2 _ rfl; (with_reducible repeat (first | refine blk_drewN ?_ _ | refine blk_drew ?_ | refine blk_alloc ?_ _)); refine blk_put (cs := #[.int .i64 t520, .slice none 0 0, .bool false]) ?_ 1 _ rfl; (with_reducible repeat (first | refine blk_drewN ?_ _ | refine blk_drew ?_ | refine blk_alloc ?_ _)); refine blk_put (cs := #[.int .i64 0, .slice none 0 0, .bool false]) ?_ 0 _ rfl; (with_reducible repeat (first | refine blk_drewN ?_ _ | refine blk_drew ?_ | refine blk_alloc ?_ _)); exact BK526.out) hb); have n11_ := Aside0.mk (below_step hs_ hb); clear HO_477001; clear HO_483001; clear HO_493001; clear HO515; clear HO519; clear HO523; clear BK460; clear BK476; clear BK482; clear BK492; clear BK526; clear HB; have HO_477001 := n0_; have HO_483001 := n1_; have HO_493001 := n2_; have HO515 := n3_; have HO519 := n4_; have HO523 := n5_; have BK460 := n6_; have BK476 := n7_; have BK482 := n8_; have BK492 := n9_; have BK526 := n10_; have HB := n11_; clear n0_ n1_ n2_ n3_ n4_ n5_ n6_ n7_ n8_ n9_ n10_ n11_; try clear hb))
               go_meet
               case rel => exact ⟨_, (true), (by first | rfl | (simp; done) | (simp [*]; done)), H', ⟨by have := HJ15.out; have := HJ73.out; first | omega | exact Nat.le_refl _⟩, ⟨by (try simp only [hl483001_73]); (with_reducible repeat (first | apply Kd.R_alloc | apply Kd.R_drewN | apply Kd.R_drew)); exact Kd.R_mono HO_477001.out (fun _ hk => ⟨hk.1.1.1.1, ⟨hk.1.1.1.2, hk.2⟩⟩)⟩, ⟨by (try simp only [hl483001_73]); (with_reducible repeat (first | apply Kd.R_alloc | apply Kd.R_drewN | apply Kd.R_drew)); exact Kd.R_mono HO_483001.out (fun _ hk => ⟨hk.1.1.1.1, ⟨hk.1.1.1.2, hk.2⟩⟩)⟩, ⟨by (try simp only [hl483001_73]); (with_reducible repeat (first | apply Kd.R_alloc | apply Kd.R_drewN | apply Kd.R_drew)); exact Kd.R_mono HO_493001.out (fun _ hk => ⟨hk.1.1.1.1, ⟨hk.1.1.1.2, hk.2⟩⟩)⟩, ⟨by (try simp only [hl483001_73]); (with_reducible repeat (first | apply Kd.R_alloc | apply Kd.R_drewN | apply Kd.R_drew)); exact Kd.R_mono HO523.out (fun _ hk => ⟨hk.1.1.1.1.2, ⟨hk.1.1.1.2, hk.1.1.2⟩⟩)⟩, ⟨by (try simp only [hl483001_73]); (with_reducible repeat (first | refine blk_drewN ?_ _ | refine blk_drew ?_ | refine blk_alloc ?_ _)); exact BK460.out⟩, ⟨by (try simp only [hl483001_73]); (with_reducible repeat (first | refine blk_drewN ?_ _ | refine blk_drew ?_ | refine blk_alloc ?_ _)); exact BK476.out⟩, ⟨by (try simp only [hl483001_73]); (with_reducible repeat (first | refine blk_drewN ?_ _ | refine blk_drew ?_ | refine blk_alloc ?_ _)); exact BK482.out⟩, ⟨by (try simp only [hl483001_73]); (with_reducible repeat (first | refine blk_drewN ?_ _ | refine blk_drew ?_ | refine blk_alloc ?_ _)); exact BK492.out⟩, ⟨by (try simp only [hl483001_73]); (with_reducible repeat (first | refine blk_drewN ?_ _ | refine blk_drew ?_ | refine blk_alloc ?_ _)); exact BK526.out⟩, ⟨by repeat (first | (with_reducible first | exact HB.out | apply below_alloc | apply pw_below_drewN | apply below_drew1 | refine below_set ?_ GE460.out | refine below_set ?_ GE476.out | refine below_set ?_ GE482.out | refine below_set ?_ GE492.out | refine below_set ?_ GE526.out) | exact HB.out)⟩⟩
             case rest =>
              clear HC121
              try clear c1
              try clear c2
              try clear p2
              try clear c3
              try clear c3b0
              try clear c3b1
              try clear c4
              try clear c5
              try clear c6
              try clear c6b0
              try clear c7
              try clear c8
              try clear c9
              try clear c10
              try clear c11
              try clear c12
              try clear c13
              try clear c14
              try clear c15
              try clear c16
              try clear c20
              try clear c21
              try clear c27
              try clear c31
              try clear c33
              try clear c34
              try clear c35
              try clear c36
              try clear c37
              try clear c38
              try clear c39
              try clear c42
              try clear c43
              try clear c44
              try clear c48
              try clear c49
              try clear c50
              try clear c51
              try clear c53
              try clear c54
              try clear c57
              try clear c58
              try clear c59
              try clear c61
              try clear c62
              try clear c65
              try clear c68
              try clear c71
              try clear c81
              try clear c82
              try clear c83
              try clear c87
              try clear c87b0
              try clear c89
              try clear c90
              try clear c91
              try clear c92
              try clear c94
              try clear c95
              try clear c98
              try clear c99
              try clear c100
              try clear c102
              try clear c103
              try clear c106
              try clear c109
              try clear c109b0
              try clear c110
              try clear c111
              try clear c112
              try clear c117
              try clear c117b0
              try clear c117b1
              try clear c122
              try clear c123
              try clear c124
              try clear c129
              try clear c130
              try clear c138
              try clear c139
              try clear c140
              try clear c141
              try clear c145
              try clear c146
              try clear c147
              try clear c148
              try clear c149
              try clear c151
              try clear c152
              try clear c153
              try clear c156
              try clear c157
              try clear c158
              try clear c159
              try clear c161
              try clear c162
              try clear c163
              try clear hcz101_0
              try clear hcz101_1
              try clear hcz101_2
              try clear hcz104_0
              try clear hcz104_1
              try clear hcz104_2
              try clear hcz113_0
              try clear hcz113_1
              try clear hcz113_2
              try clear hcz115_0
              try clear hcz115_1
              try clear hcz115_2
              try clear hcz125_0
              try clear hcz125_1
              try clear hcz125_2
              try clear hcz127_0
              try clear hcz127_1
              try clear hcz127_2
              try clear hcz131_0
              try clear hcz131_1
              try clear hcz131_2
              try clear hcz142_0
              try clear hcz142_1
              try clear hcz142_2
              try clear hcz150_0
              try clear hcz150_1
              try clear hcz150_2
              try clear hcz154_0
              try clear hcz154_1
              try clear hcz154_2
              try clear hcz160_0
              try clear hcz160_1
              try clear hcz160_2
              try clear hcz164_0
              try clear hcz164_1
              try clear hcz164_2
              try clear hcz18_0
              try clear hcz18_1
              try clear hcz18_2
              try clear hcz20_0
              try clear hcz20_1
              try clear hcz20_2
              try clear hcz28_0
              try clear hcz28_1
              try clear hcz28_2
              try clear hcz30_0
              try clear hcz30_1
              try clear hcz30_2
              try clear hcz35_0
              try clear hcz35_1
              try clear hcz35_2
              try clear hcz38_0
              try clear hcz38_1
              try clear hcz38_2
              try clear hcz45_0
              try clear hcz45_1
              try clear hcz45_2
              try clear hcz52_0
              try clear hcz52_1
              try clear hcz52_2
              try clear hcz55_0
              try clear hcz55_1
              try clear hcz55_2
              try clear hcz60_0
              try clear hcz60_1
              try clear hcz60_2
              try clear hcz63_0
              try clear hcz63_1
              try clear hcz63_2
              try clear hcz84_0
              try clear hcz84_1
              try clear hcz84_2
              try clear hcz8_0
              try clear hcz8_1
              try clear hcz8_2
              try clear hcz93_0
              try clear hcz93_1
              try clear hcz93_2
              try clear hcz96_0
              try clear hcz96_1
              try clear hcz96_2
              try clear hfz101_0
              try clear hfz101_1
              try clear hfz101_2
              try clear hfz104_0
              try clear hfz104_1
              try clear hfz104_2
              try clear hfz113_0
              try clear hfz113_1
              try clear hfz113_2
              try clear hfz115_0
              try clear hfz115_1
              try clear hfz115_2
              try clear hfz125_0
              try clear hfz125_1
              try clear hfz125_2
              try clear hfz127_0
              try clear hfz127_1
              try clear hfz127_2
              try clear hfz131_0
              try clear hfz131_1
              try clear hfz131_2
              try clear hfz142_0
              try clear hfz142_1
              try clear hfz142_2
              try clear hfz150_0
              try clear hfz150_1
              try clear hfz150_2
              try clear hfz154_0
              try clear hfz154_1
              try clear hfz154_2
              try clear hfz160_0
              try clear hfz160_1
              try clear hfz160_2
              try clear hfz164_0
              try clear hfz164_1
              try clear hfz164_2
              try clear hfz18_0
              try clear hfz18_1
              try clear hfz18_2
              try clear hfz20_0
              try clear hfz20_1
              try clear hfz20_2
              try clear hfz28_0
              try clear hfz28_1
              try clear hfz28_2
              try clear hfz30_0
              try clear hfz30_1
              try clear hfz30_2
              try clear hfz35_0
              try clear hfz35_1
              try clear hfz35_2
              try clear hfz38_0
              try clear hfz38_1
              try clear hfz38_2
              try clear hfz45_0
              try clear hfz45_1
              try clear hfz45_2
              try clear hfz52_0
              try clear hfz52_1
              try clear hfz52_2
              try clear hfz55_0
              try clear hfz55_1
              try clear hfz55_2
              try clear hfz60_0
              try clear hfz60_1
              try clear hfz60_2
              try clear hfz63_0
              try clear hfz63_1
              try clear hfz63_2
              try clear hfz84_0
              try clear hfz84_1
              try clear hfz84_2
              try clear hfz8_0
              try clear hfz8_1
              try clear hfz8_2
              try clear hfz93_0
              try clear hfz93_1
              try clear hfz93_2
              try clear hfz96_0
              try clear hfz96_1
              try clear hfz96_2
              try clear p2
              obtain ⟨kq, x108_120, rfl, HA, HJ120, HO_477001, HO_483001, HO_493001, HO_527001, BK460, BK476, BK482, BK492, BK526, HB⟩ := hcut
              have hl493001_120 := (Kd.R_reads' HO_493001.out).1
              rw [hl493001_120] at HO_493001
              (try simp only [hl493001_120])
              (try simp only [hl493001_120] at BK460)
              (try simp only [hl493001_120] at BK476)
              (try simp only [hl493001_120] at BK482)
              (try simp only [hl493001_120] at BK492)
              (try simp only [hl493001_120] at BK526)
              (try simp only [hl493001_120] at HO_477001)
              (try simp only [hl493001_120] at HO_483001)
              (try simp only [hl493001_120] at HO_527001)
              cases kq with
              | zero => exact absurd HA.out (by simp [laws_FnExactFeed.j2])
              | succ kj120 =>
               have H := HA.out
               clear HA
               simp only [laws_FnExactFeed.j2] at H
               by_cases c166 : x108_120 = true
               ·subst c166
                rw [if_pos rfl] at H
                obtain rfl := Option.some.inj H
                cases hr_
               ·replace c166 := Bool.eq_false_iff.mpr c166
                subst c166
                rw [if_neg (show ¬ (false = true) by decide)] at H
                replace H := Option.bind_eq_some_iff.mp H
                obtain ⟨t528, A1670, H⟩ := H
                try dsimp only at H
                have A167 := Aside0.mk A1670
                clear A1670
                by_cases c168 : t528 < 0
                ·rw [if_pos c168] at H
                 have c168b0 : decide (t528 < 0) = true := decide_eq_true c168
                 clear c168
                 obtain rfl := Option.some.inj H
                 cases hr_
                ·rw [if_neg c168] at H
                 have c168b0 : decide (t528 < 0) = false := decide_eq_false c168
                 clear c168
                 by_cases c175 : t528 = t509
                 ·rw [if_pos c175] at H
                  have c175b0 : (t528 == t509) = true := beq_iff_eq.mpr c175
                  have c175b1 : (t528 != t509) = false := bne_eq_false_iff_eq.mpr c175
                  clear c175
                  obtain rfl := Option.some.inj H
                  clear hr_
                  have hnb176 := NB492_460.out
                  have hnc176 := NB460_492.out
                  have hnb177 := NB492_476.out
                  have hnc177 := NB476_492.out
                  have hnb178 := NB492_482.out
                  have hnc178 := NB482_492.out
                  have hnb179 := NB492_526.out
                  have hnc179 := NB526_492.out
                  have hcz180_0 : wc.cell? ⟨gb492, 0, none⟩ = some (.int .i64 t486) := (blk_cell BK492.out 0).trans rfl
                  have hcz180_1 : wc.cell? ⟨gb492, 1, none⟩ = some (.slice Ao46 t510.length co46) := (blk_cell BK492.out 1).trans rfl
                  have hcz180_2 : wc.cell? ⟨gb492, 2, none⟩ = some (.bool t490) := (blk_cell BK492.out 2).trans rfl
                  have hfz180_0 := blk_frozen BK492.out 0
                  have hfz180_1 := blk_frozen BK492.out 1
                  have hfz180_2 := blk_frozen BK492.out 2
                  go_wp2_with (first | ((with_reducible refine gate_callee (f := 39) rfl ?_); refine goesL_ (some 111) rfl rfl Tryd.func39 (by kernel_rfl) rfl #[.agg #[.int .i64 t486, .slice Ao46 t510.length co46, .bool t490], .int .i64 1] rfl ka_ ?_; (with_reducible refine (laws_heldDec.calls kj120 t486 _ _ t510 t490 1 t528 _ ?side1 ?side2 A167.out).mono ?_); (case side1 => exact kc_ (Kd.R_reads' HO_493001.out).2.2); (case side2 => exact (Kd.R_reads' HO_493001.out).2.1); rintro e w181 ⟨rfl, hb⟩; refine ⟨_, rfl, ?_⟩; have n0_ := Aside0.mk (Kd.R_below (kr_ HO_477001) hb); have n1_ := Aside0.mk (Kd.R_below (kr_ HO_483001) hb); have n2_ := Aside0.mk (Kd.R_below (kr_ HO_493001) hb); have n3_ := Aside0.mk (Kd.R_below (kr_ HO_527001) hb); have n4_ := Aside0.mk (blk_below (g := gb460) (o := .cells #[.int .i64 a0_0, .slice A0_1 l0_1.length c0_1, .bool a0_2] 44 (0, 0)) (kb_ BK460) hb); have n5_ := Aside0.mk (blk_below (g := gb476) (o := .cells #[.int .i64 t470, .slice Ao29 t471.length co29, .bool t474] 46 (0, 0)) (kb_ BK476) hb); have n6_ := Aside0.mk (blk_below (g := gb482) (o := .cells #[.int .i64 t477, .slice Ao36 t505.length co36, .bool t481] 46 (0, 0)) (kb_ BK482) hb); have n7_ := Aside0.mk (blk_below (g := gb492) (o := .cells #[.int .i64 t486, .slice Ao46 t510.length co46, .bool t490] 46 (0, 0)) (kb_ BK492) hb); have n8_ := Aside0.mk (blk_below (g := gb526) (o := .cells #[.int .i64 t520, .slice Ao143 t521.length co143, .bool t524] 46 (0, 0)) (kb_ BK526) hb); have n9_ := Aside0.mk (below_step hs_ hb); clear HO_477001; clear HO_483001; clear HO_493001; clear HO_527001; clear BK460; clear BK476; clear BK482; clear BK492; clear BK526; clear HB; have HO_477001 := n0_; have HO_483001 := n1_; have HO_493001 := n2_; have HO_527001 := n3_; have BK460 := n4_; have BK476 := n5_; have BK482 := n6_; have BK492 := n7_; have BK526 := n8_; have HB := n9_; clear n0_ n1_ n2_ n3_ n4_ n5_ n6_ n7_ n8_ n9_; try clear hb))
                  go_ret
                  exact ⟨rf_, hs_⟩
                 ·rw [if_neg c175] at H
                  have c175b0 : (t528 == t509) = false := beq_eq_false_iff_ne.mpr c175
                  have c175b1 : (t528 != t509) = true := bne_iff_ne.mpr c175
                  obtain rfl := Option.some.inj H
                  cases hr_
            ·rw [if_neg c117] at H
             have c117b0 : (t511 == t509) = false := beq_eq_false_iff_ne.mpr c117
             have c117b1 : (t511 != t509) = true := bne_iff_ne.mpr c117
             obtain rfl := Option.some.inj H
             cases hr_
       ·replace c71 := Bool.eq_false_iff.mpr c71
        subst c71
        rw [if_neg (show ¬ (false = true) by decide)] at H
        obtain rfl := Option.some.inj H
        cases hr_
      ·replace c68 := Bool.eq_false_iff.mpr c68
       subst c68
       rw [if_neg (show ¬ (false = true) by decide)] at H
       obtain rfl := Option.some.inj H
       cases hr_
end Go.Proofs.YtpmimhbnmjffpaaDoor.QFnExactFeed
