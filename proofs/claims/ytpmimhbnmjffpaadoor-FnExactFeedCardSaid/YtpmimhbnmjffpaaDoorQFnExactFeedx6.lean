/- The functions that a law reaches, each as a plain function, and that Go comes to just its answer: written by the session's program pp.py (the kit's print, with a few rows turned). -/
import Derived.Test.YtpmimhbnmjffpaaDoorQFnExactFeedx0
import Derived.Test.YtpmimhbnmjffpaaDoorQFnExactFeedx1
import Derived.Test.YtpmimhbnmjffpaaDoorQFnExactFeedx3
import Derived.Test.YtpmimhbnmjffpaaDoorQFnExactFeedx4
import Derived.Test.YtpmimhbnmjffpaaDoorQFnExactFeedx5
namespace Go.Proofs.YtpmimhbnmjffpaaDoor.QFnExactFeed
open Go.RowKit Go.Proofs.YtpmimhbnmjffpaaDoorW.PrintWords Go.Proofs.YtpmimhbnmjffpaaDoorW.PrintLast Go.Proofs.YtpmimhbnmjffpaaDoorW.PrintMore Go.Proofs.YtpmimhbnmjffpaaDoor.Xw Go.Proofs.YtpmimhbnmjffpaaDoor.Xs Go.Proofs.YtpmimhbnmjffpaaDoor.Ext
attribute [local go_sem] max2_int min2_int max_two min_two max_three min_three max_four min_four   -- for this text's walks alone
set_option linter.unusedVariables false
set_option linter.unusedSimpArgs false

/-! ### spec_Feed: function 34 -/
mutual
def spec_Feed.j0 : Nat → List Int → Bool → Int → List Int → Bool → Int → List Int → Bool → Option (Int × List Int × Bool × ByteArray)
 | 0, _, _, _, _, _, _, _, _ => none
 | k + 1, x1, x28, x259000, x259001, x259002, x267000, x267001, x267002 => if x28 = true then (some (x267000, x267001, x267002, (⟨#[]⟩ : ByteArray))) else ((some (([] : List Int) : List Int)).bind fun y268 => (if y268.length + x259001.length < 140737488355328 then ((some (y268 ++ x259001 : List Int)).bind fun y271 => (if y271.length + x1.length < 140737488355328 then (spec_Feed.l0 k (y271 ++ x1) (([] : List Int)) 0 x259000 x259001 x259002 x267000 (([] : List Int)) x267002) else (none))) else (none)))
def spec_Feed.l0 : Nat → List Int → List Int → Int → Int → List Int → Bool → Int → List Int → Bool → Option (Int × List Int × Bool × ByteArray)
 | 0, _, _, _, _, _, _, _, _, _ => none
 | k + 1, x7, x8, x9, x259000, x259001, x259002, x267000, x267001, x267002 => if x9 < (x7.length : Int) then ((spec_l5Get.f k x259000 x7 x9).bind fun bt283 => (if bt283.2.2 = true then ((spec_PutSign.f x8 bt283.1).bind fun t286 => (spec_Feed.l0 k x7 t286 bt283.2.1 x259000 x259001 x259002 x267000 x267001 x267002)) else (if 0 ≤ x9 then (if x9 ≤ (x7.length : Int) then ((spec_l6Begins.f k x259000 (x7.drop (x9 : Int).toNat)).bind fun t293 => (if t293 = true then ((some (([] : List Int) : List Int)).bind fun y294 => ((some (x7.drop (x9 : Int).toNat : List Int)).bind fun y297 => (if y294.length + y297.length < 140737488355328 then (some (x267000, (y294 ++ y297), x267002, strOfNums x8)) else (none)))) else (some (x267000, x267001, true, strOfNums x8)))) else (none)) else (none)))) else (some (x267000, x267001, x267002, strOfNums x8))
end
def spec_Feed.f (k : Nat) (a0_0 : Int) (l0_1 : List Int) (a0_2 : Bool) (l1 : List Int) : Option (Int × List Int × Bool × ByteArray) := (some (([] : List Int) : List Int)).bind fun y260 => (if y260.length + l0_1.length < 140737488355328 then ((some (y260 ++ l0_1 : List Int)).bind fun y263 => ((spec_DecOk.f k a0_0 l0_1 a0_2).bind fun t267 => (if t267 = true then (spec_Feed.j0 k l1 a0_2 a0_0 l0_1 a0_2 a0_0 y263 a0_2) else (spec_Feed.j0 k l1 true a0_0 l0_1 a0_2 a0_0 y263 a0_2)))) else (none))
theorem spec_Feed.mono_l : ∀ k, (∀ y0 y1 y2 y3 y4 y5 y6 y7, LeO (spec_Feed.j0 k y0 y1 y2 y3 y4 y5 y6 y7) (spec_Feed.j0 (k + 1) y0 y1 y2 y3 y4 y5 y6 y7)) ∧ (∀ y0 y1 y2 y3 y4 y5 y6 y7 y8, LeO (spec_Feed.l0 k y0 y1 y2 y3 y4 y5 y6 y7 y8) (spec_Feed.l0 (k + 1) y0 y1 y2 y3 y4 y5 y6 y7 y8))
 | 0 => ⟨fun _ _ _ _ _ _ _ _ r h => by simp [spec_Feed.j0] at h, fun _ _ _ _ _ _ _ _ _ r h => by simp [spec_Feed.l0] at h⟩
 | k + 1 => by
  obtain ⟨ih0, ih1⟩ := spec_Feed.mono_l k
  refine ⟨?_, ?_⟩
  ·intro y0 y1 y2 y3 y4 y5 y6 y7
   unfold spec_Feed.j0
   repeat' first
   | (with_reducible exact ih0 _ _ _ _ _ _ _ _)
   | (with_reducible exact ih1 _ _ _ _ _ _ _ _ _)
   | (with_reducible exact spec_DecOk.mono _ _ _ _)
   | (with_reducible exact spec_l5Get.mono _ _ _ _)
   | (with_reducible exact spec_l6Begins.mono _ _ _)
   | (with_reducible exact LeO.refl _)
   | (with_reducible exact LeO.none _)
   | (with_reducible refine LeO.ite ?_ ?_)
   | (with_reducible refine LeO.bind ?_ (fun _ => ?_))
   | exact ih0 _ _ _ _ _ _ _ _
   | exact ih1 _ _ _ _ _ _ _ _ _
   | exact spec_DecOk.mono _ _ _ _
   | exact spec_l5Get.mono _ _ _ _
   | exact spec_l6Begins.mono _ _ _
   | exact LeO.none _
   | refine LeO.ite ?_ ?_
   | refine LeO.bind ?_ (fun _ => ?_)
  ·intro y0 y1 y2 y3 y4 y5 y6 y7 y8
   unfold spec_Feed.l0
   repeat' first
   | (with_reducible exact ih0 _ _ _ _ _ _ _ _)
   | (with_reducible exact ih1 _ _ _ _ _ _ _ _ _)
   | (with_reducible exact spec_DecOk.mono _ _ _ _)
   | (with_reducible exact spec_l5Get.mono _ _ _ _)
   | (with_reducible exact spec_l6Begins.mono _ _ _)
   | (with_reducible exact LeO.refl _)
   | (with_reducible exact LeO.none _)
   | (with_reducible refine LeO.ite ?_ ?_)
   | (with_reducible refine LeO.bind ?_ (fun _ => ?_))
   | exact ih0 _ _ _ _ _ _ _ _
   | exact ih1 _ _ _ _ _ _ _ _ _
   | exact spec_DecOk.mono _ _ _ _
   | exact spec_l5Get.mono _ _ _ _
   | exact spec_l6Begins.mono _ _ _
   | exact LeO.none _
   | refine LeO.ite ?_ ?_
   | refine LeO.bind ?_ (fun _ => ?_)
theorem spec_Feed.mono : ∀ a0 a1 a2 a3 k, LeO (spec_Feed.f k a0 a1 a2 a3) (spec_Feed.f (k + 1) a0 a1 a2 a3) := by
 intro a0 a1 a2 a3 k
 obtain ⟨ih0, ih1⟩ := spec_Feed.mono_l k
 unfold spec_Feed.f
 repeat' first
   | (with_reducible exact ih0 _ _ _ _ _ _ _ _)
   | (with_reducible exact ih1 _ _ _ _ _ _ _ _ _)
   | (with_reducible exact spec_DecOk.mono _ _ _ _)
   | (with_reducible exact spec_l5Get.mono _ _ _ _)
   | (with_reducible exact spec_l6Begins.mono _ _ _)
   | (with_reducible exact LeO.refl _)
   | (with_reducible exact LeO.none _)
   | (with_reducible refine LeO.ite ?_ ?_)
   | (with_reducible refine LeO.bind ?_ (fun _ => ?_))
   | exact ih0 _ _ _ _ _ _ _ _
   | exact ih1 _ _ _ _ _ _ _ _ _
   | exact spec_DecOk.mono _ _ _ _
   | exact spec_l5Get.mono _ _ _ _
   | exact spec_l6Begins.mono _ _ _
   | exact LeO.none _
   | refine LeO.ite ?_ ?_
   | refine LeO.bind ?_ (fun _ => ?_)
def spec_Feed.T1 : Bool × List (List Nat × List Nat) := (true, [([], []), ([0], [0]), ([], []), ([], []), ([3], [3]), ([2, 4], [2, 4]), ([], []), ([6], [6]), ([1, 5, 7], [1, 5, 7]), ([], []), ([9, 8, 5, 0, 1, 2, 3, 4, 5, 6, 7, 8, 9], [8, 9])])
def spec_Feed.B1 : List Nat := [0, 1, 0, 0, 8, 28, 0, 64, 255, 0, 1023]
theorem spec_Feed.tab1 : rtab .any (opsOf Tryd.f34 1) = spec_Feed.T1 := by kernel_rfl
theorem spec_Feed.bits1 : waitsOk spec_Feed.T1.2 spec_Feed.B1 = true := by kernel_rfl
set_option maxHeartbeats 8000000 in
set_option maxRecDepth 100000 in
theorem spec_Feed.calls (k : Nat) (a0_0 : Int) (A0_1 : Option Addr) (c0_1 : Nat) (l0_1 : List Int) (a0_2 : Bool) (A1 : Option Addr) (c1 : Nat) (l1 : List Int) (r1 : Int) (r2 : List Int) (r3 : Bool) (r4 : ByteArray) (w : World) (hr0_1 : Kd.C (Kd.int .u8) w A0_1 l0_1.length l0_1) (hc0_1 : l0_1.length ≤ c0_1) (hr1 : Kd.C (Kd.int .u8) w A1 l1.length l1) (hc1 : l1.length ≤ c1) (h : spec_Feed.f k a0_0 l0_1 a0_2 l1 = some (r1, r2, r3, r4)) :
  Calls Tryd.prog 34 #[.agg #[.int .i64 a0_0, .slice A0_1 l0_1.length c0_1, .bool a0_2], .slice A1 l1.length c1] w fun e w' => ∃ v1_ : Value, e = .returned (.tuple #[.agg #[.int .i64 r1, v1_, .bool r3], .string r4]) ∧ Kd.R (Kd.int .u8) 5 w' w.heap.size (fun _ => True) v1_ r2 ∧ Below w.heap.size w w' := by
 have hu46 := Tryd.underlying46
 have HR0_1 := Aside0.mk hr0_1
 have HC0_1 := Aside0.mk hc0_1
 clear hr0_1 hc0_1
 have HR1 := Aside0.mk hr1
 have HC1 := Aside0.mk hc1
 clear hr1 hc1
 have HB := Aside0.mk (Below.refl w.heap.size w)
 have H : ((some (([] : List Int) : List Int)).bind fun y260 => (if y260.length + l0_1.length < 140737488355328 then ((some (y260 ++ l0_1 : List Int)).bind fun y263 => ((spec_DecOk.f k a0_0 l0_1 a0_2).bind fun t267 => (if t267 = true then (spec_Feed.j0 k l1 a0_2 a0_0 l0_1 a0_2 a0_0 y263 a0_2) else (spec_Feed.j0 k l1 true a0_0 l0_1 a0_2 a0_0 y263 a0_2)))) else (none))) = some (r1, r2, r3, r4) := h
 clear h
 obtain ⟨y260, hy260⟩ : ∃ y_ : List Int, y_ = (([] : List Int)) := ⟨_, rfl⟩
 replace H : (if y260.length + l0_1.length < 140737488355328 then ((some (y260 ++ l0_1 : List Int)).bind fun y263 => ((spec_DecOk.f k a0_0 l0_1 a0_2).bind fun t267 => (if t267 = true then (spec_Feed.j0 k l1 a0_2 a0_0 l0_1 a0_2 a0_0 y263 a0_2) else (spec_Feed.j0 k l1 true a0_0 l0_1 a0_2 a0_0 y263 a0_2)))) else (none)) = some (r1, r2, r3, r4) := by first | (rw [hy260]; with_reducible exact H) | (have H2_ := (Option.bind_some _ _).symm.trans H; rw [hy260]; with_reducible exact H2_) | (have H2_ := (Option.bind_some _ _).symm.trans H; with_reducible exact H2_) | with_reducible exact H | (rw [hy260]; exact H) | exact H
 have Ny260 := Aside0.mk hy260
 clear hy260
 by_cases c3 : y260.length + l0_1.length < 140737488355328
 ·rw [if_pos c3] at H
  have LMc3 := Aside0.mk c3
  clear c3
  obtain ⟨y263, hy263⟩ : ∃ y_ : List Int, y_ = (y260 ++ l0_1) := ⟨_, rfl⟩
  replace H : ((spec_DecOk.f k a0_0 l0_1 a0_2).bind fun t267 => (if t267 = true then (spec_Feed.j0 k l1 a0_2 a0_0 l0_1 a0_2 a0_0 y263 a0_2) else (spec_Feed.j0 k l1 true a0_0 l0_1 a0_2 a0_0 y263 a0_2))) = some (r1, r2, r3, r4) := by first | (rw [hy263]; with_reducible exact H) | (have H2_ := (Option.bind_some _ _).symm.trans H; rw [hy263]; with_reducible exact H2_) | (have H2_ := (Option.bind_some _ _).symm.trans H; with_reducible exact H2_) | with_reducible exact H | (rw [hy263]; exact H) | exact H
  have Ny263 := Aside0.mk hy263
  clear hy263
  have HC4 := Aside0.mk H
  clear H
  go_enter Tryd.func34, Tryd.ntmps34
  try go_wp2_with (first | ((with_reducible refine gate_dst (N := 2) rfl ?_); refine box_event ?hg (N := 2) ?hd (cs := #[.int .i64 a0_0, .slice A0_1 l0_1.length c0_1, .bool a0_2]) (t := 46) ?hr ?_; (case hd => rfl); (case hg => rfl); (case hr => first | (go_simp; done) | (go_simp; rfl)); intro gb258 hg w5 hbox hb; have n0_ := Aside0.mk (below_step hb_ hb); have n1_ := Aside0.mk (hbox); have n2_ := Aside0.mk ((by rw [hg]; exact (below_size hb_) : w.heap.size ≤ gb258)); have n3_ := Aside0.mk ((by rw [hg]; exact (below_size hb_) : w.heap.size ≤ gb258)); clear HB; have HB := n0_; have BK258 := n1_; have GW258 := n2_; have GE258 := n3_; clear n0_ n1_ n2_ n3_; clear hb hbox hg) | ((with_reducible refine gate_dst (N := 4) rfl ?_); refine box_event ?hg (N := 4) ?hd (cs := #[.int .i64 0, .slice none 0 0, .bool false]) (t := 46) ?hr ?_; (case hd => rfl); (case hg => rfl); (case hr => first | (go_simp; done) | (go_simp; rfl)); intro gb259 hg w6 hbox hb; have n0_ := Aside0.mk (blk_below (g := gb258) (o := .cells #[.int .i64 a0_0, .slice A0_1 l0_1.length c0_1, .bool a0_2] 46 (0, 0)) (kb_ BK258) hb); have n1_ := Aside0.mk (below_step hs_ hb); have n2_ := Aside0.mk (hbox); have n3_ := Aside0.mk ((by rw [hg]; exact (below_size hs_) : w.heap.size ≤ gb259)); have n4_ := Aside0.mk ((by rw [hg]; exact (below_size hs_) : w.heap.size ≤ gb259)); have n5_ := Aside0.mk ((by rw [hg]; exact Nat.ne_of_lt (blk_lt (g := gb258) (o := .cells #[.int .i64 a0_0, .slice A0_1 l0_1.length c0_1, .bool a0_2] 46 (0, 0)) (kb_ BK258)) : gb258 ≠ gb259)); have n6_ := Aside0.mk ((by rw [hg]; exact Nat.ne_of_gt (blk_lt (g := gb258) (o := .cells #[.int .i64 a0_0, .slice A0_1 l0_1.length c0_1, .bool a0_2] 46 (0, 0)) (kb_ BK258)) : gb259 ≠ gb258)); clear BK258; clear HB; have BK258 := n0_; have HB := n1_; have BK259 := n2_; have GW259 := n3_; have GE259 := n4_; have NB258_259 := n5_; have NB259_258 := n6_; clear n0_ n1_ n2_ n3_ n4_ n5_ n6_; clear hb hbox hg))
  have n0_ := Aside0.mk (blk_drew BK258.out)
  have n1_ := Aside0.mk (blk_drew BK259.out)
  have n2_ := Aside0.mk (below_drew1 HB.out)
  clear BK258
  clear BK259
  clear HB
  have BK258 := n0_
  have BK259 := n1_
  have HB := n2_
  clear n0_ n1_ n2_
  refine start_ (n := 11) (S := fun w' => w'.cell? ⟨gb258, 0, none⟩ = some (.int .i64 a0_0) ∧ w'.cell? ⟨gb258, 1, none⟩ = some (.slice A0_1 l0_1.length c0_1) ∧ w'.cell? ⟨gb258, 2, none⟩ = some (.bool a0_2)) (ds := []) #[false, false, false, false, false, false, false, false, false, false, false] (by kernel_rfl) rfl rfl ⟨(blk_cell BK258.out 0).trans rfl, (blk_cell BK258.out 1).trans rfl, (blk_cell BK258.out 2).trans rfl⟩ (fun hHeld => ?_); refine with_tabW spec_Feed.tab1 spec_Feed.bits1 (fun HT_ HW_ => ?_)
  generalize w6.drew = w7 at BK258 BK259 HB hHeld ⊢
  refine pure_ (i := 0) (N := some 13) (v := ?_) (a' := ?_) #[true, false, false, false, false, false, false, false, false, false, false] rfl rfl (any_of HT_.out (by kernel_rfl)) (fun _ _ _ h => h) (Or.inl ⟨by rfl, ?_⟩) ?_ ?_
  rotate_left
  ·intro w'
   go_simp
   with_reducible rfl
  rotate_left
  ·simp only [Act.put, List.setIfInBounds_toArray, List.set_cons_zero, List.set_cons_succ, i64_w, i32_w]
   rfl
  refine pure_ (i := 3) (N := some 16) (v := ?_) (a' := ?_) #[true, false, false, true, false, false, false, false, false, false, false] rfl rfl (any_of HT_.out (by kernel_rfl)) (fun _ _ _ h => h) (Or.inl ⟨by rfl, ?_⟩) ?_ ?_
  rotate_left
  ·intro w'
   go_simp
   with_reducible rfl
  rotate_left
  ·simp only [Act.put, List.setIfInBounds_toArray, List.set_cons_zero, List.set_cons_succ, i64_w, i32_w]
   rfl
  refine pure_ (i := 6) (N := some 19) (v := ?_) (a' := ?_) #[true, false, false, true, false, false, true, false, false, false, false] rfl rfl (any_of HT_.out (by kernel_rfl)) (fun _ _ _ h => h) (Or.inl ⟨by rfl, ?_⟩) ?_ ?_
  rotate_left
  ·intro w'
   go_simp
   with_reducible rfl
  rotate_left
  ·simp only [Act.put, List.setIfInBounds_toArray, List.set_cons_zero, List.set_cons_succ, i64_w, i32_w]
   rfl
  refine take_ (i := 1) (N := some 14) (v := ?_) (a' := ?_) #[true, true, false, true, false, false, true, false, false, false, false] rfl rfl (take_ofW HT_.out HW_.out (by kernel_rfl)) (fun _ _ _ h => h) (Or.inl ⟨by rfl, ?_⟩) hHeld ?_ ?_
  rotate_left
  ·rintro w' ⟨s0, s1, s2⟩
   go_simp
   with_reducible rfl
  rotate_left
  ·simp only [Act.put, List.setIfInBounds_toArray, List.set_cons_zero, List.set_cons_succ, i64_w, i32_w]
   rfl
  refine take_ (i := 4) (N := some 17) (v := ?_) (a' := ?_) #[true, true, false, true, true, false, true, false, false, false, false] rfl rfl (take_ofW HT_.out HW_.out (by kernel_rfl)) (fun _ _ _ h => h) (Or.inl ⟨by rfl, ?_⟩) hHeld ?_ ?_
  rotate_left
  ·rintro w' ⟨s0, s1, s2⟩
   go_simp
   with_reducible rfl
  rotate_left
  ·simp only [Act.put, List.setIfInBounds_toArray, List.set_cons_zero, List.set_cons_succ, i64_w, i32_w]
   rfl
  refine take_ (i := 7) (N := some 20) (v := ?_) (a' := ?_) #[true, true, false, true, true, false, true, true, false, false, false] rfl rfl (take_ofW HT_.out HW_.out (by kernel_rfl)) (fun _ _ _ h => h) (Or.inl ⟨by rfl, ?_⟩) hHeld ?_ ?_
  rotate_left
  ·rintro w' ⟨s0, s1, s2⟩
   go_simp
   with_reducible rfl
  rotate_left
  ·simp only [Act.put, List.setIfInBounds_toArray, List.set_cons_zero, List.set_cons_succ, i64_w, i32_w]
   rfl
  refine join_ (σ := Value × Value × Nat) 1 #[true, true, true, true, true, true, true, true, true, true, false] (fun s_ => [(15, s_.1), (18, s_.2.1), (6, .pointer (some ⟨s_.2.2, 0, none⟩)), (21, .agg #[.int .i64 a0_0, s_.2.1, .bool a0_2])]) (fun s_ w' => (w'.cell? ⟨gb258, 0, none⟩ = some (.int .i64 a0_0) ∧ w'.cell? ⟨gb258, 1, none⟩ = some (.slice A0_1 l0_1.length c0_1) ∧ w'.cell? ⟨gb258, 2, none⟩ = some (.bool a0_2)) ∧ (Kd.R (Kd.int .u8) 5 w' w.heap.size (fun _ => True) s_.2.1 y263) ∧ (w'.heap[gb258]? = some (.cells #[.int .i64 a0_0, .slice A0_1 l0_1.length c0_1, .bool a0_2] 46 (0, 0))) ∧ (w'.heap[gb259]? = some (.cells #[.int .i64 0, .slice none 0 0, .bool false] 46 (0, 0))) ∧ (w'.heap[s_.2.2]? = some (.cells #[.int .i64 0, .slice none 0 0, .bool false] 46 (0, 0))) ∧ (w.heap.size ≤ s_.2.2) ∧ (w.heap.size ≤ s_.2.2) ∧ (gb258 ≠ s_.2.2) ∧ (s_.2.2 ≠ gb258) ∧ (gb259 ≠ s_.2.2) ∧ (s_.2.2 ≠ gb259) ∧ (Below w.heap.size w w')) ?_ ?_
  rotate_left
  ·intro hCont
   refine two_ (i := 2) (j := 9) (Ni := some 15) (Nj := some 6) #[true, true, true, true, true, false, true, true, false, false, false] #[true, true, false, true, true, false, true, true, false, true, false] rfl rfl rfl rfl (two_of HT_.out (by kernel_rfl)) (by decide) (by decide) (fun K hK => ?_) (fun K hK => ?_)
   ·skip
    refine Kd.R_lit_step (Kd.int .u8) _ 5 ?hg (N := 15) ?hd (xs := ([] : List Int)) (inner := []) (ok := fun _ => True) (okp := fun _ => True) ?hr ?hp (fun _ hk => hk) trivial (Below.refl _ _) (Nat.le_refl _) (by simp) ?_; (case hd => rfl); (case hg => rfl); (case hr => first | (go_simp; done) | (go_simp; rfl)); (case hp => exact (Reps.none _ _))
    intro v261 w8 ho9 hb hg_ hnew_
    clear hg_ hnew_
    (first | rw [← Ny260.out] at ho9 | (simp only [Int.reduceToNat] at ho9; rw [← Ny260.out] at ho9))
    have n0_ := Aside0.mk (Kd.R_lower ho9 (below_size hs_))
    have n1_ := Aside0.mk (blk_below (g := gb258) (o := .cells #[.int .i64 a0_0, .slice A0_1 l0_1.length c0_1, .bool a0_2] 46 (0, 0)) (kb_ BK258) hb)
    have n2_ := Aside0.mk (blk_below (g := gb259) (o := .cells #[.int .i64 0, .slice none 0 0, .bool false] 46 (0, 0)) (kb_ BK259) hb)
    have n3_ := Aside0.mk (below_step hs_ hb)
    clear BK258
    clear BK259
    clear HB
    have HO262 := n0_
    have BK258 := n1_
    have BK259 := n2_
    have HB := n3_
    clear n0_ n1_ n2_ n3_
    clear hb ho9
    refine hK.out _ _ ⟨(blk_cell BK258.out 0).trans rfl, (blk_cell BK258.out 1).trans rfl, (blk_cell BK258.out 2).trans rfl⟩ (fun hHeld => ?_)
    clear hK K
    refine norm_ (a' := ?_) ?_ ?_
    rotate_left
    ·show Act.put _ (some 15) _ = _
     simp only [Act.put, List.setIfInBounds_toArray, List.set_cons_zero, List.set_cons_succ, i64_w, i32_w]
     rfl
    refine two_ (i := 5) (j := 9) (Ni := some 18) (Nj := some 6) #[true, true, true, true, true, true, true, true, false, false, false] #[true, true, true, true, true, false, true, true, false, true, false] rfl rfl rfl rfl (two_of HT_.out (by kernel_rfl)) (by decide) (by decide) (fun K hK => ?_) (fun K hK => ?_)
    ·skip
     refine Kd.R_append_rows_step (Kd.int .u8) (w0 := w) w.heap.size (by rfl) (.tmp 15) (.tmp 17) 23 5 (.int .u8 0) 1 rfl Tryd.underlying23 info5 rfl (by decide) (by omega) v261 y260 l0_1 _ _ _ (fun _ => True) (fun _ => False) rfl rfl ?aO ?aR (fun _ _ h => h) (fun _ h => h.elim) ?aF ?aB ?aS ?aL ?_
     (case aR => repeat (first | exact (Kd.C_below HR0_1.out HB.out) | (with_reducible refine Kd.C_alloc ?_ _) | (with_reducible refine Kd.C_drewN ?_ _) | (with_reducible refine Kd.C_drew ?_)))
     (case aB => exact hs_)
     (case aF => exact (fun _ _ => trivial))
     (case aO => exact (kr_ HO262))
     (case aS => exact (below_size hs_))
     (case aL => have := LMc3.out; omega)
     intro v264 w10 ho hb hg hat
     rw [← Ny263.out] at ho
     have n0_ := Aside0.mk (blk_grown (g := gb258) (o := .cells #[.int .i64 a0_0, .slice A0_1 l0_1.length c0_1, .bool a0_2] 46 (0, 0)) (kb_ BK258) hg (Kd.R_ne HO262.out BK258.out (by decide)))
     have n1_ := Aside0.mk (blk_grown (g := gb259) (o := .cells #[.int .i64 0, .slice none 0 0, .bool false] 46 (0, 0)) (kb_ BK259) hg (Kd.R_ne HO262.out BK259.out (by decide)))
     have n2_ := Aside0.mk (hb)
     have n3_ := Aside0.mk (ho)
     clear BK258
     clear BK259
     clear HB
     clear HO262
     have BK258 := n0_
     have BK259 := n1_
     have HB := n2_
     have HO265 := n3_
     clear n0_ n1_ n2_ n3_
     clear ho hb hg hat
     obtain ⟨Ao11, co11, eo11⟩ := Kd.R_slice HO265.out
     (first | subst eo11 | (injection eo11 with f1_ f2_ f3_; have f4_ := f1_.symm; have f5_ := f3_.symm; clear f1_ f2_ f3_; subst f4_; subst f5_))
     refine hK.out _ _ ⟨(blk_cell BK258.out 0).trans rfl, (blk_cell BK258.out 1).trans rfl, (blk_cell BK258.out 2).trans rfl⟩ (fun hHeld => ?_)
     clear hK K
     refine norm_ (a' := ?_) ?_ ?_
     rotate_left
     ·show Act.put _ (some 18) _ = _
      simp only [Act.put, List.setIfInBounds_toArray, List.set_cons_zero, List.set_cons_succ, i64_w, i32_w]
      rfl
     refine pure_ (i := 8) (N := some 21) (v := ?_) (a' := ?_) #[true, true, true, true, true, true, true, true, true, false, false] rfl rfl (any_of HT_.out (by kernel_rfl)) (fun _ _ _ h => h) (Or.inl ⟨by rfl, ?_⟩) ?_ ?_
     rotate_left
     ·intro w'
      go_simp
      with_reducible rfl
     rotate_left
     ·simp only [Act.put, List.setIfInBounds_toArray, List.set_cons_zero, List.set_cons_succ, i64_w, i32_w]
      rfl
     refine one_ (i := 9) (N := some 6) #[true, true, true, true, true, true, true, true, true, true, false] rfl rfl (one_of HT_.out (by kernel_rfl)) (by decide) (fun K hK => ?_)
     refine box_step ?hg (N := 6) ?hd (cs := #[.int .i64 0, .slice none 0 0, .bool false]) (t := 46) ?hr ?_; (case hd => rfl); (case hg => rfl); (case hr => first | (go_simp; done) | (go_simp; rfl))
     intro gb266 hg w12 hbox hb
     have n0_ := Aside0.mk (Kd.R_below (kr_ HO265) hb)
     have n1_ := Aside0.mk (blk_below (g := gb258) (o := .cells #[.int .i64 a0_0, .slice A0_1 l0_1.length c0_1, .bool a0_2] 46 (0, 0)) (kb_ BK258) hb)
     have n2_ := Aside0.mk (blk_below (g := gb259) (o := .cells #[.int .i64 0, .slice none 0 0, .bool false] 46 (0, 0)) (kb_ BK259) hb)
     have n3_ := Aside0.mk (below_step hs_ hb)
     have n4_ := Aside0.mk (hbox)
     have n5_ := Aside0.mk ((by rw [hg]; exact (below_size hs_) : w.heap.size ≤ gb266))
     have n6_ := Aside0.mk ((by rw [hg]; exact (below_size hs_) : w.heap.size ≤ gb266))
     have n7_ := Aside0.mk ((by rw [hg]; exact Nat.ne_of_lt (blk_lt (g := gb258) (o := .cells #[.int .i64 a0_0, .slice A0_1 l0_1.length c0_1, .bool a0_2] 46 (0, 0)) (kb_ BK258)) : gb258 ≠ gb266))
     have n8_ := Aside0.mk ((by rw [hg]; exact Nat.ne_of_gt (blk_lt (g := gb258) (o := .cells #[.int .i64 a0_0, .slice A0_1 l0_1.length c0_1, .bool a0_2] 46 (0, 0)) (kb_ BK258)) : gb266 ≠ gb258))
     have n9_ := Aside0.mk ((by rw [hg]; exact Nat.ne_of_lt (blk_lt (g := gb259) (o := .cells #[.int .i64 0, .slice none 0 0, .bool false] 46 (0, 0)) (kb_ BK259)) : gb259 ≠ gb266))
     have n10_ := Aside0.mk ((by rw [hg]; exact Nat.ne_of_gt (blk_lt (g := gb259) (o := .cells #[.int .i64 0, .slice none 0 0, .bool false] 46 (0, 0)) (kb_ BK259)) : gb266 ≠ gb259))
     clear HO265
     clear BK258
     clear BK259
     clear HB
     have HO265 := n0_
     have BK258 := n1_
     have BK259 := n2_
     have HB := n3_
     have BK266 := n4_
     have GW266 := n5_
     have GE266 := n6_
     have NB258_266 := n7_
     have NB266_258 := n8_
     have NB259_266 := n9_
     have NB266_259 := n10_
     clear n0_ n1_ n2_ n3_ n4_ n5_ n6_ n7_ n8_ n9_ n10_
     clear hb hbox hg
     refine hK.out _ _ ⟨(blk_cell BK258.out 0).trans rfl, (blk_cell BK258.out 1).trans rfl, (blk_cell BK258.out 2).trans rfl⟩ (fun hHeld => ?_)
     clear hK K
     refine norm_ (a' := ?_) ?_ ?_
     rotate_left
     ·show Act.put _ (some 6) _ = _
      simp only [Act.put, List.setIfInBounds_toArray, List.set_cons_zero, List.set_cons_succ, i64_w, i32_w]
      rfl
     exact norm_ (by simp only [putAll, Act.put, List.setIfInBounds_toArray, List.set_cons_zero, List.set_cons_succ]) (hCont (v261, .slice Ao11 y263.length co11, gb266) _ ⟨hHeld, (kr_ HO265), (kb_ BK258), (kb_ BK259), (kb_ BK266), GW266.out, GE266.out, NB258_266.out, NB266_258.out, NB259_266.out, NB266_259.out, hs_⟩)
    ·skip
     refine box_step ?hg (N := 6) ?hd (cs := #[.int .i64 0, .slice none 0 0, .bool false]) (t := 46) ?hr ?_; (case hd => rfl); (case hg => rfl); (case hr => first | (go_simp; done) | (go_simp; rfl))
     intro gb266 hg w10 hbox hb
     have n0_ := Aside0.mk (Kd.R_below (kr_ HO262) hb)
     have n1_ := Aside0.mk (blk_below (g := gb258) (o := .cells #[.int .i64 a0_0, .slice A0_1 l0_1.length c0_1, .bool a0_2] 46 (0, 0)) (kb_ BK258) hb)
     have n2_ := Aside0.mk (blk_below (g := gb259) (o := .cells #[.int .i64 0, .slice none 0 0, .bool false] 46 (0, 0)) (kb_ BK259) hb)
     have n3_ := Aside0.mk (below_step hs_ hb)
     have n4_ := Aside0.mk (hbox)
     have n5_ := Aside0.mk ((by rw [hg]; exact (below_size hs_) : w.heap.size ≤ gb266))
     have n6_ := Aside0.mk ((by rw [hg]; exact (below_size hs_) : w.heap.size ≤ gb266))
     have n7_ := Aside0.mk ((by rw [hg]; exact Nat.ne_of_lt (blk_lt (g := gb258) (o := .cells #[.int .i64 a0_0, .slice A0_1 l0_1.length c0_1, .bool a0_2] 46 (0, 0)) (kb_ BK258)) : gb258 ≠ gb266))
     have n8_ := Aside0.mk ((by rw [hg]; exact Nat.ne_of_gt (blk_lt (g := gb258) (o := .cells #[.int .i64 a0_0, .slice A0_1 l0_1.length c0_1, .bool a0_2] 46 (0, 0)) (kb_ BK258)) : gb266 ≠ gb258))
     have n9_ := Aside0.mk ((by rw [hg]; exact Nat.ne_of_lt (blk_lt (g := gb259) (o := .cells #[.int .i64 0, .slice none 0 0, .bool false] 46 (0, 0)) (kb_ BK259)) : gb259 ≠ gb266))
     have n10_ := Aside0.mk ((by rw [hg]; exact Nat.ne_of_gt (blk_lt (g := gb259) (o := .cells #[.int .i64 0, .slice none 0 0, .bool false] 46 (0, 0)) (kb_ BK259)) : gb266 ≠ gb259))
     clear HO262
     clear BK258
     clear BK259
     clear HB
     have HO262 := n0_
     have BK258 := n1_
     have BK259 := n2_
     have HB := n3_
     have BK266 := n4_
     have GW266 := n5_
     have GE266 := n6_
     have NB258_266 := n7_
     have NB266_258 := n8_
     have NB259_266 := n9_
     have NB266_259 := n10_
     clear n0_ n1_ n2_ n3_ n4_ n5_ n6_ n7_ n8_ n9_ n10_
     clear hb hbox hg
     refine hK.out _ _ ⟨(blk_cell BK258.out 0).trans rfl, (blk_cell BK258.out 1).trans rfl, (blk_cell BK258.out 2).trans rfl⟩ (fun hHeld => ?_)
     clear hK K
     refine norm_ (a' := ?_) ?_ ?_
     rotate_left
     ·show Act.put _ (some 6) _ = _
      simp only [Act.put, List.setIfInBounds_toArray, List.set_cons_zero, List.set_cons_succ, i64_w, i32_w]
      rfl
     refine one_ (i := 5) (N := some 18) #[true, true, true, true, true, true, true, true, false, true, false] rfl rfl (one_of HT_.out (by kernel_rfl)) (by decide) (fun K hK => ?_)
     refine Kd.R_append_rows_step (Kd.int .u8) (w0 := w) w.heap.size (by rfl) (.tmp 15) (.tmp 17) 23 5 (.int .u8 0) 1 rfl Tryd.underlying23 info5 rfl (by decide) (by omega) v261 y260 l0_1 _ _ _ (fun _ => True) (fun _ => False) rfl rfl ?aO ?aR (fun _ _ h => h) (fun _ h => h.elim) ?aF ?aB ?aS ?aL ?_
     (case aR => repeat (first | exact (Kd.C_below HR0_1.out HB.out) | (with_reducible refine Kd.C_alloc ?_ _) | (with_reducible refine Kd.C_drewN ?_ _) | (with_reducible refine Kd.C_drew ?_)))
     (case aB => exact hs_)
     (case aF => exact (fun _ _ => trivial))
     (case aO => exact (kr_ HO262))
     (case aS => exact (below_size hs_))
     (case aL => have := LMc3.out; omega)
     intro v264 w11 ho hb hg hat
     rw [← Ny263.out] at ho
     have n0_ := Aside0.mk (blk_grown (g := gb258) (o := .cells #[.int .i64 a0_0, .slice A0_1 l0_1.length c0_1, .bool a0_2] 46 (0, 0)) (kb_ BK258) hg (Kd.R_ne HO262.out BK258.out (by decide)))
     have n1_ := Aside0.mk (blk_grown (g := gb259) (o := .cells #[.int .i64 0, .slice none 0 0, .bool false] 46 (0, 0)) (kb_ BK259) hg (Kd.R_ne HO262.out BK259.out (by decide)))
     have n2_ := Aside0.mk (blk_grown (g := gb266) (o := .cells #[.int .i64 0, .slice none 0 0, .bool false] 46 (0, 0)) (kb_ BK266) hg (Kd.R_ne HO262.out BK266.out (by decide)))
     have n3_ := Aside0.mk (hb)
     have n4_ := Aside0.mk (ho)
     clear BK258
     clear BK259
     clear BK266
     clear HB
     clear HO262
     have BK258 := n0_
     have BK259 := n1_
     have BK266 := n2_
     have HB := n3_
     have HO265 := n4_
     clear n0_ n1_ n2_ n3_ n4_
     clear ho hb hg hat
     obtain ⟨Ao12, co12, eo12⟩ := Kd.R_slice HO265.out
     (first | subst eo12 | (injection eo12 with f1_ f2_ f3_; have f4_ := f1_.symm; have f5_ := f3_.symm; clear f1_ f2_ f3_; subst f4_; subst f5_))
     refine hK.out _ _ ⟨(blk_cell BK258.out 0).trans rfl, (blk_cell BK258.out 1).trans rfl, (blk_cell BK258.out 2).trans rfl⟩ (fun hHeld => ?_)
     clear hK K
     refine norm_ (a' := ?_) ?_ ?_
     rotate_left
     ·show Act.put _ (some 18) _ = _
      simp only [Act.put, List.setIfInBounds_toArray, List.set_cons_zero, List.set_cons_succ, i64_w, i32_w]
      rfl
     refine pure_ (i := 8) (N := some 21) (v := ?_) (a' := ?_) #[true, true, true, true, true, true, true, true, true, true, false] rfl rfl (any_of HT_.out (by kernel_rfl)) (fun _ _ _ h => h) (Or.inl ⟨by rfl, ?_⟩) ?_ ?_
     rotate_left
     ·intro w'
      go_simp
      with_reducible rfl
     rotate_left
     ·simp only [Act.put, List.setIfInBounds_toArray, List.set_cons_zero, List.set_cons_succ, i64_w, i32_w]
      rfl
     exact norm_ (by simp only [putAll, Act.put, List.setIfInBounds_toArray, List.set_cons_zero, List.set_cons_succ]) (hCont (v261, .slice Ao12 y263.length co12, gb266) _ ⟨hHeld, (kr_ HO265), (kb_ BK258), (kb_ BK259), (kb_ BK266), GW266.out, GE266.out, NB258_266.out, NB266_258.out, NB259_266.out, NB266_259.out, hs_⟩)
   ·skip
    refine box_step ?hg (N := 6) ?hd (cs := #[.int .i64 0, .slice none 0 0, .bool false]) (t := 46) ?hr ?_; (case hd => rfl); (case hg => rfl); (case hr => first | (go_simp; done) | (go_simp; rfl))
    intro gb266 hg w8 hbox hb
    have n0_ := Aside0.mk (blk_below (g := gb258) (o := .cells #[.int .i64 a0_0, .slice A0_1 l0_1.length c0_1, .bool a0_2] 46 (0, 0)) (kb_ BK258) hb)
    have n1_ := Aside0.mk (blk_below (g := gb259) (o := .cells #[.int .i64 0, .slice none 0 0, .bool false] 46 (0, 0)) (kb_ BK259) hb)
    have n2_ := Aside0.mk (below_step hs_ hb)
    have n3_ := Aside0.mk (hbox)
    have n4_ := Aside0.mk ((by rw [hg]; exact (below_size hs_) : w.heap.size ≤ gb266))
    have n5_ := Aside0.mk ((by rw [hg]; exact (below_size hs_) : w.heap.size ≤ gb266))
    have n6_ := Aside0.mk ((by rw [hg]; exact Nat.ne_of_lt (blk_lt (g := gb258) (o := .cells #[.int .i64 a0_0, .slice A0_1 l0_1.length c0_1, .bool a0_2] 46 (0, 0)) (kb_ BK258)) : gb258 ≠ gb266))
    have n7_ := Aside0.mk ((by rw [hg]; exact Nat.ne_of_gt (blk_lt (g := gb258) (o := .cells #[.int .i64 a0_0, .slice A0_1 l0_1.length c0_1, .bool a0_2] 46 (0, 0)) (kb_ BK258)) : gb266 ≠ gb258))
    have n8_ := Aside0.mk ((by rw [hg]; exact Nat.ne_of_lt (blk_lt (g := gb259) (o := .cells #[.int .i64 0, .slice none 0 0, .bool false] 46 (0, 0)) (kb_ BK259)) : gb259 ≠ gb266))
    have n9_ := Aside0.mk ((by rw [hg]; exact Nat.ne_of_gt (blk_lt (g := gb259) (o := .cells #[.int .i64 0, .slice none 0 0, .bool false] 46 (0, 0)) (kb_ BK259)) : gb266 ≠ gb259))
    clear BK258
    clear BK259
    clear HB
    have BK258 := n0_
    have BK259 := n1_
    have HB := n2_
    have BK266 := n3_
    have GW266 := n4_
    have GE266 := n5_
    have NB258_266 := n6_
    have NB266_258 := n7_
    have NB259_266 := n8_
    have NB266_259 := n9_
    clear n0_ n1_ n2_ n3_ n4_ n5_ n6_ n7_ n8_ n9_
    clear hb hbox hg
    refine hK.out _ _ ⟨(blk_cell BK258.out 0).trans rfl, (blk_cell BK258.out 1).trans rfl, (blk_cell BK258.out 2).trans rfl⟩ (fun hHeld => ?_)
    clear hK K
    refine norm_ (a' := ?_) ?_ ?_
    rotate_left
    ·show Act.put _ (some 6) _ = _
     simp only [Act.put, List.setIfInBounds_toArray, List.set_cons_zero, List.set_cons_succ, i64_w, i32_w]
     rfl
    refine one_ (i := 2) (N := some 15) #[true, true, true, true, true, false, true, true, false, true, false] rfl rfl (one_of HT_.out (by kernel_rfl)) (by decide) (fun K hK => ?_)
    refine Kd.R_lit_step (Kd.int .u8) _ 5 ?hg (N := 15) ?hd (xs := ([] : List Int)) (inner := []) (ok := fun _ => True) (okp := fun _ => True) ?hr ?hp (fun _ hk => hk) trivial (Below.refl _ _) (Nat.le_refl _) (by simp) ?_; (case hd => rfl); (case hg => rfl); (case hr => first | (go_simp; done) | (go_simp; rfl)); (case hp => exact (Reps.none _ _))
    intro v261 w9 ho10 hb hg_ hnew_
    clear hg_ hnew_
    (first | rw [← Ny260.out] at ho10 | (simp only [Int.reduceToNat] at ho10; rw [← Ny260.out] at ho10))
    have n0_ := Aside0.mk (Kd.R_lower ho10 (below_size hs_))
    have n1_ := Aside0.mk (blk_below (g := gb258) (o := .cells #[.int .i64 a0_0, .slice A0_1 l0_1.length c0_1, .bool a0_2] 46 (0, 0)) (kb_ BK258) hb)
    have n2_ := Aside0.mk (blk_below (g := gb259) (o := .cells #[.int .i64 0, .slice none 0 0, .bool false] 46 (0, 0)) (kb_ BK259) hb)
    have n3_ := Aside0.mk (blk_below (g := gb266) (o := .cells #[.int .i64 0, .slice none 0 0, .bool false] 46 (0, 0)) (kb_ BK266) hb)
    have n4_ := Aside0.mk (below_step hs_ hb)
    clear BK258
    clear BK259
    clear BK266
    clear HB
    have HO262 := n0_
    have BK258 := n1_
    have BK259 := n2_
    have BK266 := n3_
    have HB := n4_
    clear n0_ n1_ n2_ n3_ n4_
    clear hb ho10
    refine hK.out _ _ ⟨(blk_cell BK258.out 0).trans rfl, (blk_cell BK258.out 1).trans rfl, (blk_cell BK258.out 2).trans rfl⟩ (fun hHeld => ?_)
    clear hK K
    refine norm_ (a' := ?_) ?_ ?_
    rotate_left
    ·show Act.put _ (some 15) _ = _
     simp only [Act.put, List.setIfInBounds_toArray, List.set_cons_zero, List.set_cons_succ, i64_w, i32_w]
     rfl
    refine one_ (i := 5) (N := some 18) #[true, true, true, true, true, true, true, true, false, true, false] rfl rfl (one_of HT_.out (by kernel_rfl)) (by decide) (fun K hK => ?_)
    refine Kd.R_append_rows_step (Kd.int .u8) (w0 := w) w.heap.size (by rfl) (.tmp 15) (.tmp 17) 23 5 (.int .u8 0) 1 rfl Tryd.underlying23 info5 rfl (by decide) (by omega) v261 y260 l0_1 _ _ _ (fun _ => True) (fun _ => False) rfl rfl ?aO ?aR (fun _ _ h => h) (fun _ h => h.elim) ?aF ?aB ?aS ?aL ?_
    (case aR => repeat (first | exact (Kd.C_below HR0_1.out HB.out) | (with_reducible refine Kd.C_alloc ?_ _) | (with_reducible refine Kd.C_drewN ?_ _) | (with_reducible refine Kd.C_drew ?_)))
    (case aB => exact hs_)
    (case aF => exact (fun _ _ => trivial))
    (case aO => exact (kr_ HO262))
    (case aS => exact (below_size hs_))
    (case aL => have := LMc3.out; omega)
    intro v264 w11 ho hb hg hat
    rw [← Ny263.out] at ho
    have n0_ := Aside0.mk (blk_grown (g := gb258) (o := .cells #[.int .i64 a0_0, .slice A0_1 l0_1.length c0_1, .bool a0_2] 46 (0, 0)) (kb_ BK258) hg (Kd.R_ne HO262.out BK258.out (by decide)))
    have n1_ := Aside0.mk (blk_grown (g := gb259) (o := .cells #[.int .i64 0, .slice none 0 0, .bool false] 46 (0, 0)) (kb_ BK259) hg (Kd.R_ne HO262.out BK259.out (by decide)))
    have n2_ := Aside0.mk (blk_grown (g := gb266) (o := .cells #[.int .i64 0, .slice none 0 0, .bool false] 46 (0, 0)) (kb_ BK266) hg (Kd.R_ne HO262.out BK266.out (by decide)))
    have n3_ := Aside0.mk (hb)
    have n4_ := Aside0.mk (ho)
    clear BK258
    clear BK259
    clear BK266
    clear HB
    clear HO262
    have BK258 := n0_
    have BK259 := n1_
    have BK266 := n2_
    have HB := n3_
    have HO265 := n4_
    clear n0_ n1_ n2_ n3_ n4_
    clear ho hb hg hat
    obtain ⟨Ao12, co12, eo12⟩ := Kd.R_slice HO265.out
    (first | subst eo12 | (injection eo12 with f1_ f2_ f3_; have f4_ := f1_.symm; have f5_ := f3_.symm; clear f1_ f2_ f3_; subst f4_; subst f5_))
    refine hK.out _ _ ⟨(blk_cell BK258.out 0).trans rfl, (blk_cell BK258.out 1).trans rfl, (blk_cell BK258.out 2).trans rfl⟩ (fun hHeld => ?_)
    clear hK K
    refine norm_ (a' := ?_) ?_ ?_
    rotate_left
    ·show Act.put _ (some 18) _ = _
     simp only [Act.put, List.setIfInBounds_toArray, List.set_cons_zero, List.set_cons_succ, i64_w, i32_w]
     rfl
    refine pure_ (i := 8) (N := some 21) (v := ?_) (a' := ?_) #[true, true, true, true, true, true, true, true, true, true, false] rfl rfl (any_of HT_.out (by kernel_rfl)) (fun _ _ _ h => h) (Or.inl ⟨by rfl, ?_⟩) ?_ ?_
    rotate_left
    ·intro w'
     go_simp
     with_reducible rfl
    rotate_left
    ·simp only [Act.put, List.setIfInBounds_toArray, List.set_cons_zero, List.set_cons_succ, i64_w, i32_w]
     rfl
    exact norm_ (by simp only [putAll, Act.put, List.setIfInBounds_toArray, List.set_cons_zero, List.set_cons_succ]) (hCont (v261, .slice Ao12 y263.length co12, gb266) _ ⟨hHeld, (kr_ HO265), (kb_ BK258), (kb_ BK259), (kb_ BK266), GW266.out, GE266.out, NB258_266.out, NB266_258.out, NB259_266.out, NB266_259.out, hs_⟩)
  rintro ⟨v261, v264, gb266⟩ w13 ⟨hS_, h0_, h1_, h2_, h3_, h4_, h5_, h6_, h7_, h8_, h9_, h10_⟩
  have n0_ : Aside0 (Kd.R (Kd.int .u8) 5 w13 w.heap.size (fun _ => True) v264 y263) := ⟨h0_⟩
  have n1_ : Aside0 (w13.heap[gb258]? = some (.cells #[.int .i64 a0_0, .slice A0_1 l0_1.length c0_1, .bool a0_2] 46 (0, 0))) := ⟨h1_⟩
  have n2_ : Aside0 (w13.heap[gb259]? = some (.cells #[.int .i64 0, .slice none 0 0, .bool false] 46 (0, 0))) := ⟨h2_⟩
  have n3_ : Aside0 (w13.heap[gb266]? = some (.cells #[.int .i64 0, .slice none 0 0, .bool false] 46 (0, 0))) := ⟨h3_⟩
  have n4_ : Aside0 (w.heap.size ≤ gb266) := ⟨h4_⟩
  have n5_ : Aside0 (w.heap.size ≤ gb266) := ⟨h5_⟩
  have n6_ : Aside0 (gb258 ≠ gb266) := ⟨h6_⟩
  have n7_ : Aside0 (gb266 ≠ gb258) := ⟨h7_⟩
  have n8_ : Aside0 (gb259 ≠ gb266) := ⟨h8_⟩
  have n9_ : Aside0 (gb266 ≠ gb259) := ⟨h9_⟩
  have n10_ : Aside0 (Below w.heap.size w w13) := ⟨h10_⟩
  clear BK258
  clear BK259
  clear HB
  clear h0_ h1_ h2_ h3_ h4_ h5_ h6_ h7_ h8_ h9_ h10_
  have HO265 := n0_
  have BK258 := n1_
  have BK259 := n2_
  have BK266 := n3_
  have GW266 := n4_
  have GE266 := n5_
  have NB258_266 := n6_
  have NB266_258 := n7_
  have NB259_266 := n8_
  have NB266_259 := n9_
  have HB := n10_
  clear n0_ n1_ n2_ n3_ n4_ n5_ n6_ n7_ n8_ n9_ n10_
  have hHeld : w13.cell? ⟨gb258, 0, none⟩ = some (.int .i64 a0_0) ∧ w13.cell? ⟨gb258, 1, none⟩ = some (.slice A0_1 l0_1.length c0_1) ∧ w13.cell? ⟨gb258, 2, none⟩ = some (.bool a0_2) := hS_
  obtain ⟨Ao14, co14, eo14⟩ := Kd.R_slice HO265.out
  (first | subst eo14 | (injection eo14 with f1_ f2_ f3_; have f4_ := f1_.symm; have f5_ := f3_.symm; clear f1_ f2_ f3_; subst f4_; subst f5_))
  refine norm_ (a' := ?_) ?_ ?_
  rotate_left
  ·simp only [putAll, Act.put, List.setIfInBounds_toArray, List.set_cons_zero, List.set_cons_succ]
   rfl
  refine one_ (i := 10) (N := none) #[true, true, true, true, true, true, true, true, true, true, true] rfl rfl (one_of HT_.out (by kernel_rfl)) (by decide) (fun K hK => ?_)
  have hs15 : w13.cell? ⟨gb266, 0, none⟩ = some (.int .i64 0) := (blk_cell BK266.out 0).trans rfl
  have hfs15 := blk_frozen BK266.out 0
  have hns15_0 := NB258_266.out
  have hns15_1 := NB259_266.out
  have hms15_0 := NB266_258.out
  have hms15_1 := NB266_259.out
  have hs16 : w13.cell? ⟨gb266, 1, none⟩ = some (.slice none 0 0) := (blk_cell BK266.out 1).trans rfl
  have hfs16 := blk_frozen BK266.out 1
  have hns16_0 := NB258_266.out
  have hns16_1 := NB259_266.out
  have hms16_0 := NB266_258.out
  have hms16_1 := NB266_259.out
  have hs17 : w13.cell? ⟨gb266, 2, none⟩ = some (.bool false) := (blk_cell BK266.out 2).trans rfl
  have hfs17 := blk_frozen BK266.out 2
  have hns17_0 := NB258_266.out
  have hns17_1 := NB259_266.out
  have hms17_0 := NB266_258.out
  have hms17_1 := NB266_259.out
  refine skip_ (w1 := ?_) (by rfl) rfl ?_ ?_
  rotate_left
  ·go_simp
   rfl
  refine hK.out _ _ ⟨((cell_far (p := ⟨gb266, _, none⟩) NB258_266.out _).trans (((cell_far (p := ⟨gb266, _, none⟩) NB258_266.out _).trans (((cell_far (p := ⟨gb266, _, none⟩) NB258_266.out _).trans (hHeld.1)))))), ((cell_far (p := ⟨gb266, _, none⟩) NB258_266.out _).trans (((cell_far (p := ⟨gb266, _, none⟩) NB258_266.out _).trans (((cell_far (p := ⟨gb266, _, none⟩) NB258_266.out _).trans (hHeld.2.1)))))), ((cell_far (p := ⟨gb266, _, none⟩) NB258_266.out _).trans (((cell_far (p := ⟨gb266, _, none⟩) NB258_266.out _).trans (((cell_far (p := ⟨gb266, _, none⟩) NB258_266.out _).trans (hHeld.2.2))))))⟩ (fun hHeld => ?_)
  clear hK K
  refine done_ (done_of HT_.out (by kernel_rfl)) ?_
  go_upto_region 2 with (fail)
  go_cut [28] (fun v28 wc => ∃ (kq : Nat) (x28_3 : Bool), v28 = .bool x28_3 ∧ Aside0 (spec_Feed.j0 kq l1 x28_3 a0_0 l0_1 a0_2 a0_0 y263 a0_2 = some (r1, r2, r3, r4)) ∧ Aside0 (kq ≤ k) ∧ Aside0 (Kd.R (Kd.int .u8) 5 wc w.heap.size (fun _ => True) (.slice Ao14 y263.length co14) y263) ∧ Aside0 (wc.heap[gb258]? = some (.cells #[.int .i64 a0_0, (.slice A0_1 l0_1.length c0_1), .bool a0_2] 46 (0, 0))) ∧ Aside0 (wc.heap[gb259]? = some (.cells #[.int .i64 0, (.slice none 0 0), .bool false] 46 (0, 0))) ∧ Aside0 (wc.heap[gb266]? = some (.cells #[.int .i64 a0_0, (.slice Ao14 y263.length co14), .bool a0_2] 46 (0, 0))) ∧ Aside0 (Below w.heap.size w wc))
  case first =>
   have H := HC4.out
   clear HC4
   replace H := Option.bind_eq_some_iff.mp H
   obtain ⟨t267, A180, H⟩ := H
   try dsimp only at H
   have A18 := Aside0.mk A180
   clear A180
   by_cases c19 : t267 = true
   ·subst c19
    rw [if_pos rfl] at H
    have H' := Aside0.mk H
    clear H
    have hnb20 := NB258_259.out
    have hnc20 := NB259_258.out
    have hnb21 := NB258_266.out
    have hnc21 := NB266_258.out
    have hcz22_0 : w13.cell? ⟨gb258, 0, none⟩ = some (.int .i64 a0_0) := (blk_cell BK258.out 0).trans rfl
    have hcz22_1 : w13.cell? ⟨gb258, 1, none⟩ = some (.slice A0_1 l0_1.length c0_1) := (blk_cell BK258.out 1).trans rfl
    have hcz22_2 : w13.cell? ⟨gb258, 2, none⟩ = some (.bool a0_2) := (blk_cell BK258.out 2).trans rfl
    have hfz22_0 := blk_frozen BK258.out 0
    have hfz22_1 := blk_frozen BK258.out 1
    have hfz22_2 := blk_frozen BK258.out 2
    go_wp2_with (first | ((with_reducible refine gate_callee (f := 48) rfl ?_); refine goesL_ (some 23) rfl rfl Tryd.func48 (by kernel_rfl) rfl #[.agg #[.int .i64 a0_0, .slice A0_1 l0_1.length c0_1, .bool a0_2]] rfl ka_ ?_; (with_reducible refine (spec_DecOk.calls k a0_0 _ _ l0_1 a0_2 true _ ?side1 ?side2 A18.out).mono ?_); (case side1 => exact Kd.C_below HR0_1.out hs_); (case side2 => exact HC0_1.out); rintro e w23 ⟨rfl, hb⟩; refine ⟨_, rfl, ?_⟩; have n0_ := Aside0.mk (Kd.R_below (by (with_reducible repeat (first | apply Kd.R_alloc | apply Kd.R_drewN | apply Kd.R_drew)); exact (Kd.R_mono (Kd.R_far (p := ⟨gb266, 2, none⟩) (Kd.R_far (p := ⟨gb266, 1, none⟩) (Kd.R_far (p := ⟨gb266, 0, none⟩) (Kd.R_types HO265.out BK266.out (by decide)) (fun _ hk => hk.2) (.int .i64 a0_0)) (fun _ hk => hk.2) (.slice Ao14 y263.length co14)) (fun _ hk => hk.2) (.bool a0_2)) (fun _ h_ => h_.1))) hb); have n1_ := Aside0.mk (blk_below (g := gb258) (o := .cells #[.int .i64 a0_0, .slice A0_1 l0_1.length c0_1, .bool a0_2] 46 (0, 0)) (by (with_reducible repeat (first | refine blk_drewN ?_ _ | refine blk_drew ?_ | refine blk_alloc ?_ _)); refine blk_far ?_ NB258_266.out _; (with_reducible repeat (first | refine blk_drewN ?_ _ | refine blk_drew ?_ | refine blk_alloc ?_ _)); refine blk_far ?_ NB258_266.out _; (with_reducible repeat (first | refine blk_drewN ?_ _ | refine blk_drew ?_ | refine blk_alloc ?_ _)); refine blk_far ?_ NB258_266.out _; (with_reducible repeat (first | refine blk_drewN ?_ _ | refine blk_drew ?_ | refine blk_alloc ?_ _)); exact BK258.out) hb); have n2_ := Aside0.mk (blk_below (g := gb259) (o := .cells #[.int .i64 0, .slice none 0 0, .bool false] 46 (0, 0)) (by (with_reducible repeat (first | refine blk_drewN ?_ _ | refine blk_drew ?_ | refine blk_alloc ?_ _)); refine blk_far ?_ NB259_266.out _; (with_reducible repeat (first | refine blk_drewN ?_ _ | refine blk_drew ?_ | refine blk_alloc ?_ _)); refine blk_far ?_ NB259_266.out _; (with_reducible repeat (first | refine blk_drewN ?_ _ | refine blk_drew ?_ | refine blk_alloc ?_ _)); refine blk_far ?_ NB259_266.out _; (with_reducible repeat (first | refine blk_drewN ?_ _ | refine blk_drew ?_ | refine blk_alloc ?_ _)); exact BK259.out) hb); have n3_ := Aside0.mk (blk_below (g := gb266) (o := .cells #[.int .i64 a0_0, .slice Ao14 y263.length co14, .bool a0_2] 46 (0, 0)) (by (with_reducible repeat (first | refine blk_drewN ?_ _ | refine blk_drew ?_ | refine blk_alloc ?_ _)); refine blk_put (cs := #[.int .i64 a0_0, .slice Ao14 y263.length co14, .bool false]) ?_ 2 _ rfl; (with_reducible repeat (first | refine blk_drewN ?_ _ | refine blk_drew ?_ | refine blk_alloc ?_ _)); refine blk_put (cs := #[.int .i64 a0_0, .slice none 0 0, .bool false]) ?_ 1 _ rfl; (with_reducible repeat (first | refine blk_drewN ?_ _ | refine blk_drew ?_ | refine blk_alloc ?_ _)); refine blk_put (cs := #[.int .i64 0, .slice none 0 0, .bool false]) ?_ 0 _ rfl; (with_reducible repeat (first | refine blk_drewN ?_ _ | refine blk_drew ?_ | refine blk_alloc ?_ _)); exact BK266.out) hb); have n4_ := Aside0.mk (below_step hs_ hb); clear HO265; clear BK258; clear BK259; clear BK266; clear HB; have HO265 := n0_; have BK258 := n1_; have BK259 := n2_; have BK266 := n3_; have HB := n4_; clear n0_ n1_ n2_ n3_ n4_; try clear hb; have hcz24_0 : w23.cell? ⟨gb258, 0, none⟩ = some (.int .i64 a0_0) := (blk_cell BK258.out 0).trans rfl; have hcz24_1 : w23.cell? ⟨gb258, 1, none⟩ = some (.slice A0_1 l0_1.length c0_1) := (blk_cell BK258.out 1).trans rfl; have hcz24_2 : w23.cell? ⟨gb258, 2, none⟩ = some (.bool a0_2) := (blk_cell BK258.out 2).trans rfl; have hfz24_0 := blk_frozen BK258.out 0; have hfz24_1 := blk_frozen BK258.out 1; have hfz24_2 := blk_frozen BK258.out 2))
    go_meet
    case rel => exact ⟨_, (a0_2), (by first | rfl | (simp; done) | (simp [*]; done)), H', ⟨by first | omega | exact Nat.le_refl _⟩, ⟨by (with_reducible repeat (first | apply Kd.R_alloc | apply Kd.R_drewN | apply Kd.R_drew)); exact HO265.out⟩, ⟨by (with_reducible repeat (first | refine blk_drewN ?_ _ | refine blk_drew ?_ | refine blk_alloc ?_ _)); exact BK258.out⟩, ⟨by (with_reducible repeat (first | refine blk_drewN ?_ _ | refine blk_drew ?_ | refine blk_alloc ?_ _)); exact BK259.out⟩, ⟨by (with_reducible repeat (first | refine blk_drewN ?_ _ | refine blk_drew ?_ | refine blk_alloc ?_ _)); exact BK266.out⟩, ⟨by repeat (first | (with_reducible first | exact HB.out | apply below_alloc | apply pw_below_drewN | apply below_drew1 | refine below_set ?_ GE258.out | refine below_set ?_ GE259.out | refine below_set ?_ GE266.out) | exact HB.out)⟩⟩
   ·replace c19 := Bool.eq_false_iff.mpr c19
    subst c19
    rw [if_neg (show ¬ (false = true) by decide)] at H
    have H' := Aside0.mk H
    clear H
    have hnb25 := NB258_259.out
    have hnc25 := NB259_258.out
    have hnb26 := NB258_266.out
    have hnc26 := NB266_258.out
    have hcz27_0 : w13.cell? ⟨gb258, 0, none⟩ = some (.int .i64 a0_0) := (blk_cell BK258.out 0).trans rfl
    have hcz27_1 : w13.cell? ⟨gb258, 1, none⟩ = some (.slice A0_1 l0_1.length c0_1) := (blk_cell BK258.out 1).trans rfl
    have hcz27_2 : w13.cell? ⟨gb258, 2, none⟩ = some (.bool a0_2) := (blk_cell BK258.out 2).trans rfl
    have hfz27_0 := blk_frozen BK258.out 0
    have hfz27_1 := blk_frozen BK258.out 1
    have hfz27_2 := blk_frozen BK258.out 2
    go_wp2_with (first | ((with_reducible refine gate_callee (f := 48) rfl ?_); refine goesL_ (some 23) rfl rfl Tryd.func48 (by kernel_rfl) rfl #[.agg #[.int .i64 a0_0, .slice A0_1 l0_1.length c0_1, .bool a0_2]] rfl ka_ ?_; (with_reducible refine (spec_DecOk.calls k a0_0 _ _ l0_1 a0_2 false _ ?side1 ?side2 A18.out).mono ?_); (case side1 => exact Kd.C_below HR0_1.out hs_); (case side2 => exact HC0_1.out); rintro e w28 ⟨rfl, hb⟩; refine ⟨_, rfl, ?_⟩; have n0_ := Aside0.mk (Kd.R_below (by (with_reducible repeat (first | apply Kd.R_alloc | apply Kd.R_drewN | apply Kd.R_drew)); exact (Kd.R_mono (Kd.R_far (p := ⟨gb266, 2, none⟩) (Kd.R_far (p := ⟨gb266, 1, none⟩) (Kd.R_far (p := ⟨gb266, 0, none⟩) (Kd.R_types HO265.out BK266.out (by decide)) (fun _ hk => hk.2) (.int .i64 a0_0)) (fun _ hk => hk.2) (.slice Ao14 y263.length co14)) (fun _ hk => hk.2) (.bool a0_2)) (fun _ h_ => h_.1))) hb); have n1_ := Aside0.mk (blk_below (g := gb258) (o := .cells #[.int .i64 a0_0, .slice A0_1 l0_1.length c0_1, .bool a0_2] 46 (0, 0)) (by (with_reducible repeat (first | refine blk_drewN ?_ _ | refine blk_drew ?_ | refine blk_alloc ?_ _)); refine blk_far ?_ NB258_266.out _; (with_reducible repeat (first | refine blk_drewN ?_ _ | refine blk_drew ?_ | refine blk_alloc ?_ _)); refine blk_far ?_ NB258_266.out _; (with_reducible repeat (first | refine blk_drewN ?_ _ | refine blk_drew ?_ | refine blk_alloc ?_ _)); refine blk_far ?_ NB258_266.out _; (with_reducible repeat (first | refine blk_drewN ?_ _ | refine blk_drew ?_ | refine blk_alloc ?_ _)); exact BK258.out) hb); have n2_ := Aside0.mk (blk_below (g := gb259) (o := .cells #[.int .i64 0, .slice none 0 0, .bool false] 46 (0, 0)) (by (with_reducible repeat (first | refine blk_drewN ?_ _ | refine blk_drew ?_ | refine blk_alloc ?_ _)); refine blk_far ?_ NB259_266.out _; (with_reducible repeat (first | refine blk_drewN ?_ _ | refine blk_drew ?_ | refine blk_alloc ?_ _)); refine blk_far ?_ NB259_266.out _; (with_reducible repeat (first | refine blk_drewN ?_ _ | refine blk_drew ?_ | refine blk_alloc ?_ _)); refine blk_far ?_ NB259_266.out _; (with_reducible repeat (first | refine blk_drewN ?_ _ | refine blk_drew ?_ | refine blk_alloc ?_ _)); exact BK259.out) hb); have n3_ := Aside0.mk (blk_below (g := gb266) (o := .cells #[.int .i64 a0_0, .slice Ao14 y263.length co14, .bool a0_2] 46 (0, 0)) (by (with_reducible repeat (first | refine blk_drewN ?_ _ | refine blk_drew ?_ | refine blk_alloc ?_ _)); refine blk_put (cs := #[.int .i64 a0_0, .slice Ao14 y263.length co14, .bool false]) ?_ 2 _ rfl; (with_reducible repeat (first | refine blk_drewN ?_ _ | refine blk_drew ?_ | refine blk_alloc ?_ _)); refine blk_put (cs := #[.int .i64 a0_0, .slice none 0 0, .bool false]) ?_ 1 _ rfl; (with_reducible repeat (first | refine blk_drewN ?_ _ | refine blk_drew ?_ | refine blk_alloc ?_ _)); refine blk_put (cs := #[.int .i64 0, .slice none 0 0, .bool false]) ?_ 0 _ rfl; (with_reducible repeat (first | refine blk_drewN ?_ _ | refine blk_drew ?_ | refine blk_alloc ?_ _)); exact BK266.out) hb); have n4_ := Aside0.mk (below_step hs_ hb); clear HO265; clear BK258; clear BK259; clear BK266; clear HB; have HO265 := n0_; have BK258 := n1_; have BK259 := n2_; have BK266 := n3_; have HB := n4_; clear n0_ n1_ n2_ n3_ n4_; try clear hb))
    go_meet
    case rel => exact ⟨_, (true), (by first | rfl | (simp; done) | (simp [*]; done)), H', ⟨by first | omega | exact Nat.le_refl _⟩, ⟨by (with_reducible repeat (first | apply Kd.R_alloc | apply Kd.R_drewN | apply Kd.R_drew)); exact HO265.out⟩, ⟨by (with_reducible repeat (first | refine blk_drewN ?_ _ | refine blk_drew ?_ | refine blk_alloc ?_ _)); exact BK258.out⟩, ⟨by (with_reducible repeat (first | refine blk_drewN ?_ _ | refine blk_drew ?_ | refine blk_alloc ?_ _)); exact BK259.out⟩, ⟨by (with_reducible repeat (first | refine blk_drewN ?_ _ | refine blk_drew ?_ | refine blk_alloc ?_ _)); exact BK266.out⟩, ⟨by repeat (first | (with_reducible first | exact HB.out | apply below_alloc | apply pw_below_drewN | apply below_drew1 | refine below_set ?_ GE258.out | refine below_set ?_ GE259.out | refine below_set ?_ GE266.out) | exact HB.out)⟩⟩
  case rest =>
   clear HC4
   try clear c1
   try clear c2
   try clear p2
   try clear c3
   try clear c4
   try clear c19
   try clear c20
   try clear c21
   try clear c25
   try clear c26
   try clear hcz22_0
   try clear hcz22_1
   try clear hcz22_2
   try clear hcz24_0
   try clear hcz24_1
   try clear hcz24_2
   try clear hcz27_0
   try clear hcz27_1
   try clear hcz27_2
   try clear hfz22_0
   try clear hfz22_1
   try clear hfz22_2
   try clear hfz24_0
   try clear hfz24_1
   try clear hfz24_2
   try clear hfz27_0
   try clear hfz27_1
   try clear hfz27_2
   obtain ⟨kq, x28_3, rfl, HA, HJ3, HO_267001, BK258, BK259, BK266, HB⟩ := hcut
   cases kq with
   | zero => exact absurd HA.out (by simp [spec_Feed.j0])
   | succ kj3 =>
    have H := HA.out
    clear HA
    simp only [spec_Feed.j0] at H
    by_cases c29 : x28_3 = true
    ·subst c29
     rw [if_pos rfl] at H
     simp only [Option.some.injEq, Prod.mk.injEq] at H
     obtain ⟨rfl, rfl, rfl, rfl⟩ := H
     have hnb30 := NB266_258.out
     have hnc30 := NB258_266.out
     have hnb31 := NB266_259.out
     have hnc31 := NB259_266.out
     have hcz32_0 : wc.cell? ⟨gb266, 0, none⟩ = some (.int .i64 a0_0) := (blk_cell BK266.out 0).trans rfl
     have hcz32_1 : wc.cell? ⟨gb266, 1, none⟩ = some (.slice Ao14 y263.length co14) := (blk_cell BK266.out 1).trans rfl
     have hcz32_2 : wc.cell? ⟨gb266, 2, none⟩ = some (.bool a0_2) := (blk_cell BK266.out 2).trans rfl
     have hfz32_0 := blk_frozen BK266.out 0
     have hfz32_1 := blk_frozen BK266.out 1
     have hfz32_2 := blk_frozen BK266.out 2
     have hnb33 := NB259_258.out
     have hnc33 := NB258_259.out
     have hcz34_0 : wc.cell? ⟨gb259, 0, none⟩ = some (.int .i64 0) := (blk_cell BK259.out 0).trans rfl
     have hcz34_1 : wc.cell? ⟨gb259, 1, none⟩ = some (.slice none 0 0) := (blk_cell BK259.out 1).trans rfl
     have hcz34_2 : wc.cell? ⟨gb259, 2, none⟩ = some (.bool false) := (blk_cell BK259.out 2).trans rfl
     have hfz34_0 := blk_frozen BK259.out 0
     have hfz34_1 := blk_frozen BK259.out 1
     have hfz34_2 := blk_frozen BK259.out 2
     go_wp2
     refine bodyPost_ret (results_ct rfl _ _ gb259 46 #[.int .i64 a0_0, .slice Ao14 y263.length co14, .bool a0_2] (0, 0) _ rfl (by (with_reducible repeat (first | refine blk_drewN ?_ _ | refine blk_drew ?_ | refine blk_alloc ?_ _)); refine blk_put (cs := #[.int .i64 a0_0, .slice Ao14 y263.length co14, .bool false]) ?_ 2 _ rfl; (with_reducible repeat (first | refine blk_drewN ?_ _ | refine blk_drew ?_ | refine blk_alloc ?_ _)); refine blk_put (cs := #[.int .i64 a0_0, .slice none 0 0, .bool false]) ?_ 1 _ rfl; (with_reducible repeat (first | refine blk_drewN ?_ _ | refine blk_drew ?_ | refine blk_alloc ?_ _)); refine blk_put (cs := #[.int .i64 0, .slice none 0 0, .bool false]) ?_ 0 _ rfl; (with_reducible repeat (first | refine blk_drewN ?_ _ | refine blk_drew ?_ | refine blk_alloc ?_ _)); exact BK259.out) Tryd.underlying46 rfl (by kernel_rfl)) rfl ?_
     exact ⟨_, by first | rfl | (simp [errW_none, errW_some] <;> rfl) | (simp [*, errW_none, errW_some] <;> rfl), by (with_reducible repeat (first | apply Kd.R_alloc | apply Kd.R_drewN | apply Kd.R_drew)); exact Kd.R_mono (Kd.R_far (p := ⟨gb259, 2, none⟩) (Kd.R_far (p := ⟨gb259, 1, none⟩) (Kd.R_far (p := ⟨gb259, 0, none⟩) (Kd.R_types HO_267001.out BK259.out (by decide)) (fun _ hk => hk.2) (.int .i64 a0_0)) (fun _ hk => hk.2) (.slice Ao14 y263.length co14)) (fun _ hk => hk.2) (.bool a0_2)) (fun _ hk => trivial), hs_⟩
    ·replace c29 := Bool.eq_false_iff.mpr c29
     subst c29
     rw [if_neg (show ¬ (false = true) by decide)] at H
     obtain ⟨y268, hy268⟩ : ∃ y_ : List Int, y_ = (([] : List Int)) := ⟨_, rfl⟩
     replace H : (if y268.length + l0_1.length < 140737488355328 then ((some (y268 ++ l0_1 : List Int)).bind fun y271 => (if y271.length + l1.length < 140737488355328 then (spec_Feed.l0 kj3 (y271 ++ l1) (([] : List Int)) 0 a0_0 l0_1 a0_2 a0_0 (([] : List Int)) a0_2) else (none))) else (none)) = some (r1, r2, r3, r4) := by first | (rw [hy268]; with_reducible exact H) | (have H2_ := (Option.bind_some _ _).symm.trans H; rw [hy268]; with_reducible exact H2_) | (have H2_ := (Option.bind_some _ _).symm.trans H; with_reducible exact H2_) | with_reducible exact H | (rw [hy268]; exact H) | exact H
     have Ny268 := Aside0.mk hy268
     clear hy268
     by_cases c35 : y268.length + l0_1.length < 140737488355328
     ·rw [if_pos c35] at H
      have LMc35 := Aside0.mk c35
      clear c35
      obtain ⟨y271, hy271⟩ : ∃ y_ : List Int, y_ = (y268 ++ l0_1) := ⟨_, rfl⟩
      replace H : (if y271.length + l1.length < 140737488355328 then (spec_Feed.l0 kj3 (y271 ++ l1) (([] : List Int)) 0 a0_0 l0_1 a0_2 a0_0 (([] : List Int)) a0_2) else (none)) = some (r1, r2, r3, r4) := by first | (rw [hy271]; with_reducible exact H) | (have H2_ := (Option.bind_some _ _).symm.trans H; rw [hy271]; with_reducible exact H2_) | (have H2_ := (Option.bind_some _ _).symm.trans H; with_reducible exact H2_) | with_reducible exact H | (rw [hy271]; exact H) | exact H
      have Ny271 := Aside0.mk hy271
      clear hy271
      by_cases c36 : y271.length + l1.length < 140737488355328
      ·rw [if_pos c36] at H
       have LMc36 := Aside0.mk c36
       clear c36
       obtain ⟨y274, hy274⟩ : ∃ y_ : List Int, y_ = (y271 ++ l1) := ⟨_, rfl⟩
       replace H : (spec_Feed.l0 kj3 y274 (([] : List Int)) 0 a0_0 l0_1 a0_2 a0_0 (([] : List Int)) a0_2) = some (r1, r2, r3, r4) := by first | (rw [hy274]; with_reducible exact H) | (have H2_ := (Option.bind_some _ _).symm.trans H; rw [hy274]; with_reducible exact H2_) | (have H2_ := (Option.bind_some _ _).symm.trans H; with_reducible exact H2_) | with_reducible exact H | (rw [hy274]; exact H) | exact H
       have Ny274 := Aside0.mk hy274
       clear hy274
       obtain ⟨y277, hy277⟩ : ∃ y_ : List Int, y_ = (([] : List Int)) := ⟨_, rfl⟩
       replace H : (spec_Feed.l0 kj3 y274 (([] : List Int)) 0 a0_0 l0_1 a0_2 a0_0 y277 a0_2) = some (r1, r2, r3, r4) := by first | (rw [hy277]; with_reducible exact H) | (have H2_ := (Option.bind_some _ _).symm.trans H; rw [hy277]; with_reducible exact H2_) | (have H2_ := (Option.bind_some _ _).symm.trans H; with_reducible exact H2_) | with_reducible exact H | (rw [hy277]; exact H) | exact H
       have Ny277 := Aside0.mk hy277
       clear hy277
       obtain ⟨y280, hy280⟩ : ∃ y_ : List Int, y_ = (([] : List Int)) := ⟨_, rfl⟩
       replace H : (spec_Feed.l0 kj3 y274 y280 0 a0_0 l0_1 a0_2 a0_0 y277 a0_2) = some (r1, r2, r3, r4) := by first | (rw [hy280]; with_reducible exact H) | (have H2_ := (Option.bind_some _ _).symm.trans H; rw [hy280]; with_reducible exact H2_) | (have H2_ := (Option.bind_some _ _).symm.trans H; with_reducible exact H2_) | with_reducible exact H | (rw [hy280]; exact H) | exact H
       have Ny280 := Aside0.mk hy280
       clear hy280
       have H' := Aside0.mk H
       clear H
       go_wp2_with (first | ((with_reducible refine gate_dst (N := 30) rfl ?_); refine Kd.R_lit (Kd.int .u8) _ 5 ?hg (N := 30) ?hd (xs := ([] : List Int)) (inner := []) (ok := fun _ => True) (okp := fun _ => True) ?hr ?hp (fun _ hk => hk) trivial (Below.refl _ _) (Nat.le_refl _) (by simp) ?_; (case hd => rfl); (case hg => rfl); (case hr => first | (go_simp; done) | (go_simp; rfl)); (case hp => exact (Reps.none _ _)); intro v269 w37 ho38 hb hg_ hnew_; clear hg_ hnew_; (first | rw [← Ny268.out] at ho38 | (simp only [Int.reduceToNat] at ho38; rw [← Ny268.out] at ho38)); have n0_ := Aside0.mk (Kd.R_elder' (kr_ HO_267001) (Kd.R_base ho38) hb); have n1_ := Aside0.mk (Kd.R_lower (Kd.R_new' ho38 (Kd.R_lt (kr_ HO_267001))) (below_size hs_)); have n2_ := Aside0.mk (blk_below (g := gb258) (o := .cells #[.int .i64 a0_0, .slice A0_1 l0_1.length c0_1, .bool a0_2] 46 (0, 0)) (kb_ BK258) hb); have n3_ := Aside0.mk (blk_below (g := gb259) (o := .cells #[.int .i64 0, .slice none 0 0, .bool false] 46 (0, 0)) (kb_ BK259) hb); have n4_ := Aside0.mk (blk_below (g := gb266) (o := .cells #[.int .i64 a0_0, .slice Ao14 y263.length co14, .bool a0_2] 46 (0, 0)) (kb_ BK266) hb); have n5_ := Aside0.mk (below_step hs_ hb); clear HO_267001; clear BK258; clear BK259; clear BK266; clear HB; have HO_267001 := n0_; have HO270 := n1_; have BK258 := n2_; have BK259 := n3_; have BK266 := n4_; have HB := n5_; clear n0_ n1_ n2_ n3_ n4_ n5_; clear hb ho38; have hnb39 := NB258_259.out; have hnc39 := NB259_258.out; have hnb40 := NB258_266.out; have hnc40 := NB266_258.out; have hcz41_0 : w37.cell? ⟨gb258, 0, none⟩ = some (.int .i64 a0_0) := (blk_cell BK258.out 0).trans rfl; have hcz41_1 : w37.cell? ⟨gb258, 1, none⟩ = some (.slice A0_1 l0_1.length c0_1) := (blk_cell BK258.out 1).trans rfl; have hcz41_2 : w37.cell? ⟨gb258, 2, none⟩ = some (.bool a0_2) := (blk_cell BK258.out 2).trans rfl; have hfz41_0 := blk_frozen BK258.out 0; have hfz41_1 := blk_frozen BK258.out 1; have hfz41_2 := blk_frozen BK258.out 2) | ((with_reducible refine gate_builtin (b := .append) (xs := #[.tmp 30, .tmp 32]) rfl ?_); at_builtin; refine Kd.R_append_rows (Kd.int .u8) (w0 := w) w.heap.size rfl (.tmp 30) (.tmp 32) 23 5 (.int .u8 0) 1 rfl Tryd.underlying23 info5 rfl (by decide) (by omega) v269 y268 l0_1 _ _ _ (fun k_ => some k_ ≠ (.slice Ao14 y263.length co14 : Value).ownBlock) (fun _ => False) rfl rfl ?aO ?aR (fun _ _ h => h) (fun _ h => h.elim) ?aF ?aB ?aS ?aL ?_; (case aR => repeat (first | exact (Kd.C_below HR0_1.out HB.out) | (with_reducible refine Kd.C_alloc ?_ _) | (with_reducible refine Kd.C_drewN ?_ _) | (with_reducible refine Kd.C_drew ?_))); (case aB => exact hs_); (case aF => exact (fun k_ hk => Kd.fresh' (Kd.R_lt (kr_ HO_267001)) k_ hk)); (case aO => exact (by (with_reducible repeat (first | apply Kd.R_alloc | apply Kd.R_drewN | apply Kd.R_drew)); exact Kd.R_mono HO270.out (fun _ hk => hk.2))); (case aS => exact (below_size hs_)); (case aL => have := LMc35.out; omega); intro v272 w42 ho hb hg hat; rw [← Ny271.out] at ho; have n0_ := Aside0.mk (Kd.R_after (ok := (fun _ => True)) (kr_ HO_267001) hg hat); have n1_ := Aside0.mk (blk_grown (g := gb258) (o := .cells #[.int .i64 a0_0, .slice A0_1 l0_1.length c0_1, .bool a0_2] 46 (0, 0)) (kb_ BK258) hg (Kd.R_ne HO270.out BK258.out (by decide))); have n2_ := Aside0.mk (blk_grown (g := gb259) (o := .cells #[.int .i64 0, .slice none 0 0, .bool false] 46 (0, 0)) (kb_ BK259) hg (Kd.R_ne HO270.out BK259.out (by decide))); have n3_ := Aside0.mk (blk_grown (g := gb266) (o := .cells #[.int .i64 a0_0, .slice Ao14 y263.length co14, .bool a0_2] 46 (0, 0)) (kb_ BK266) hg (Kd.R_ne HO270.out BK266.out (by decide))); have n4_ := Aside0.mk (hb); have n5_ := Aside0.mk (ho); clear HO_267001; clear BK258; clear BK259; clear BK266; clear HB; clear HO270; have HO_267001 := n0_; have BK258 := n1_; have BK259 := n2_; have BK266 := n3_; have HB := n4_; have HO273 := n5_; clear n0_ n1_ n2_ n3_ n4_ n5_; clear ho hb hg hat) | ((with_reducible refine gate_builtin (b := .append) (xs := #[.tmp 33, .tmp 34]) rfl ?_); at_builtin; refine Kd.R_append_rows (Kd.int .u8) (w0 := w) w.heap.size rfl (.tmp 33) (.tmp 34) 23 5 (.int .u8 0) 1 rfl Tryd.underlying23 info5 rfl (by decide) (by omega) v272 y271 l1 _ _ _ (fun k_ => some k_ ≠ (.slice Ao14 y263.length co14 : Value).ownBlock) (fun _ => False) rfl rfl ?aO ?aR (fun _ _ h => h) (fun _ h => h.elim) ?aF ?aB ?aS ?aL ?_; (case aR => repeat (first | exact (Kd.C_below HR1.out HB.out) | (with_reducible refine Kd.C_alloc ?_ _) | (with_reducible refine Kd.C_drewN ?_ _) | (with_reducible refine Kd.C_drew ?_))); (case aB => exact hs_); (case aF => exact (fun k_ hk => Kd.fresh' (Kd.R_lt (kr_ HO_267001)) k_ hk)); (case aO => exact (kr_ HO273)); (case aS => exact (below_size hs_)); (case aL => have := LMc36.out; omega); intro v275 w43 ho hb hg hat; rw [← Ny274.out] at ho; have n0_ := Aside0.mk (Kd.R_after (ok := (fun _ => True)) (kr_ HO_267001) hg hat); have n1_ := Aside0.mk (blk_grown (g := gb258) (o := .cells #[.int .i64 a0_0, .slice A0_1 l0_1.length c0_1, .bool a0_2] 46 (0, 0)) (kb_ BK258) hg (Kd.R_ne HO273.out BK258.out (by decide))); have n2_ := Aside0.mk (blk_grown (g := gb259) (o := .cells #[.int .i64 0, .slice none 0 0, .bool false] 46 (0, 0)) (kb_ BK259) hg (Kd.R_ne HO273.out BK259.out (by decide))); have n3_ := Aside0.mk (blk_grown (g := gb266) (o := .cells #[.int .i64 a0_0, .slice Ao14 y263.length co14, .bool a0_2] 46 (0, 0)) (kb_ BK266) hg (Kd.R_ne HO273.out BK266.out (by decide))); have n4_ := Aside0.mk (hb); have n5_ := Aside0.mk (ho); clear HO_267001; clear BK258; clear BK259; clear BK266; clear HB; clear HO273; have HO_267001 := n0_; have BK258 := n1_; have BK259 := n2_; have BK266 := n3_; have HB := n4_; have HO276 := n5_; clear n0_ n1_ n2_ n3_ n4_ n5_; clear ho hb hg hat) | ((with_reducible refine gate_dst (N := 36) rfl ?_); refine Kd.R_lit (Kd.int .u8) _ 5 ?hg (N := 36) ?hd (xs := ([] : List Int)) (inner := []) (ok := fun _ => True) (okp := fun _ => True) ?hr ?hp (fun _ hk => hk) trivial (Below.refl _ _) (Nat.le_refl _) (by simp) ?_; (case hd => rfl); (case hg => rfl); (case hr => first | (go_simp; done) | (go_simp; rfl)); (case hp => exact (Reps.none _ _)); intro v278 w44 ho45 hb hg_ hnew_; clear hg_ hnew_; (first | rw [← Ny277.out] at ho45 | (simp only [Int.reduceToNat] at ho45; rw [← Ny277.out] at ho45)); have n0_ := Aside0.mk (Kd.R_elder' (kr_ HO_267001) (Kd.R_base ho45) hb); have n1_ := Aside0.mk (Kd.R_elder' (kr_ HO276) (Kd.R_base ho45) hb); have n2_ := Aside0.mk (Kd.R_lower (Kd.R_new' (Kd.R_new' ho45 (Kd.R_lt (kr_ HO_267001))) (Kd.R_lt (kr_ HO276))) (below_size hs_)); have n3_ := Aside0.mk (blk_below (g := gb258) (o := .cells #[.int .i64 a0_0, .slice A0_1 l0_1.length c0_1, .bool a0_2] 46 (0, 0)) (kb_ BK258) hb); have n4_ := Aside0.mk (blk_below (g := gb259) (o := .cells #[.int .i64 0, .slice none 0 0, .bool false] 46 (0, 0)) (kb_ BK259) hb); have n5_ := Aside0.mk (blk_below (g := gb266) (o := .cells #[.int .i64 a0_0, .slice Ao14 y263.length co14, .bool a0_2] 46 (0, 0)) (kb_ BK266) hb); have n6_ := Aside0.mk (below_step hs_ hb); clear HO_267001; clear HO276; clear BK258; clear BK259; clear BK266; clear HB; have HO_267001 := n0_; have HO276 := n1_; have HO279 := n2_; have BK258 := n3_; have BK259 := n4_; have BK266 := n5_; have HB := n6_; clear n0_ n1_ n2_ n3_ n4_ n5_ n6_; clear hb ho45; obtain ⟨Ao46, co46, eo46⟩ := Kd.R_slice HO279.out; subst eo46; have hnb47 := NB266_259.out; have hnc47 := NB259_266.out; have hcz48_0 : w44.cell? ⟨gb266, 0, none⟩ = some (.int .i64 a0_0) := (blk_cell BK266.out 0).trans rfl; have hcz48_1 : w44.cell? ⟨gb266, 1, none⟩ = some (.slice Ao14 y263.length co14) := (blk_cell BK266.out 1).trans rfl; have hcz48_2 : w44.cell? ⟨gb266, 2, none⟩ = some (.bool a0_2) := (blk_cell BK266.out 2).trans rfl; have hfz48_0 := blk_frozen BK266.out 0; have hfz48_1 := blk_frozen BK266.out 1; have hfz48_2 := blk_frozen BK266.out 2) | ((with_reducible refine gate_dst (N := 38) rfl ?_); refine Kd.R_lit (Kd.int .u8) _ 5 ?hg (N := 38) ?hd (xs := ([] : List Int)) (inner := []) (ok := fun _ => True) (okp := fun _ => True) ?hr ?hp (fun _ hk => hk) trivial (Below.refl _ _) (Nat.le_refl _) (by simp) ?_; (case hd => rfl); (case hg => rfl); (case hr => first | (go_simp; done) | (go_simp; rfl)); (case hp => exact (Reps.none _ _)); intro v281 w49 ho50 hb hg_ hnew_; clear hg_ hnew_; (first | rw [← Ny280.out] at ho50 | (simp only [Int.reduceToNat] at ho50; rw [← Ny280.out] at ho50)); have n0_ := Aside0.mk (Kd.R_elder' (by (with_reducible repeat (first | apply Kd.R_alloc | apply Kd.R_drewN | apply Kd.R_drew)); exact (Kd.R_mono (Kd.R_far (p := ⟨gb266, 1, none⟩) (Kd.R_types HO_267001.out BK266.out (by decide)) (fun _ hk => hk.2) (.slice Ao46 y277.length co46)) (fun _ h_ => h_.1))) (Kd.R_base ho50) hb); have n1_ := Aside0.mk (Kd.R_elder' (by (with_reducible repeat (first | apply Kd.R_alloc | apply Kd.R_drewN | apply Kd.R_drew)); exact (Kd.R_mono (Kd.R_far (p := ⟨gb266, 1, none⟩) (Kd.R_types HO276.out BK266.out (by decide)) (fun _ hk => hk.2) (.slice Ao46 y277.length co46)) (fun _ h_ => h_.1))) (Kd.R_base ho50) hb); have n2_ := Aside0.mk (Kd.R_elder' (by (with_reducible repeat (first | apply Kd.R_alloc | apply Kd.R_drewN | apply Kd.R_drew)); exact (Kd.R_mono (Kd.R_far (p := ⟨gb266, 1, none⟩) (Kd.R_types HO279.out BK266.out (by decide)) (fun _ hk => hk.2) (.slice Ao46 y277.length co46)) (fun _ h_ => h_.1))) (Kd.R_base ho50) hb); have n3_ := Aside0.mk (Kd.R_lower (Kd.R_new' (Kd.R_new' (Kd.R_new' ho50 (Kd.R_lt (by (with_reducible repeat (first | apply Kd.R_alloc | apply Kd.R_drewN | apply Kd.R_drew)); exact (Kd.R_mono (Kd.R_far (p := ⟨gb266, 1, none⟩) (Kd.R_types HO_267001.out BK266.out (by decide)) (fun _ hk => hk.2) (.slice Ao46 y277.length co46)) (fun _ h_ => h_.1))))) (Kd.R_lt (by (with_reducible repeat (first | apply Kd.R_alloc | apply Kd.R_drewN | apply Kd.R_drew)); exact (Kd.R_mono (Kd.R_far (p := ⟨gb266, 1, none⟩) (Kd.R_types HO276.out BK266.out (by decide)) (fun _ hk => hk.2) (.slice Ao46 y277.length co46)) (fun _ h_ => h_.1))))) (Kd.R_lt (by (with_reducible repeat (first | apply Kd.R_alloc | apply Kd.R_drewN | apply Kd.R_drew)); exact (Kd.R_mono (Kd.R_far (p := ⟨gb266, 1, none⟩) (Kd.R_types HO279.out BK266.out (by decide)) (fun _ hk => hk.2) (.slice Ao46 y277.length co46)) (fun _ h_ => h_.1))))) (below_size hs_)); have n4_ := Aside0.mk (blk_below (g := gb258) (o := .cells #[.int .i64 a0_0, .slice A0_1 l0_1.length c0_1, .bool a0_2] 46 (0, 0)) (by (with_reducible repeat (first | refine blk_drewN ?_ _ | refine blk_drew ?_ | refine blk_alloc ?_ _)); refine blk_far ?_ NB258_266.out _; (with_reducible repeat (first | refine blk_drewN ?_ _ | refine blk_drew ?_ | refine blk_alloc ?_ _)); exact BK258.out) hb); have n5_ := Aside0.mk (blk_below (g := gb259) (o := .cells #[.int .i64 0, .slice none 0 0, .bool false] 46 (0, 0)) (by (with_reducible repeat (first | refine blk_drewN ?_ _ | refine blk_drew ?_ | refine blk_alloc ?_ _)); refine blk_far ?_ NB259_266.out _; (with_reducible repeat (first | refine blk_drewN ?_ _ | refine blk_drew ?_ | refine blk_alloc ?_ _)); exact BK259.out) hb); have n6_ := Aside0.mk (blk_below (g := gb266) (o := .cells #[.int .i64 a0_0, .slice Ao46 y277.length co46, .bool a0_2] 46 (0, 0)) (by (with_reducible repeat (first | refine blk_drewN ?_ _ | refine blk_drew ?_ | refine blk_alloc ?_ _)); refine blk_put (cs := #[.int .i64 a0_0, .slice Ao14 y263.length co14, .bool a0_2]) ?_ 1 _ rfl; (with_reducible repeat (first | refine blk_drewN ?_ _ | refine blk_drew ?_ | refine blk_alloc ?_ _)); exact BK266.out) hb); have n7_ := Aside0.mk (below_step hs_ hb); clear HO_267001; clear HO276; clear HO279; clear BK258; clear BK259; clear BK266; clear HB; have HO_267001 := n0_; have HO276 := n1_; have HO279 := n2_; have HO282 := n3_; have BK258 := n4_; have BK259 := n5_; have BK266 := n6_; have HB := n7_; clear n0_ n1_ n2_ n3_ n4_ n5_ n6_ n7_; clear hb ho50))
       go_loopg [8, 9] kj3 (fun kq v8 v9 w' => ∃ (x8_2 : List Int) (x9_2 : Int) (x260000_2 : Int) (x260002_2 : Bool) (x267001_2 : List Int) (x267002_2 : Bool) (u267001 : Value), v9 = .int .i64 x9_2 ∧ Aside0 (spec_Feed.l0 kq y274 x8_2 x9_2 a0_0 l0_1 a0_2 a0_0 x267001_2 x267002_2 = some (r1, r2, r3, r4)) ∧ Aside0 (kq ≤ kj3) ∧ Aside0 (Kd.R (Kd.int .u8) 5 w' w.heap.size (fun k_ => some k_ ≠ (v8 : Value).ownBlock ∧ some k_ ≠ (u267001 : Value).ownBlock) v275 y274) ∧ Aside0 (Kd.R (Kd.int .u8) 5 w' w.heap.size (fun k_ => some k_ ≠ (v275 : Value).ownBlock ∧ some k_ ≠ (u267001 : Value).ownBlock) v8 x8_2) ∧ Aside0 (Kd.R (Kd.int .u8) 5 w' w.heap.size (fun k_ => some k_ ≠ (v275 : Value).ownBlock ∧ some k_ ≠ (v8 : Value).ownBlock) u267001 x267001_2) ∧ Aside0 (w'.heap[gb258]? = some (.cells #[.int .i64 a0_0, (.slice A0_1 l0_1.length c0_1), .bool a0_2] 46 (0, 0))) ∧ Aside0 (w'.heap[gb259]? = some (.cells #[.int .i64 x260000_2, (.slice none 0 0), .bool x260002_2] 46 (0, 0))) ∧ Aside0 (w'.heap[gb266]? = some (.cells #[.int .i64 a0_0, u267001, .bool x267002_2] 46 (0, 0))) ∧ Aside0 (Below w.heap.size w w'))
       case atStart => exact ⟨(y280), (0), (0), (false), (y277), (a0_2), (.slice Ao46 y277.length co46), (by first | rfl | (simp; done) | (simp [*]; done)), H', ⟨Nat.le_refl _⟩, ⟨by (with_reducible repeat (first | apply Kd.R_alloc | apply Kd.R_drewN | apply Kd.R_drew)); exact Kd.R_mono HO276.out (fun _ hk => ⟨hk.2, hk.1.2⟩)⟩, ⟨by (with_reducible repeat (first | apply Kd.R_alloc | apply Kd.R_drewN | apply Kd.R_drew)); exact Kd.R_mono HO282.out (fun _ hk => ⟨hk.1.2, hk.2⟩)⟩, ⟨by (with_reducible repeat (first | apply Kd.R_alloc | apply Kd.R_drewN | apply Kd.R_drew)); exact Kd.R_mono HO279.out (fun _ hk => ⟨hk.1.2, hk.2⟩)⟩, ⟨by (with_reducible repeat (first | refine blk_drewN ?_ _ | refine blk_drew ?_ | refine blk_alloc ?_ _)); exact BK258.out⟩, ⟨by (with_reducible repeat (first | refine blk_drewN ?_ _ | refine blk_drew ?_ | refine blk_alloc ?_ _)); exact BK259.out⟩, ⟨by (with_reducible repeat (first | refine blk_drewN ?_ _ | refine blk_drew ?_ | refine blk_alloc ?_ _)); exact BK266.out⟩, ⟨by repeat (first | (with_reducible first | exact HB.out | apply below_alloc | apply pw_below_drewN | apply below_drew1 | refine below_set ?_ GE258.out | refine below_set ?_ GE259.out | refine below_set ?_ GE266.out) | exact HB.out)⟩⟩
       case round =>
        clear H'
        try clear c1
        try clear c2
        try clear p2
        try clear c3
        try clear c4
        try clear c19
        try clear c20
        try clear c21
        try clear c25
        try clear c26
        try clear c29
        try clear c30
        try clear c31
        try clear c33
        try clear c34
        try clear c35
        try clear c36
        try clear c39
        try clear c40
        try clear c47
        try clear c48
        try clear hcz22_0
        try clear hcz22_1
        try clear hcz22_2
        try clear hcz24_0
        try clear hcz24_1
        try clear hcz24_2
        try clear hcz27_0
        try clear hcz27_1
        try clear hcz27_2
        try clear hcz32_0
        try clear hcz32_1
        try clear hcz32_2
        try clear hcz34_0
        try clear hcz34_1
        try clear hcz34_2
        try clear hcz41_0
        try clear hcz41_1
        try clear hcz41_2
        try clear hcz48_0
        try clear hcz48_1
        try clear hcz48_2
        try clear hfz22_0
        try clear hfz22_1
        try clear hfz22_2
        try clear hfz24_0
        try clear hfz24_1
        try clear hfz24_2
        try clear hfz27_0
        try clear hfz27_1
        try clear hfz27_2
        try clear hfz32_0
        try clear hfz32_1
        try clear hfz32_2
        try clear hfz34_0
        try clear hfz34_1
        try clear hfz34_2
        try clear hfz41_0
        try clear hfz41_1
        try clear hfz41_2
        try clear hfz48_0
        try clear hfz48_1
        try clear hfz48_2
        try clear p2
        obtain ⟨x8_2, x9_2, x260000_2, x260002_2, x267001_2, x267002_2, u267001, rfl, HA, HK2, HO_7, HO_8, HO_267001, BK258, BK259, BK266, HB⟩ := hrel
        cases gk with
        | zero => exact absurd HA.out (by simp [spec_Feed.l0])
        | succ k2 =>
         have H := HA.out
         clear HA
         simp only [spec_Feed.l0] at H
         by_cases c51 : x9_2 < (y274.length : Int)
         ·rw [if_pos c51] at H
          have c51b0 : decide (x9_2 < (y274.length : Int)) = true := decide_eq_true c51
          clear c51
          replace H := Option.bind_eq_some_iff.mp H
          obtain ⟨⟨t283, t284, t285⟩, A520, H⟩ := H
          try dsimp only at H
          have A52 := Aside0.mk A520
          clear A520
          by_cases c53 : t285 = true
          ·subst c53
           rw [if_pos rfl] at H
           replace H := Option.bind_eq_some_iff.mp H
           obtain ⟨t286, A540, H⟩ := H
           try dsimp only at H
           have A54 := Aside0.mk A540
           clear A540
           have H' := Aside0.mk H
           clear H
           obtain ⟨Ao55, co55, eo55⟩ := Kd.R_slice HO_7.out
           subst eo55
           have hnb56 := NB258_259.out
           have hnc56 := NB259_258.out
           have hnb57 := NB258_266.out
           have hnc57 := NB266_258.out
           have hcz58_0 : wr.cell? ⟨gb258, 0, none⟩ = some (.int .i64 a0_0) := (blk_cell BK258.out 0).trans rfl
           have hcz58_1 : wr.cell? ⟨gb258, 1, none⟩ = some (.slice A0_1 l0_1.length c0_1) := (blk_cell BK258.out 1).trans rfl
           have hcz58_2 : wr.cell? ⟨gb258, 2, none⟩ = some (.bool a0_2) := (blk_cell BK258.out 2).trans rfl
           have hfz58_0 := blk_frozen BK258.out 0
           have hfz58_1 := blk_frozen BK258.out 1
           have hfz58_2 := blk_frozen BK258.out 2
           go_wp2_with (first | ((with_reducible refine gate_callee (f := 78) rfl ?_); refine goesL_ (some 48) rfl rfl Tryd.func78 (by kernel_rfl) rfl #[.int .i64 a0_0, .slice Ao55 y274.length co55, .int .i64 x9_2] rfl ka_ ?_; (with_reducible refine (spec_l5Get.calls k2 a0_0 _ _ y274 x9_2 t283 t284 true _ ?side1 ?side2 A52.out).mono ?_); (case side1 => exact kc_ (Kd.R_reads' HO_7.out).2.2); (case side2 => exact (Kd.R_reads' HO_7.out).2.1); rintro e w59 ⟨rfl, hb⟩; refine ⟨_, rfl, ?_⟩; have n0_ := Aside0.mk (Kd.R_below (kr_ HO_7) hb); have n1_ := Aside0.mk (Kd.R_below (kr_ HO_8) hb); have n2_ := Aside0.mk (Kd.R_below (kr_ HO_267001) hb); have n3_ := Aside0.mk (blk_below (g := gb258) (o := .cells #[.int .i64 a0_0, .slice A0_1 l0_1.length c0_1, .bool a0_2] 46 (0, 0)) (kb_ BK258) hb); have n4_ := Aside0.mk (blk_below (g := gb259) (o := .cells #[.int .i64 x260000_2, .slice none 0 0, .bool x260002_2] 46 (0, 0)) (kb_ BK259) hb); have n5_ := Aside0.mk (blk_below (g := gb266) (o := .cells #[.int .i64 a0_0, u267001, .bool x267002_2] 46 (0, 0)) (kb_ BK266) hb); have n6_ := Aside0.mk (below_step hs_ hb); clear HO_7; clear HO_8; clear HO_267001; clear BK258; clear BK259; clear BK266; clear HB; have HO_7 := n0_; have HO_8 := n1_; have HO_267001 := n2_; have BK258 := n3_; have BK259 := n4_; have BK266 := n5_; have HB := n6_; clear n0_ n1_ n2_ n3_ n4_ n5_ n6_; try clear hb; obtain ⟨Ao60, co60, eo60⟩ := Kd.R_slice HO_8.out; subst eo60) | ((with_reducible refine gate_callee (f := 79) rfl ?_); refine goesL_ (some 55) rfl rfl Tryd.func79 (by kernel_rfl) rfl #[.slice Ao60 x8_2.length co60, .int .i64 t283] rfl ka_ ?_; (with_reducible refine (spec_PutSign.calls _ _ x8_2 t283 t286 _ ?side1 ?side2 A54.out).mono ?_); (case side1 => exact kc_ (Kd.R_reads' HO_8.out).2.2); (case side2 => exact (Kd.R_reads' HO_8.out).2.1); rintro e w61 ⟨v287, rfl, ho0, hb⟩; refine ⟨_, rfl, ?_⟩; have n0_ := Aside0.mk (Kd.R_elder' (kr_ HO_7) (Kd.R_base ho0) hb); have n1_ := Aside0.mk (Kd.R_elder' (kr_ HO_8) (Kd.R_base ho0) hb); have n2_ := Aside0.mk (Kd.R_elder' (kr_ HO_267001) (Kd.R_base ho0) hb); have n3_ := Aside0.mk (Kd.R_lower (Kd.R_new' (Kd.R_new' (Kd.R_new' ho0 (Kd.R_lt (kr_ HO_7))) (Kd.R_lt (kr_ HO_8))) (Kd.R_lt (kr_ HO_267001))) (below_size hs_)); have n4_ := Aside0.mk (blk_below (g := gb258) (o := .cells #[.int .i64 a0_0, .slice A0_1 l0_1.length c0_1, .bool a0_2] 46 (0, 0)) (kb_ BK258) hb); have n5_ := Aside0.mk (blk_below (g := gb259) (o := .cells #[.int .i64 x260000_2, .slice none 0 0, .bool x260002_2] 46 (0, 0)) (kb_ BK259) hb); have n6_ := Aside0.mk (blk_below (g := gb266) (o := .cells #[.int .i64 a0_0, u267001, .bool x267002_2] 46 (0, 0)) (kb_ BK266) hb); have n7_ := Aside0.mk (below_step hs_ hb); clear HO_7; clear HO_8; clear HO_267001; clear BK258; clear BK259; clear BK266; clear HB; have HO_7 := n0_; have HO_8 := n1_; have HO_267001 := n2_; have HO288 := n3_; have BK258 := n4_; have BK259 := n5_; have BK266 := n6_; have HB := n7_; clear n0_ n1_ n2_ n3_ n4_ n5_ n6_ n7_; try clear hb; (try clear ho0)))
           go_roundg k2
           case measure => have := HJ3.out; have := HK2.out; omega
           case rel => exact ⟨(t286), (t284), (x260000_2), (x260002_2), (x267001_2), (x267002_2), (u267001), (by first | rfl | (simp; done) | (simp [*]; done)), H', ⟨by have := HJ3.out; have := HK2.out; omega⟩, ⟨by (with_reducible repeat (first | apply Kd.R_alloc | apply Kd.R_drewN | apply Kd.R_drew)); exact Kd.R_mono HO_7.out (fun _ hk => ⟨hk.2, hk.1.2⟩)⟩, ⟨by (with_reducible repeat (first | apply Kd.R_alloc | apply Kd.R_drewN | apply Kd.R_drew)); exact Kd.R_mono HO288.out (fun _ hk => ⟨hk.1.1.2, hk.2⟩)⟩, ⟨by (with_reducible repeat (first | apply Kd.R_alloc | apply Kd.R_drewN | apply Kd.R_drew)); exact Kd.R_mono HO_267001.out (fun _ hk => ⟨hk.1.1, hk.2⟩)⟩, ⟨by (with_reducible repeat (first | refine blk_drewN ?_ _ | refine blk_drew ?_ | refine blk_alloc ?_ _)); exact BK258.out⟩, ⟨by (with_reducible repeat (first | refine blk_drewN ?_ _ | refine blk_drew ?_ | refine blk_alloc ?_ _)); exact BK259.out⟩, ⟨by (with_reducible repeat (first | refine blk_drewN ?_ _ | refine blk_drew ?_ | refine blk_alloc ?_ _)); exact BK266.out⟩, ⟨by repeat (first | (with_reducible first | exact HB.out | apply below_alloc | apply pw_below_drewN | apply below_drew1 | refine below_set ?_ GE258.out | refine below_set ?_ GE259.out | refine below_set ?_ GE266.out) | exact HB.out)⟩⟩
          ·replace c53 := Bool.eq_false_iff.mpr c53
           subst c53
           rw [if_neg (show ¬ (false = true) by decide)] at H
           by_cases c62 : 0 ≤ x9_2
           ·rw [if_pos c62] at H
            have c62b0 := eq_true c62
            have c62b1 : decide (0 ≤ x9_2) = true := decide_eq_true c62
            clear c62
            by_cases c63 : x9_2 ≤ (y274.length : Int)
            ·rw [if_pos c63] at H
             have c63b0 := eq_true c63
             have c63b1 : decide (x9_2 ≤ (y274.length : Int)) = true := decide_eq_true c63
             clear c63
             obtain ⟨y289, hy289⟩ : ∃ y_ : List Int, y_ = (y274.drop (x9_2 : Int).toNat) := ⟨_, rfl⟩
             replace H : ((spec_l6Begins.f k2 a0_0 y289).bind fun t293 => (if t293 = true then ((some (([] : List Int) : List Int)).bind fun y294 => ((some (y274.drop (x9_2 : Int).toNat : List Int)).bind fun y297 => (if y294.length + y297.length < 140737488355328 then (some (a0_0, (y294 ++ y297), x267002_2, strOfNums x8_2)) else (none)))) else (some (a0_0, x267001_2, true, strOfNums x8_2)))) = some (r1, r2, r3, r4) := by first | (rw [hy289]; with_reducible exact H) | (have H2_ := (Option.bind_some _ _).symm.trans H; rw [hy289]; with_reducible exact H2_) | (have H2_ := (Option.bind_some _ _).symm.trans H; with_reducible exact H2_) | with_reducible exact H | (rw [hy289]; exact H) | exact H
             have Ny289 := Aside0.mk hy289
             clear hy289
             replace H := Option.bind_eq_some_iff.mp H
             obtain ⟨t293, A640, H⟩ := H
             try dsimp only at H
             have A64 := Aside0.mk A640
             clear A640
             by_cases c65 : t293 = true
             ·subst c65
              rw [if_pos rfl] at H
              obtain ⟨y294, hy294⟩ : ∃ y_ : List Int, y_ = (([] : List Int)) := ⟨_, rfl⟩
              replace H : ((some (y274.drop (x9_2 : Int).toNat : List Int)).bind fun y297 => (if y294.length + y297.length < 140737488355328 then (some (a0_0, (y294 ++ y297), x267002_2, strOfNums x8_2)) else (none))) = some (r1, r2, r3, r4) := by first | (rw [hy294]; with_reducible exact H) | (have H2_ := (Option.bind_some _ _).symm.trans H; rw [hy294]; with_reducible exact H2_) | (have H2_ := (Option.bind_some _ _).symm.trans H; with_reducible exact H2_) | with_reducible exact H | (rw [hy294]; exact H) | exact H
              have Ny294 := Aside0.mk hy294
              clear hy294
              have c66b0 := eq_true (of_decide_eq_true as_ : 0 ≤ x9_2)
              have c67b0 := eq_true (of_decide_eq_true as_ : x9_2 ≤ (y274.length : Int))
              obtain ⟨y297, hy297⟩ : ∃ y_ : List Int, y_ = (y274.drop (x9_2 : Int).toNat) := ⟨_, rfl⟩
              replace H : (if y294.length + y297.length < 140737488355328 then (some (a0_0, (y294 ++ y297), x267002_2, strOfNums x8_2)) else (none)) = some (r1, r2, r3, r4) := by first | (rw [hy297]; with_reducible exact H) | (have H2_ := (Option.bind_some _ _).symm.trans H; rw [hy297]; with_reducible exact H2_) | (have H2_ := (Option.bind_some _ _).symm.trans H; with_reducible exact H2_) | with_reducible exact H | (rw [hy297]; exact H) | exact H
              have Ny297 := Aside0.mk hy297
              clear hy297
              by_cases c68 : y294.length + y297.length < 140737488355328
              ·rw [if_pos c68] at H
               have LMc68 := Aside0.mk c68
               clear c68
               obtain ⟨y301, hy301⟩ : ∃ y_ : List Int, y_ = (y294 ++ y297) := ⟨_, rfl⟩
               replace H : (some (a0_0, y301, x267002_2, strOfNums x8_2)) = some (r1, r2, r3, r4) := by first | (rw [hy301]; with_reducible exact H) | (have H2_ := (Option.bind_some _ _).symm.trans H; rw [hy301]; with_reducible exact H2_) | (have H2_ := (Option.bind_some _ _).symm.trans H; with_reducible exact H2_) | with_reducible exact H | (rw [hy301]; exact H) | exact H
               have Ny301 := Aside0.mk hy301
               clear hy301
               simp only [Option.some.injEq, Prod.mk.injEq] at H
               obtain ⟨rfl, rfl, rfl, rfl⟩ := H
               obtain ⟨Ao69, co69, eo69⟩ := Kd.R_slice HO_7.out
               subst eo69
               have hnb70 := NB258_259.out
               have hnc70 := NB259_258.out
               have hnb71 := NB258_266.out
               have hnc71 := NB266_258.out
               have hcz72_0 : wr.cell? ⟨gb258, 0, none⟩ = some (.int .i64 a0_0) := (blk_cell BK258.out 0).trans rfl
               have hcz72_1 : wr.cell? ⟨gb258, 1, none⟩ = some (.slice A0_1 l0_1.length c0_1) := (blk_cell BK258.out 1).trans rfl
               have hcz72_2 : wr.cell? ⟨gb258, 2, none⟩ = some (.bool a0_2) := (blk_cell BK258.out 2).trans rfl
               have hfz72_0 := blk_frozen BK258.out 0
               have hfz72_1 := blk_frozen BK258.out 1
               have hfz72_2 := blk_frozen BK258.out 2
               try go_wp2_with (first | ((with_reducible refine gate_callee (f := 78) rfl ?_); refine goesL_ (some 48) rfl rfl Tryd.func78 (by kernel_rfl) rfl #[.int .i64 a0_0, .slice Ao69 y274.length co69, .int .i64 x9_2] rfl ka_ ?_; (with_reducible refine (spec_l5Get.calls k2 a0_0 _ _ y274 x9_2 t283 t284 false _ ?side1 ?side2 A52.out).mono ?_); (case side1 => exact kc_ (Kd.R_reads' HO_7.out).2.2); (case side2 => exact (Kd.R_reads' HO_7.out).2.1); rintro e w73 ⟨rfl, hb⟩; refine ⟨_, rfl, ?_⟩; have n0_ := Aside0.mk (Kd.R_below (kr_ HO_7) hb); have n1_ := Aside0.mk (Kd.R_below (kr_ HO_8) hb); have n2_ := Aside0.mk (Kd.R_below (kr_ HO_267001) hb); have n3_ := Aside0.mk (blk_below (g := gb258) (o := .cells #[.int .i64 a0_0, .slice A0_1 l0_1.length c0_1, .bool a0_2] 46 (0, 0)) (kb_ BK258) hb); have n4_ := Aside0.mk (blk_below (g := gb259) (o := .cells #[.int .i64 x260000_2, .slice none 0 0, .bool x260002_2] 46 (0, 0)) (kb_ BK259) hb); have n5_ := Aside0.mk (blk_below (g := gb266) (o := .cells #[.int .i64 a0_0, u267001, .bool x267002_2] 46 (0, 0)) (kb_ BK266) hb); have n6_ := Aside0.mk (below_step hs_ hb); clear HO_7; clear HO_8; clear HO_267001; clear BK258; clear BK259; clear BK266; clear HB; have HO_7 := n0_; have HO_8 := n1_; have HO_267001 := n2_; have BK258 := n3_; have BK259 := n4_; have BK266 := n5_; have HB := n6_; clear n0_ n1_ n2_ n3_ n4_ n5_ n6_; try clear hb))
               have n0_ := Aside0.mk (Kd.R_drew HO_7.out)
               have n1_ := Aside0.mk (Kd.R_drew HO_8.out)
               have n2_ := Aside0.mk (Kd.R_drew HO_267001.out)
               have n3_ := Aside0.mk (blk_drew BK258.out)
               have n4_ := Aside0.mk (blk_drew BK259.out)
               have n5_ := Aside0.mk (blk_drew BK266.out)
               have n6_ := Aside0.mk (below_drew1 HB.out)
               clear HO_7
               clear HO_8
               clear HO_267001
               clear BK258
               clear BK259
               clear BK266
               clear HB
               have HO_7 := n0_
               have HO_8 := n1_
               have HO_267001 := n2_
               have BK258 := n3_
               have BK259 := n4_
               have BK266 := n5_
               have HB := n6_
               clear n0_ n1_ n2_ n3_ n4_ n5_ n6_
               have q75 : (x9_2 : Int) ≤ ((y274.length : Int) : Int) := of_decide_eq_true as_
               obtain ⟨i075, hi075, _, hsz75, _⟩ := info_parts info5
               have hroom75 : y274.length ≤ co69 := (Kd.R_reads' HO_7.out).2.1
               have hC75 : Kd.C (Kd.int .u8) _ Ao69 y274.length y274 := (Kd.R_reads' HO_7.out).2.2
               have q075 : (0 : Int) ≤ (x9_2 : Int) := of_decide_eq_true as_
               have hcut75 := cut_from (P := Tryd.prog) 23 5 .i64 Tryd.underlying23 hi075 1 hsz75 Ao69 y274.length co69 x9_2 q075 q75
               have hr75 := Kd.C_drop (m := (x9_2 : Int).toNat) (c := co69) hC75 (by omega) hroom75
               obtain ⟨A75, hA75⟩ : ∃ A1, A1 = (if co69 = (x9_2 : Int).toNat then Ao69 else (Ao69 : Option Addr).map (·.add ((x9_2 : Int).toNat * 1))) := ⟨_, rfl⟩
               obtain ⟨c75, hc75⟩ : ∃ c1, c1 = co69 - (x9_2 : Int).toNat := ⟨_, rfl⟩
               have hy75 : y289.length = y274.length - (x9_2 : Int).toNat := (by rw [Ny289.out, List.length_drop] <;> omega)
               rw [show (y274).drop (x9_2 : Int).toNat = y289 from Ny289.out.symm] at hr75
               replace hr75 : Kd.C (Kd.int .u8) _ A75 y289.length y289 := (by rw [hA75]; exact hr75)
               rw [← hy75, ← hA75, ← hc75] at hcut75
               have HR292 := Aside0.mk hr75
               have HC292 := Aside0.mk (show y289.length ≤ c75 from by rw [hy75, hc75]; exact Nat.sub_le_sub_right hroom75 _)
               clear hr75 hC75 hroom75 hi075 hsz75 hc75
               have KY75 := Aside0.mk hy75
               have KA75 := Aside0.mk hA75
               clear hy75 hA75
               have KL75 := Aside0.mk (show (x9_2 : Int).toNat ≤ y274.length from by omega)
               replace q75 := eq_true q75
               refine start_ (n := 6) (S := fun w' => w'.cell? ⟨gb258, 0, none⟩ = some (.int .i64 a0_0) ∧ w'.cell? ⟨gb258, 1, none⟩ = some (.slice A0_1 l0_1.length c0_1) ∧ w'.cell? ⟨gb258, 2, none⟩ = some (.bool a0_2)) (ds := []) #[false, false, false, false, false, false] (by kernel_rfl) rfl rfl ⟨(blk_cell BK258.out 0).trans rfl, (blk_cell BK258.out 1).trans rfl, (blk_cell BK258.out 2).trans rfl⟩ (fun hHeld => ?_)
               generalize w73.drew = w74 at HO_7 HO_8 HO_267001 BK258 BK259 BK266 HB HR292 hHeld ⊢
               refine pure_ (i := 0) (N := some 57) (v := ?_) (a' := ?_) #[true, false, false, false, false, false] rfl rfl (by kernel_rfl) (fun _ _ _ h => h) (Or.inl ⟨by rfl, ?_⟩) ?_ ?_
               rotate_left
               ·intro w'
                go_simp
                with_reducible rfl
               rotate_left
               ·simp only [Act.put, List.setIfInBounds_toArray, List.set_cons_zero, List.set_cons_succ, i64_w, i32_w]
                rfl
               refine pure_ (i := 2) (N := some 59) (v := ?_) (a' := ?_) #[true, false, true, false, false, false] rfl rfl (by kernel_rfl) (fun _ _ _ h => h) (Or.inl ⟨by rfl, ?_⟩) ?_ ?_
               rotate_left
               ·intro w'
                go_simp
                with_reducible rfl
               rotate_left
               ·simp only [Act.put, List.setIfInBounds_toArray, List.set_cons_zero, List.set_cons_succ, i64_w, i32_w]
                rfl
               refine pure_ (i := 3) (N := some 60) (v := ?_) (a' := ?_) #[true, false, true, true, false, false] rfl rfl (by kernel_rfl) (fun _ _ _ h => h) (Or.inl ⟨by rfl, ?_⟩) ?_ ?_
               rotate_left
               ·intro w'
                go_simp
                with_reducible rfl
               rotate_left
               ·simp only [Act.put, List.setIfInBounds_toArray, List.set_cons_zero, List.set_cons_succ, i64_w, i32_w]
                rfl
               refine pure_ (i := 4) (N := some 61) (v := ?_) (a' := ?_) #[true, false, true, true, true, false] rfl rfl (by kernel_rfl) (fun _ _ _ h => h) (Or.inl ⟨by rfl, ?_⟩) ?_ ?_
               rotate_left
               ·intro w'
                go_simp
                with_reducible rfl
               rotate_left
               ·simp only [Act.put, List.setIfInBounds_toArray, List.set_cons_zero, List.set_cons_succ, i64_w, i32_w]
                rfl
               refine take_ (i := 1) (N := some 58) (v := ?_) (a' := ?_) #[true, true, true, true, true, false] rfl rfl (by kernel_rfl) (fun _ _ _ h => h) (Or.inl ⟨by rfl, ?_⟩) hHeld ?_ ?_
               rotate_left
               ·rintro w' ⟨s0, s1, s2⟩
                go_simp
                with_reducible rfl
               rotate_left
               ·simp only [Act.put, List.setIfInBounds_toArray, List.set_cons_zero, List.set_cons_succ, i64_w, i32_w]
                rfl
               refine one_ (i := 5) (N := some 62) #[true, true, true, true, true, true] rfl rfl (by kernel_rfl) (by decide) (fun K hK => ?_)
               refine goes_ Tryd.func80 (by kernel_rfl) rfl #[.int .i64 a0_0, .slice A75 y289.length c75] (by rfl) rfl rfl ka_ ?_
               with_reducible refine (spec_l6Begins.calls k2 a0_0 _ _ y289 true _ ?side1 ?side2 A64.out).mono ?_
               (case side1 => repeat (first | exact (kc_ HR292.out) | (with_reducible refine Kd.C_alloc ?_ _) | (with_reducible refine Kd.C_drewN ?_ _) | (with_reducible refine Kd.C_drew ?_)))
               (case side2 => exact HC292.out)
               rintro e w76 ⟨rfl, hb⟩
               refine ⟨_, rfl, ?_⟩
               have n0_ := Aside0.mk (Kd.R_below (kr_ HO_7) hb)
               have n1_ := Aside0.mk (Kd.R_below (kr_ HO_8) hb)
               have n2_ := Aside0.mk (Kd.R_below (kr_ HO_267001) hb)
               have n3_ := Aside0.mk (blk_below (g := gb258) (o := .cells #[.int .i64 a0_0, .slice A0_1 l0_1.length c0_1, .bool a0_2] 46 (0, 0)) (kb_ BK258) hb)
               have n4_ := Aside0.mk (blk_below (g := gb259) (o := .cells #[.int .i64 x260000_2, .slice none 0 0, .bool x260002_2] 46 (0, 0)) (kb_ BK259) hb)
               have n5_ := Aside0.mk (blk_below (g := gb266) (o := .cells #[.int .i64 a0_0, u267001, .bool x267002_2] 46 (0, 0)) (kb_ BK266) hb)
               have n6_ := Aside0.mk (Kd.C_below (kc_ HR292.out) hb)
               have n7_ := Aside0.mk (below_step hs_ hb)
               clear HO_7
               clear HO_8
               clear HO_267001
               clear BK258
               clear BK259
               clear BK266
               clear HR292
               clear HB
               have HO_7 := n0_
               have HO_8 := n1_
               have HO_267001 := n2_
               have BK258 := n3_
               have BK259 := n4_
               have BK266 := n5_
               have HR292 := n6_
               have HB := n7_
               clear n0_ n1_ n2_ n3_ n4_ n5_ n6_ n7_
               (try clear hb)
               (try clear hb2)
               (try clear hk)
               (try clear hi)
               refine hK.out _ _ ⟨(blk_cell BK258.out 0).trans rfl, (blk_cell BK258.out 1).trans rfl, (blk_cell BK258.out 2).trans rfl⟩ (fun hHeld => ?_)
               clear hK K
               refine norm_ (a' := ?_) ?_ ?_
               rotate_left
               ·show Act.put _ (some 62) _ = _
                simp only [Act.put, List.setIfInBounds_toArray, List.set_cons_zero, List.set_cons_succ, i64_w, i32_w]
                rfl
               refine done_ (by kernel_rfl) ?_
               try go_wp2_with (first | ((with_reducible refine gate_dst (N := 63) rfl ?_); refine Kd.R_lit (Kd.int .u8) _ 5 ?hg (N := 63) ?hd (xs := ([] : List Int)) (inner := []) (ok := fun _ => True) (okp := fun _ => True) ?hr ?hp (fun _ hk => hk) trivial (Below.refl _ _) (Nat.le_refl _) (by simp) ?_; (case hd => rfl); (case hg => rfl); (case hr => first | (go_simp; done) | (go_simp; rfl)); (case hp => exact (Reps.none _ _)); intro v295 w77 ho78 hb hg_ hnew_; clear hg_ hnew_; (first | rw [← Ny294.out] at ho78 | (simp only [Int.reduceToNat] at ho78; rw [← Ny294.out] at ho78)); have n0_ := Aside0.mk (Kd.R_elder' (kr_ HO_7) (Kd.R_base ho78) hb); have n1_ := Aside0.mk (Kd.R_elder' (kr_ HO_8) (Kd.R_base ho78) hb); have n2_ := Aside0.mk (Kd.R_elder' (kr_ HO_267001) (Kd.R_base ho78) hb); have n3_ := Aside0.mk (Kd.R_lower (Kd.R_new' (Kd.R_new' (Kd.R_new' ho78 (Kd.R_lt (kr_ HO_7))) (Kd.R_lt (kr_ HO_8))) (Kd.R_lt (kr_ HO_267001))) (below_size hs_)); have n4_ := Aside0.mk (blk_below (g := gb258) (o := .cells #[.int .i64 a0_0, .slice A0_1 l0_1.length c0_1, .bool a0_2] 46 (0, 0)) (kb_ BK258) hb); have n5_ := Aside0.mk (blk_below (g := gb259) (o := .cells #[.int .i64 x260000_2, .slice none 0 0, .bool x260002_2] 46 (0, 0)) (kb_ BK259) hb); have n6_ := Aside0.mk (blk_below (g := gb266) (o := .cells #[.int .i64 a0_0, u267001, .bool x267002_2] 46 (0, 0)) (kb_ BK266) hb); have n7_ := Aside0.mk (Kd.C_below (kc_ HR292.out) hb); have n8_ := Aside0.mk (below_step hs_ hb); clear HO_7; clear HO_8; clear HO_267001; clear BK258; clear BK259; clear BK266; clear HR292; clear HB; have HO_7 := n0_; have HO_8 := n1_; have HO_267001 := n2_; have HO296 := n3_; have BK258 := n4_; have BK259 := n5_; have BK266 := n6_; have HR292 := n7_; have HB := n8_; clear n0_ n1_ n2_ n3_ n4_ n5_ n6_ n7_ n8_; clear hb ho78; have q79 : (x9_2 : Int) ≤ ((y274.length : Int) : Int) := of_decide_eq_true as_; obtain ⟨i079, hi079, _, hsz79, _⟩ := info_parts info5; have hroom79 : y274.length ≤ co69 := (Kd.R_reads' HO_7.out).2.1; have hC79 : Kd.C (Kd.int .u8) _ Ao69 y274.length y274 := (Kd.R_reads' HO_7.out).2.2; have q079 : (0 : Int) ≤ (x9_2 : Int) := of_decide_eq_true as_; (try clear hcut75); have hcut79 := cut_from (P := Tryd.prog) 23 5 .i64 Tryd.underlying23 hi079 1 hsz79 Ao69 y274.length co69 x9_2 q079 q79; have hr79 := Kd.C_drop (m := (x9_2 : Int).toNat) (c := co69) hC79 (by omega) hroom79; obtain ⟨A79, hA79⟩ : ∃ A1, A1 = (if co69 = (x9_2 : Int).toNat then Ao69 else (Ao69 : Option Addr).map (·.add ((x9_2 : Int).toNat * 1))) := ⟨_, rfl⟩; obtain ⟨c79, hc79⟩ : ∃ c1, c1 = co69 - (x9_2 : Int).toNat := ⟨_, rfl⟩; have hy79 : y297.length = y274.length - (x9_2 : Int).toNat := (by rw [Ny297.out, List.length_drop] <;> omega); rw [show (y274).drop (x9_2 : Int).toNat = y297 from Ny297.out.symm] at hr79; replace hr79 : Kd.C (Kd.int .u8) _ A79 y297.length y297 := (by rw [hA79]; exact hr79); rw [← hy79, ← hA79, ← hc79] at hcut79; have HR300 := Aside0.mk hr79; have HC300 := Aside0.mk (show y297.length ≤ c79 from by rw [hy79, hc79]; exact Nat.sub_le_sub_right hroom79 _); clear hr79 hC79 hroom79 hi079 hsz79 hc79; have KY79 := Aside0.mk hy79; have KA79 := Aside0.mk hA79; clear hy79 hA79; have KL79 := Aside0.mk (show (x9_2 : Int).toNat ≤ y274.length from by omega); replace q79 := eq_true q79) | ((with_reducible refine gate_builtin (b := .append) (xs := #[.tmp 63, .tmp 66]) rfl ?_); at_builtin; refine Kd.R_append_rows (Kd.int .u8) (w0 := w) w.heap.size rfl (.tmp 63) (.tmp 66) 23 5 (.int .u8 0) 1 rfl Tryd.underlying23 info5 rfl (by decide) (by omega) v295 y294 y297 _ _ _ (fun k_ => some k_ ≠ (.slice Ao69 y274.length co69 : Value).ownBlock ∧ some k_ ≠ (u8 : Value).ownBlock ∧ some k_ ≠ (u267001 : Value).ownBlock) (fun _ => False) rfl rfl ?aO ?aR (fun _ _ h => h) (fun _ h => h.elim) ?aF ?aB ?aS ?aL ?_; (case aR => repeat (first | exact (kc_ HR300.out) | (with_reducible refine Kd.C_alloc ?_ _) | (with_reducible refine Kd.C_drewN ?_ _) | (with_reducible refine Kd.C_drew ?_))); (case aB => exact hs_); (case aF => exact (fun k_ hk => ⟨Kd.fresh' (Kd.R_lt (kr_ HO_7)) k_ hk, Kd.fresh' (Kd.R_lt (kr_ HO_8)) k_ hk, Kd.fresh' (Kd.R_lt (kr_ HO_267001)) k_ hk⟩)); (case aO => exact (by (with_reducible repeat (first | apply Kd.R_alloc | apply Kd.R_drewN | apply Kd.R_drew)); exact Kd.R_mono HO296.out (fun _ hk => ⟨hk.1.1.2, ⟨hk.1.2, hk.2⟩⟩))); (case aS => exact (below_size hs_)); (case aL => have := LMc68.out; omega); intro v302 w80 ho hb hg hat; rw [← Ny301.out] at ho; have n0_ := Aside0.mk (Kd.R_after (ok := (fun k_ => some k_ ≠ (u8 : Value).ownBlock ∧ some k_ ≠ (u267001 : Value).ownBlock)) (kr_ HO_7) hg hat); have n1_ := Aside0.mk (Kd.R_after (ok := (fun k_ => some k_ ≠ (.slice Ao69 y274.length co69 : Value).ownBlock ∧ some k_ ≠ (u267001 : Value).ownBlock)) (kr_ HO_8) hg hat); have n2_ := Aside0.mk (Kd.R_after (ok := (fun k_ => some k_ ≠ (.slice Ao69 y274.length co69 : Value).ownBlock ∧ some k_ ≠ (u8 : Value).ownBlock)) (kr_ HO_267001) hg hat); have n3_ := Aside0.mk (blk_grown (g := gb258) (o := .cells #[.int .i64 a0_0, .slice A0_1 l0_1.length c0_1, .bool a0_2] 46 (0, 0)) (kb_ BK258) hg (Kd.R_ne HO296.out BK258.out (by decide))); have n4_ := Aside0.mk (blk_grown (g := gb259) (o := .cells #[.int .i64 x260000_2, .slice none 0 0, .bool x260002_2] 46 (0, 0)) (kb_ BK259) hg (Kd.R_ne HO296.out BK259.out (by decide))); have n5_ := Aside0.mk (blk_grown (g := gb266) (o := .cells #[.int .i64 a0_0, u267001, .bool x267002_2] 46 (0, 0)) (kb_ BK266) hg (Kd.R_ne HO296.out BK266.out (by decide))); have n6_ := Aside0.mk (hb); have n7_ := Aside0.mk ((show Kd.C (Kd.int .u8) w80 A75 y289.length y289 from by rw [Ny289.out, KA75.out]; exact Kd.C_drop (m := (x9_2 : Int).toNat) (c := co69) ((Kd.R_reads' (Kd.R_after (ok := (fun k_ => some k_ ≠ (u8 : Value).ownBlock ∧ some k_ ≠ (u267001 : Value).ownBlock)) (kr_ HO_7) hg hat)).2.2) KL75.out ((Kd.R_reads' (Kd.R_after (ok := (fun k_ => some k_ ≠ (u8 : Value).ownBlock ∧ some k_ ≠ (u267001 : Value).ownBlock)) (kr_ HO_7) hg hat)).2.1))); have n8_ := Aside0.mk ((show Kd.C (Kd.int .u8) w80 A79 y297.length y297 from by rw [Ny297.out, KA79.out]; exact Kd.C_drop (m := (x9_2 : Int).toNat) (c := co69) ((Kd.R_reads' (Kd.R_after (ok := (fun k_ => some k_ ≠ (u8 : Value).ownBlock ∧ some k_ ≠ (u267001 : Value).ownBlock)) (kr_ HO_7) hg hat)).2.2) KL79.out ((Kd.R_reads' (Kd.R_after (ok := (fun k_ => some k_ ≠ (u8 : Value).ownBlock ∧ some k_ ≠ (u267001 : Value).ownBlock)) (kr_ HO_7) hg hat)).2.1))); have n9_ := Aside0.mk (ho); clear HO_7; clear HO_8; clear HO_267001; clear BK258; clear BK259; clear BK266; clear HB; clear HR292; clear HR300; clear HO296; have HO_7 := n0_; have HO_8 := n1_; have HO_267001 := n2_; have BK258 := n3_; have BK259 := n4_; have BK266 := n5_; have HB := n6_; have HR292 := n7_; have HR300 := n8_; have HO303 := n9_; clear n0_ n1_ n2_ n3_ n4_ n5_ n6_ n7_ n8_ n9_; clear ho hb hg hat; obtain ⟨Ao81, co81, eo81⟩ := Kd.R_slice HO303.out; subst eo81; have hnb82 := NB266_259.out; have hnc82 := NB259_266.out; have hcz83_0 : w80.cell? ⟨gb266, 0, none⟩ = some (.int .i64 a0_0) := (blk_cell BK266.out 0).trans rfl; have hcz83_1 : w80.cell? ⟨gb266, 1, none⟩ = some (u267001) := (blk_cell BK266.out 1).trans rfl; have hcz83_2 : w80.cell? ⟨gb266, 2, none⟩ = some (.bool x267002_2) := (blk_cell BK266.out 2).trans rfl; have hfz83_0 := blk_frozen BK266.out 0; have hfz83_1 := blk_frozen BK266.out 1; have hfz83_2 := blk_frozen BK266.out 2))
               have n0_ : Aside0 (Kd.R (Kd.int .u8) 5 (w80.setCell ⟨gb266, 1, none⟩ (.slice Ao81 y301.length co81)) w.heap.size (fun k_ => some k_ ≠ (u8 : Value).ownBlock ∧ some k_ ≠ (u267001 : Value).ownBlock ∧ some k_ ≠ (.slice Ao81 y301.length co81 : Value).ownBlock) (.slice Ao69 y274.length co69) y274) := ⟨by (with_reducible repeat (first | apply Kd.R_alloc | apply Kd.R_drewN | apply Kd.R_drew)); exact Kd.R_mono (Kd.R_far (p := ⟨gb266, 1, none⟩) (Kd.R_types HO_7.out BK266.out (by decide)) (fun _ hk => hk.2) (.slice Ao81 y301.length co81)) (fun _ hk => ⟨hk.1.1.1, ⟨hk.1.1.2, hk.1.2⟩⟩)⟩
               have n1_ : Aside0 (Kd.R (Kd.int .u8) 5 (w80.setCell ⟨gb266, 1, none⟩ (.slice Ao81 y301.length co81)) w.heap.size (fun k_ => some k_ ≠ (.slice Ao69 y274.length co69 : Value).ownBlock ∧ some k_ ≠ (u267001 : Value).ownBlock ∧ some k_ ≠ (.slice Ao81 y301.length co81 : Value).ownBlock) u8 x8_2) := ⟨by (with_reducible repeat (first | apply Kd.R_alloc | apply Kd.R_drewN | apply Kd.R_drew)); exact Kd.R_mono (Kd.R_far (p := ⟨gb266, 1, none⟩) (Kd.R_types HO_8.out BK266.out (by decide)) (fun _ hk => hk.2) (.slice Ao81 y301.length co81)) (fun _ hk => ⟨hk.1.1.1, ⟨hk.1.1.2, hk.1.2⟩⟩)⟩
               have n2_ : Aside0 (Kd.R (Kd.int .u8) 5 (w80.setCell ⟨gb266, 1, none⟩ (.slice Ao81 y301.length co81)) w.heap.size (fun k_ => some k_ ≠ (.slice Ao69 y274.length co69 : Value).ownBlock ∧ some k_ ≠ (u8 : Value).ownBlock ∧ some k_ ≠ (.slice Ao81 y301.length co81 : Value).ownBlock) u267001 x267001_2) := ⟨by (with_reducible repeat (first | apply Kd.R_alloc | apply Kd.R_drewN | apply Kd.R_drew)); exact Kd.R_mono (Kd.R_far (p := ⟨gb266, 1, none⟩) (Kd.R_types HO_267001.out BK266.out (by decide)) (fun _ hk => hk.2) (.slice Ao81 y301.length co81)) (fun _ hk => ⟨hk.1.1.1, ⟨hk.1.1.2, hk.1.2⟩⟩)⟩
               have n3_ : Aside0 (Kd.R (Kd.int .u8) 5 (w80.setCell ⟨gb266, 1, none⟩ (.slice Ao81 y301.length co81)) w.heap.size (fun k_ => some k_ ≠ (.slice Ao69 y274.length co69 : Value).ownBlock ∧ some k_ ≠ (u8 : Value).ownBlock ∧ some k_ ≠ (u267001 : Value).ownBlock) (.slice Ao81 y301.length co81) y301) := ⟨by (with_reducible repeat (first | apply Kd.R_alloc | apply Kd.R_drewN | apply Kd.R_drew)); exact Kd.R_mono (Kd.R_far (p := ⟨gb266, 1, none⟩) (Kd.R_types HO303.out BK266.out (by decide)) (fun _ hk => hk.2) (.slice Ao81 y301.length co81)) (fun _ hk => ⟨hk.1.1, ⟨hk.1.2.1, hk.1.2.2⟩⟩)⟩
               have n4_ : Aside0 ((w80.setCell ⟨gb266, 1, none⟩ (.slice Ao81 y301.length co81)).heap[gb258]? = some (.cells #[.int .i64 a0_0, .slice A0_1 l0_1.length c0_1, .bool a0_2] 46 (0, 0))) := ⟨by (with_reducible repeat (first | refine blk_drewN ?_ _ | refine blk_drew ?_ | refine blk_alloc ?_ _)); refine blk_far ?_ NB258_266.out _; (with_reducible repeat (first | refine blk_drewN ?_ _ | refine blk_drew ?_ | refine blk_alloc ?_ _)); exact BK258.out⟩
               have n5_ : Aside0 ((w80.setCell ⟨gb266, 1, none⟩ (.slice Ao81 y301.length co81)).heap[gb259]? = some (.cells #[.int .i64 x260000_2, .slice none 0 0, .bool x260002_2] 46 (0, 0))) := ⟨by (with_reducible repeat (first | refine blk_drewN ?_ _ | refine blk_drew ?_ | refine blk_alloc ?_ _)); refine blk_far ?_ NB259_266.out _; (with_reducible repeat (first | refine blk_drewN ?_ _ | refine blk_drew ?_ | refine blk_alloc ?_ _)); exact BK259.out⟩
               have n6_ : Aside0 ((w80.setCell ⟨gb266, 1, none⟩ (.slice Ao81 y301.length co81)).heap[gb266]? = some (.cells #[.int .i64 a0_0, .slice Ao81 y301.length co81, .bool x267002_2] 46 (0, 0))) := ⟨by (with_reducible repeat (first | refine blk_drewN ?_ _ | refine blk_drew ?_ | refine blk_alloc ?_ _)); refine blk_put (cs := #[.int .i64 a0_0, u267001, .bool x267002_2]) ?_ 1 _ rfl; (with_reducible repeat (first | refine blk_drewN ?_ _ | refine blk_drew ?_ | refine blk_alloc ?_ _)); exact BK266.out⟩
               have n7_ : Aside0 (Below w.heap.size w (w80.setCell ⟨gb266, 1, none⟩ (.slice Ao81 y301.length co81))) := ⟨by repeat (first | (with_reducible first | exact HB.out | apply below_alloc | apply pw_below_drewN | apply below_drew1 | refine below_set ?_ GE258.out | refine below_set ?_ GE259.out | refine below_set ?_ GE266.out) | exact HB.out)⟩
               (try clear HO_7)
               (try clear HO_8)
               (try clear HO_267001)
               (try clear HO303)
               (try clear BK258)
               (try clear BK259)
               (try clear BK266)
               (try clear HB)
               generalize (w80.setCell ⟨gb266, 1, none⟩ (.slice Ao81 y301.length co81)) = w84 at n0_ n1_ n2_ n3_ n4_ n5_ n6_ n7_ ⊢
               have HO_7 := n0_
               have HO_8 := n1_
               have HO_267001 := n2_
               have HO303 := n3_
               have BK258 := n4_
               have BK259 := n5_
               have BK266 := n6_
               have HB := n7_
               clear n0_ n1_ n2_ n3_ n4_ n5_ n6_ n7_
               have n0_ := Aside0.mk (Kd.R_drew HO_7.out)
               have n1_ := Aside0.mk (Kd.R_drew HO_8.out)
               have n2_ := Aside0.mk (Kd.R_drew HO_267001.out)
               have n3_ := Aside0.mk (Kd.R_drew HO303.out)
               have n4_ := Aside0.mk (blk_drew BK258.out)
               have n5_ := Aside0.mk (blk_drew BK259.out)
               have n6_ := Aside0.mk (blk_drew BK266.out)
               have n7_ := Aside0.mk (below_drew1 HB.out)
               clear HO_7
               clear HO_8
               clear HO_267001
               clear HO303
               clear BK258
               clear BK259
               clear BK266
               clear HB
               have HO_7 := n0_
               have HO_8 := n1_
               have HO_267001 := n2_
               have HO303 := n3_
               have BK258 := n4_
               have BK259 := n5_
               have BK266 := n6_
               have HB := n7_
               clear n0_ n1_ n2_ n3_ n4_ n5_ n6_ n7_
               refine start_ (n := 5) (S := fun w' => w'.cell? ⟨gb266, 0, none⟩ = some (.int .i64 a0_0) ∧ w'.cell? ⟨gb266, 1, none⟩ = some (.slice Ao81 y301.length co81) ∧ w'.cell? ⟨gb266, 2, none⟩ = some (.bool x267002_2) ∧ (convert 23 9 (u8)).run Tryd.prog w' = .ok (.string (strOfNums x8_2)) w') (ds := []) #[false, false, false, false, false] (by kernel_rfl) rfl rfl ⟨(blk_cell BK266.out 0).trans rfl, (blk_cell BK266.out 1).trans rfl, (blk_cell BK266.out 2).trans rfl, (own_string (P := Tryd.prog) Tryd.underlying23 Tryd.underlying5 Tryd.underlying9 (Kd.own_of_R HO_8.out))⟩ (fun hHeld => ?_)
               generalize w84.drew = w85 at HO_7 HO_8 HO_267001 HO303 BK258 BK259 BK266 HB hHeld ⊢
               refine pure_ (i := 1) (N := some 71) (v := ?_) (a' := ?_) #[false, true, false, false, false] rfl rfl (by kernel_rfl) (fun _ _ _ h => h) (Or.inl ⟨by rfl, ?_⟩) ?_ ?_
               rotate_left
               ·intro w'
                go_simp
                with_reducible rfl
               rotate_left
               ·simp only [Act.put, List.setIfInBounds_toArray, List.set_cons_zero, List.set_cons_succ, i64_w, i32_w]
                rfl
               refine take_ (i := 0) (N := some 70) (v := ?_) (a' := ?_) #[true, true, false, false, false] rfl rfl (by kernel_rfl) (fun _ _ _ h => h) (Or.inl ⟨by rfl, ?_⟩) hHeld ?_ ?_
               rotate_left
               ·rintro w' ⟨s0, s1, s2, s3⟩
                go_simp
                with_reducible rfl
               rotate_left
               ·simp only [Act.put, List.setIfInBounds_toArray, List.set_cons_zero, List.set_cons_succ, i64_w, i32_w]
                rfl
               refine take_ (i := 2) (N := some 72) (v := ?_) (a' := ?_) #[true, true, true, false, false] rfl rfl (by kernel_rfl) (fun _ _ _ h => h) (Or.inl ⟨by rfl, ?_⟩) hHeld ?_ ?_
               rotate_left
               ·rintro w' ⟨s0, s1, s2, s3⟩
                go_simp
                with_reducible rfl
               rotate_left
               ·simp only [Act.put, List.setIfInBounds_toArray, List.set_cons_zero, List.set_cons_succ, i64_w, i32_w]
                rfl
               refine one_ (i := 3) (N := none) #[true, true, true, true, false] rfl rfl (by kernel_rfl) (by decide) (fun K hK => ?_)
               have hs87 : w85.cell? ⟨gb259, 0, none⟩ = some (.int .i64 x260000_2) := (blk_cell BK259.out 0).trans rfl
               have hfs87 := blk_frozen BK259.out 0
               have hns87_0 := NB258_259.out
               have hns87_2 := NB266_259.out
               have hms87_0 := NB259_258.out
               have hms87_2 := NB259_266.out
               have hs88 : w85.cell? ⟨gb259, 1, none⟩ = some (.slice none 0 0) := (blk_cell BK259.out 1).trans rfl
               have hfs88 := blk_frozen BK259.out 1
               have hns88_0 := NB258_259.out
               have hns88_2 := NB266_259.out
               have hms88_0 := NB259_258.out
               have hms88_2 := NB259_266.out
               have hs89 : w85.cell? ⟨gb259, 2, none⟩ = some (.bool x260002_2) := (blk_cell BK259.out 2).trans rfl
               have hfs89 := blk_frozen BK259.out 2
               have hns89_0 := NB258_259.out
               have hns89_2 := NB266_259.out
               have hms89_0 := NB259_258.out
               have hms89_2 := NB259_266.out
               refine skip_ (w1 := ?_) (by rfl) rfl ?_ ?_
               rotate_left
               ·go_simp
                rfl
               refine hK.out _ _ ⟨((cell_far (p := ⟨gb259, _, none⟩) NB266_259.out _).trans (((cell_far (p := ⟨gb259, _, none⟩) NB266_259.out _).trans (((cell_far (p := ⟨gb259, _, none⟩) NB266_259.out _).trans (hHeld.1)))))), ((cell_far (p := ⟨gb259, _, none⟩) NB266_259.out _).trans (((cell_far (p := ⟨gb259, _, none⟩) NB266_259.out _).trans (((cell_far (p := ⟨gb259, _, none⟩) NB266_259.out _).trans (hHeld.2.1)))))), ((cell_far (p := ⟨gb259, _, none⟩) NB266_259.out _).trans (((cell_far (p := ⟨gb259, _, none⟩) NB266_259.out _).trans (((cell_far (p := ⟨gb259, _, none⟩) NB266_259.out _).trans (hHeld.2.2.1)))))), (own_string (P := Tryd.prog) Tryd.underlying23 Tryd.underlying5 Tryd.underlying9 (Kd.own_of_R (Kd.R_far (Kd.R_far (Kd.R_far (Kd.R_types HO_8.out BK259.out (by decide)) (fun _ h_ => h_.2) _) (fun _ h_ => h_.2) _) (fun _ h_ => h_.2) _)))⟩ (fun hHeld => ?_)
               clear hK K
               refine pure_ (i := 4) (N := some 5) (v := ?_) (a' := ?_) #[true, true, true, true, true] rfl rfl (by kernel_rfl) (fun _ _ _ h => h) (Or.inl ⟨by rfl, ?_⟩) ?_ ?_
               rotate_left
               ·intro w'
                go_simp
                with_reducible rfl
               rotate_left
               ·simp only [Act.put, List.setIfInBounds_toArray, List.set_cons_zero, List.set_cons_succ, i64_w, i32_w]
                rfl
               refine done_ (by kernel_rfl) ?_
               try go_wp2
               refine bodyPost_ret (results_ct rfl _ _ gb259 46 #[.int .i64 a0_0, .slice Ao81 y301.length co81, .bool x267002_2] (0, 0) _ rfl (by (with_reducible repeat (first | refine blk_drewN ?_ _ | refine blk_drew ?_ | refine blk_alloc ?_ _)); refine blk_put (cs := #[.int .i64 a0_0, .slice Ao81 y301.length co81, .bool x260002_2]) ?_ 2 _ rfl; (with_reducible repeat (first | refine blk_drewN ?_ _ | refine blk_drew ?_ | refine blk_alloc ?_ _)); refine blk_put (cs := #[.int .i64 a0_0, .slice none 0 0, .bool x260002_2]) ?_ 1 _ rfl; (with_reducible repeat (first | refine blk_drewN ?_ _ | refine blk_drew ?_ | refine blk_alloc ?_ _)); refine blk_put (cs := #[.int .i64 x260000_2, .slice none 0 0, .bool x260002_2]) ?_ 0 _ rfl; (with_reducible repeat (first | refine blk_drewN ?_ _ | refine blk_drew ?_ | refine blk_alloc ?_ _)); exact BK259.out) Tryd.underlying46 rfl (by kernel_rfl)) rfl ?_
               exact ⟨_, by first | rfl | (simp [errW_none, errW_some] <;> rfl) | (simp [*, errW_none, errW_some] <;> rfl), by (with_reducible repeat (first | apply Kd.R_alloc | apply Kd.R_drewN | apply Kd.R_drew)); exact Kd.R_mono (Kd.R_far (p := ⟨gb259, 2, none⟩) (Kd.R_far (p := ⟨gb259, 1, none⟩) (Kd.R_far (p := ⟨gb259, 0, none⟩) (Kd.R_types HO303.out BK259.out (by decide)) (fun _ hk => hk.2) (.int .i64 a0_0)) (fun _ hk => hk.2) (.slice Ao81 y301.length co81)) (fun _ hk => hk.2) (.bool x267002_2)) (fun _ hk => trivial), hs_⟩
              ·rw [if_neg c68] at H
               exact absurd H (by simp)
             ·replace c65 := Bool.eq_false_iff.mpr c65
              subst c65
              rw [if_neg (show ¬ (false = true) by decide)] at H
              simp only [Option.some.injEq, Prod.mk.injEq] at H
              obtain ⟨rfl, rfl, rfl, rfl⟩ := H
              obtain ⟨Ao90, co90, eo90⟩ := Kd.R_slice HO_7.out
              subst eo90
              have hnb91 := NB258_259.out
              have hnc91 := NB259_258.out
              have hnb92 := NB258_266.out
              have hnc92 := NB266_258.out
              have hcz93_0 : wr.cell? ⟨gb258, 0, none⟩ = some (.int .i64 a0_0) := (blk_cell BK258.out 0).trans rfl
              have hcz93_1 : wr.cell? ⟨gb258, 1, none⟩ = some (.slice A0_1 l0_1.length c0_1) := (blk_cell BK258.out 1).trans rfl
              have hcz93_2 : wr.cell? ⟨gb258, 2, none⟩ = some (.bool a0_2) := (blk_cell BK258.out 2).trans rfl
              have hfz93_0 := blk_frozen BK258.out 0
              have hfz93_1 := blk_frozen BK258.out 1
              have hfz93_2 := blk_frozen BK258.out 2
              try go_wp2_with (first | ((with_reducible refine gate_callee (f := 78) rfl ?_); refine goesL_ (some 48) rfl rfl Tryd.func78 (by kernel_rfl) rfl #[.int .i64 a0_0, .slice Ao90 y274.length co90, .int .i64 x9_2] rfl ka_ ?_; (with_reducible refine (spec_l5Get.calls k2 a0_0 _ _ y274 x9_2 t283 t284 false _ ?side1 ?side2 A52.out).mono ?_); (case side1 => exact kc_ (Kd.R_reads' HO_7.out).2.2); (case side2 => exact (Kd.R_reads' HO_7.out).2.1); rintro e w94 ⟨rfl, hb⟩; refine ⟨_, rfl, ?_⟩; have n0_ := Aside0.mk (Kd.R_below (kr_ HO_7) hb); have n1_ := Aside0.mk (Kd.R_below (kr_ HO_8) hb); have n2_ := Aside0.mk (Kd.R_below (kr_ HO_267001) hb); have n3_ := Aside0.mk (blk_below (g := gb258) (o := .cells #[.int .i64 a0_0, .slice A0_1 l0_1.length c0_1, .bool a0_2] 46 (0, 0)) (kb_ BK258) hb); have n4_ := Aside0.mk (blk_below (g := gb259) (o := .cells #[.int .i64 x260000_2, .slice none 0 0, .bool x260002_2] 46 (0, 0)) (kb_ BK259) hb); have n5_ := Aside0.mk (blk_below (g := gb266) (o := .cells #[.int .i64 a0_0, u267001, .bool x267002_2] 46 (0, 0)) (kb_ BK266) hb); have n6_ := Aside0.mk (below_step hs_ hb); clear HO_7; clear HO_8; clear HO_267001; clear BK258; clear BK259; clear BK266; clear HB; have HO_7 := n0_; have HO_8 := n1_; have HO_267001 := n2_; have BK258 := n3_; have BK259 := n4_; have BK266 := n5_; have HB := n6_; clear n0_ n1_ n2_ n3_ n4_ n5_ n6_; try clear hb))
              have n0_ := Aside0.mk (Kd.R_drew HO_7.out)
              have n1_ := Aside0.mk (Kd.R_drew HO_8.out)
              have n2_ := Aside0.mk (Kd.R_drew HO_267001.out)
              have n3_ := Aside0.mk (blk_drew BK258.out)
              have n4_ := Aside0.mk (blk_drew BK259.out)
              have n5_ := Aside0.mk (blk_drew BK266.out)
              have n6_ := Aside0.mk (below_drew1 HB.out)
              clear HO_7
              clear HO_8
              clear HO_267001
              clear BK258
              clear BK259
              clear BK266
              clear HB
              have HO_7 := n0_
              have HO_8 := n1_
              have HO_267001 := n2_
              have BK258 := n3_
              have BK259 := n4_
              have BK266 := n5_
              have HB := n6_
              clear n0_ n1_ n2_ n3_ n4_ n5_ n6_
              have q96 : (x9_2 : Int) ≤ ((y274.length : Int) : Int) := of_decide_eq_true as_
              obtain ⟨i096, hi096, _, hsz96, _⟩ := info_parts info5
              have hroom96 : y274.length ≤ co90 := (Kd.R_reads' HO_7.out).2.1
              have hC96 : Kd.C (Kd.int .u8) _ Ao90 y274.length y274 := (Kd.R_reads' HO_7.out).2.2
              have q096 : (0 : Int) ≤ (x9_2 : Int) := of_decide_eq_true as_
              have hcut96 := cut_from (P := Tryd.prog) 23 5 .i64 Tryd.underlying23 hi096 1 hsz96 Ao90 y274.length co90 x9_2 q096 q96
              have hr96 := Kd.C_drop (m := (x9_2 : Int).toNat) (c := co90) hC96 (by omega) hroom96
              obtain ⟨A96, hA96⟩ : ∃ A1, A1 = (if co90 = (x9_2 : Int).toNat then Ao90 else (Ao90 : Option Addr).map (·.add ((x9_2 : Int).toNat * 1))) := ⟨_, rfl⟩
              obtain ⟨c96, hc96⟩ : ∃ c1, c1 = co90 - (x9_2 : Int).toNat := ⟨_, rfl⟩
              have hy96 : y289.length = y274.length - (x9_2 : Int).toNat := (by rw [Ny289.out, List.length_drop] <;> omega)
              rw [show (y274).drop (x9_2 : Int).toNat = y289 from Ny289.out.symm] at hr96
              replace hr96 : Kd.C (Kd.int .u8) _ A96 y289.length y289 := (by rw [hA96]; exact hr96)
              rw [← hy96, ← hA96, ← hc96] at hcut96
              have HR292 := Aside0.mk hr96
              have HC292 := Aside0.mk (show y289.length ≤ c96 from by rw [hy96, hc96]; exact Nat.sub_le_sub_right hroom96 _)
              clear hr96 hC96 hroom96 hi096 hsz96 hc96
              have KY96 := Aside0.mk hy96
              have KA96 := Aside0.mk hA96
              clear hy96 hA96
              have KL96 := Aside0.mk (show (x9_2 : Int).toNat ≤ y274.length from by omega)
              replace q96 := eq_true q96
              refine start_ (n := 6) (S := fun w' => w'.cell? ⟨gb258, 0, none⟩ = some (.int .i64 a0_0) ∧ w'.cell? ⟨gb258, 1, none⟩ = some (.slice A0_1 l0_1.length c0_1) ∧ w'.cell? ⟨gb258, 2, none⟩ = some (.bool a0_2)) (ds := []) #[false, false, false, false, false, false] (by kernel_rfl) rfl rfl ⟨(blk_cell BK258.out 0).trans rfl, (blk_cell BK258.out 1).trans rfl, (blk_cell BK258.out 2).trans rfl⟩ (fun hHeld => ?_)
              generalize w94.drew = w95 at HO_7 HO_8 HO_267001 BK258 BK259 BK266 HB HR292 hHeld ⊢
              refine pure_ (i := 0) (N := some 57) (v := ?_) (a' := ?_) #[true, false, false, false, false, false] rfl rfl (by kernel_rfl) (fun _ _ _ h => h) (Or.inl ⟨by rfl, ?_⟩) ?_ ?_
              rotate_left
              ·intro w'
               go_simp
               with_reducible rfl
              rotate_left
              ·simp only [Act.put, List.setIfInBounds_toArray, List.set_cons_zero, List.set_cons_succ, i64_w, i32_w]
               rfl
              refine pure_ (i := 2) (N := some 59) (v := ?_) (a' := ?_) #[true, false, true, false, false, false] rfl rfl (by kernel_rfl) (fun _ _ _ h => h) (Or.inl ⟨by rfl, ?_⟩) ?_ ?_
              rotate_left
              ·intro w'
               go_simp
               with_reducible rfl
              rotate_left
              ·simp only [Act.put, List.setIfInBounds_toArray, List.set_cons_zero, List.set_cons_succ, i64_w, i32_w]
               rfl
              refine pure_ (i := 3) (N := some 60) (v := ?_) (a' := ?_) #[true, false, true, true, false, false] rfl rfl (by kernel_rfl) (fun _ _ _ h => h) (Or.inl ⟨by rfl, ?_⟩) ?_ ?_
              rotate_left
              ·intro w'
               go_simp
               with_reducible rfl
              rotate_left
              ·simp only [Act.put, List.setIfInBounds_toArray, List.set_cons_zero, List.set_cons_succ, i64_w, i32_w]
               rfl
              refine pure_ (i := 4) (N := some 61) (v := ?_) (a' := ?_) #[true, false, true, true, true, false] rfl rfl (by kernel_rfl) (fun _ _ _ h => h) (Or.inl ⟨by rfl, ?_⟩) ?_ ?_
              rotate_left
              ·intro w'
               go_simp
               with_reducible rfl
              rotate_left
              ·simp only [Act.put, List.setIfInBounds_toArray, List.set_cons_zero, List.set_cons_succ, i64_w, i32_w]
               rfl
              refine take_ (i := 1) (N := some 58) (v := ?_) (a' := ?_) #[true, true, true, true, true, false] rfl rfl (by kernel_rfl) (fun _ _ _ h => h) (Or.inl ⟨by rfl, ?_⟩) hHeld ?_ ?_
              rotate_left
              ·rintro w' ⟨s0, s1, s2⟩
               go_simp
               with_reducible rfl
              rotate_left
              ·simp only [Act.put, List.setIfInBounds_toArray, List.set_cons_zero, List.set_cons_succ, i64_w, i32_w]
               rfl
              refine one_ (i := 5) (N := some 62) #[true, true, true, true, true, true] rfl rfl (by kernel_rfl) (by decide) (fun K hK => ?_)
              refine goes_ Tryd.func80 (by kernel_rfl) rfl #[.int .i64 a0_0, .slice A96 y289.length c96] (by rfl) rfl rfl ka_ ?_
              with_reducible refine (spec_l6Begins.calls k2 a0_0 _ _ y289 false _ ?side1 ?side2 A64.out).mono ?_
              (case side1 => repeat (first | exact (kc_ HR292.out) | (with_reducible refine Kd.C_alloc ?_ _) | (with_reducible refine Kd.C_drewN ?_ _) | (with_reducible refine Kd.C_drew ?_)))
              (case side2 => exact HC292.out)
              rintro e w97 ⟨rfl, hb⟩
              refine ⟨_, rfl, ?_⟩
              have n0_ := Aside0.mk (Kd.R_below (kr_ HO_7) hb)
              have n1_ := Aside0.mk (Kd.R_below (kr_ HO_8) hb)
              have n2_ := Aside0.mk (Kd.R_below (kr_ HO_267001) hb)
              have n3_ := Aside0.mk (blk_below (g := gb258) (o := .cells #[.int .i64 a0_0, .slice A0_1 l0_1.length c0_1, .bool a0_2] 46 (0, 0)) (kb_ BK258) hb)
              have n4_ := Aside0.mk (blk_below (g := gb259) (o := .cells #[.int .i64 x260000_2, .slice none 0 0, .bool x260002_2] 46 (0, 0)) (kb_ BK259) hb)
              have n5_ := Aside0.mk (blk_below (g := gb266) (o := .cells #[.int .i64 a0_0, u267001, .bool x267002_2] 46 (0, 0)) (kb_ BK266) hb)
              have n6_ := Aside0.mk (Kd.C_below (kc_ HR292.out) hb)
              have n7_ := Aside0.mk (below_step hs_ hb)
              clear HO_7
              clear HO_8
              clear HO_267001
              clear BK258
              clear BK259
              clear BK266
              clear HR292
              clear HB
              have HO_7 := n0_
              have HO_8 := n1_
              have HO_267001 := n2_
              have BK258 := n3_
              have BK259 := n4_
              have BK266 := n5_
              have HR292 := n6_
              have HB := n7_
              clear n0_ n1_ n2_ n3_ n4_ n5_ n6_ n7_
              (try clear hb)
              (try clear hb2)
              (try clear hk)
              (try clear hi)
              refine hK.out _ _ ⟨(blk_cell BK258.out 0).trans rfl, (blk_cell BK258.out 1).trans rfl, (blk_cell BK258.out 2).trans rfl⟩ (fun hHeld => ?_)
              clear hK K
              refine norm_ (a' := ?_) ?_ ?_
              rotate_left
              ·show Act.put _ (some 62) _ = _
               simp only [Act.put, List.setIfInBounds_toArray, List.set_cons_zero, List.set_cons_succ, i64_w, i32_w]
               rfl
              refine done_ (by kernel_rfl) ?_
              have hnb98 := NB266_259.out
              have hnc98 := NB259_266.out
              have hcz99_0 : w97.cell? ⟨gb266, 0, none⟩ = some (.int .i64 a0_0) := (blk_cell BK266.out 0).trans rfl
              have hcz99_1 : w97.cell? ⟨gb266, 1, none⟩ = some (u267001) := (blk_cell BK266.out 1).trans rfl
              have hcz99_2 : w97.cell? ⟨gb266, 2, none⟩ = some (.bool x267002_2) := (blk_cell BK266.out 2).trans rfl
              have hfz99_0 := blk_frozen BK266.out 0
              have hfz99_1 := blk_frozen BK266.out 1
              have hfz99_2 := blk_frozen BK266.out 2
              try go_wp2
              have n0_ : Aside0 (Kd.R (Kd.int .u8) 5 (w97.setCell ⟨gb266, 2, none⟩ (.bool true)) w.heap.size (fun k_ => some k_ ≠ (u8 : Value).ownBlock ∧ some k_ ≠ (u267001 : Value).ownBlock) (.slice Ao90 y274.length co90) y274) := ⟨by (with_reducible repeat (first | apply Kd.R_alloc | apply Kd.R_drewN | apply Kd.R_drew)); exact Kd.R_mono (Kd.R_far (p := ⟨gb266, 2, none⟩) (Kd.R_types HO_7.out BK266.out (by decide)) (fun _ hk => hk.2) (.bool true)) (fun _ hk => ⟨hk.1.1, hk.1.2⟩)⟩
              have n1_ : Aside0 (Kd.R (Kd.int .u8) 5 (w97.setCell ⟨gb266, 2, none⟩ (.bool true)) w.heap.size (fun k_ => some k_ ≠ (.slice Ao90 y274.length co90 : Value).ownBlock ∧ some k_ ≠ (u267001 : Value).ownBlock) u8 x8_2) := ⟨by (with_reducible repeat (first | apply Kd.R_alloc | apply Kd.R_drewN | apply Kd.R_drew)); exact Kd.R_mono (Kd.R_far (p := ⟨gb266, 2, none⟩) (Kd.R_types HO_8.out BK266.out (by decide)) (fun _ hk => hk.2) (.bool true)) (fun _ hk => ⟨hk.1.1, hk.1.2⟩)⟩
              have n2_ : Aside0 (Kd.R (Kd.int .u8) 5 (w97.setCell ⟨gb266, 2, none⟩ (.bool true)) w.heap.size (fun k_ => some k_ ≠ (.slice Ao90 y274.length co90 : Value).ownBlock ∧ some k_ ≠ (u8 : Value).ownBlock) u267001 x267001_2) := ⟨by (with_reducible repeat (first | apply Kd.R_alloc | apply Kd.R_drewN | apply Kd.R_drew)); exact Kd.R_mono (Kd.R_far (p := ⟨gb266, 2, none⟩) (Kd.R_types HO_267001.out BK266.out (by decide)) (fun _ hk => hk.2) (.bool true)) (fun _ hk => ⟨hk.1.1, hk.1.2⟩)⟩
              have n3_ : Aside0 ((w97.setCell ⟨gb266, 2, none⟩ (.bool true)).heap[gb258]? = some (.cells #[.int .i64 a0_0, .slice A0_1 l0_1.length c0_1, .bool a0_2] 46 (0, 0))) := ⟨by (with_reducible repeat (first | refine blk_drewN ?_ _ | refine blk_drew ?_ | refine blk_alloc ?_ _)); refine blk_far ?_ NB258_266.out _; (with_reducible repeat (first | refine blk_drewN ?_ _ | refine blk_drew ?_ | refine blk_alloc ?_ _)); exact BK258.out⟩
              have n4_ : Aside0 ((w97.setCell ⟨gb266, 2, none⟩ (.bool true)).heap[gb259]? = some (.cells #[.int .i64 x260000_2, .slice none 0 0, .bool x260002_2] 46 (0, 0))) := ⟨by (with_reducible repeat (first | refine blk_drewN ?_ _ | refine blk_drew ?_ | refine blk_alloc ?_ _)); refine blk_far ?_ NB259_266.out _; (with_reducible repeat (first | refine blk_drewN ?_ _ | refine blk_drew ?_ | refine blk_alloc ?_ _)); exact BK259.out⟩
              have n5_ : Aside0 ((w97.setCell ⟨gb266, 2, none⟩ (.bool true)).heap[gb266]? = some (.cells #[.int .i64 a0_0, u267001, .bool true] 46 (0, 0))) := ⟨by (with_reducible repeat (first | refine blk_drewN ?_ _ | refine blk_drew ?_ | refine blk_alloc ?_ _)); refine blk_put (cs := #[.int .i64 a0_0, u267001, .bool x267002_2]) ?_ 2 _ rfl; (with_reducible repeat (first | refine blk_drewN ?_ _ | refine blk_drew ?_ | refine blk_alloc ?_ _)); exact BK266.out⟩
              have n6_ : Aside0 (Below w.heap.size w (w97.setCell ⟨gb266, 2, none⟩ (.bool true))) := ⟨by repeat (first | (with_reducible first | exact HB.out | apply below_alloc | apply pw_below_drewN | apply below_drew1 | refine below_set ?_ GE258.out | refine below_set ?_ GE259.out | refine below_set ?_ GE266.out) | exact HB.out)⟩
              (try clear HO_7)
              (try clear HO_8)
              (try clear HO_267001)
              (try clear BK258)
              (try clear BK259)
              (try clear BK266)
              (try clear HB)
              generalize (w97.setCell ⟨gb266, 2, none⟩ (.bool true)) = w100 at n0_ n1_ n2_ n3_ n4_ n5_ n6_ ⊢
              have HO_7 := n0_
              have HO_8 := n1_
              have HO_267001 := n2_
              have BK258 := n3_
              have BK259 := n4_
              have BK266 := n5_
              have HB := n6_
              clear n0_ n1_ n2_ n3_ n4_ n5_ n6_
              have n0_ := Aside0.mk (Kd.R_drew HO_7.out)
              have n1_ := Aside0.mk (Kd.R_drew HO_8.out)
              have n2_ := Aside0.mk (Kd.R_drew HO_267001.out)
              have n3_ := Aside0.mk (blk_drew BK258.out)
              have n4_ := Aside0.mk (blk_drew BK259.out)
              have n5_ := Aside0.mk (blk_drew BK266.out)
              have n6_ := Aside0.mk (below_drew1 HB.out)
              clear HO_7
              clear HO_8
              clear HO_267001
              clear BK258
              clear BK259
              clear BK266
              clear HB
              have HO_7 := n0_
              have HO_8 := n1_
              have HO_267001 := n2_
              have BK258 := n3_
              have BK259 := n4_
              have BK266 := n5_
              have HB := n6_
              clear n0_ n1_ n2_ n3_ n4_ n5_ n6_
              obtain ⟨Ao104, co104, eo104⟩ := Kd.R_slice HO_267001.out
              (first | subst eo104 | (injection eo104 with f1_ f2_ f3_; have f4_ := f1_.symm; have f5_ := f3_.symm; clear f1_ f2_ f3_; subst f4_; subst f5_))
              refine start_ (n := 5) (S := fun w' => w'.cell? ⟨gb266, 0, none⟩ = some (.int .i64 a0_0) ∧ w'.cell? ⟨gb266, 1, none⟩ = some (.slice Ao104 x267001_2.length co104) ∧ w'.cell? ⟨gb266, 2, none⟩ = some (.bool true) ∧ (convert 23 9 (u8)).run Tryd.prog w' = .ok (.string (strOfNums x8_2)) w') (ds := []) #[false, false, false, false, false] (by kernel_rfl) rfl rfl ⟨(blk_cell BK266.out 0).trans rfl, (blk_cell BK266.out 1).trans rfl, (blk_cell BK266.out 2).trans rfl, (own_string (P := Tryd.prog) Tryd.underlying23 Tryd.underlying5 Tryd.underlying9 (Kd.own_of_R HO_8.out))⟩ (fun hHeld => ?_)
              generalize w100.drew = w101 at HO_7 HO_8 HO_267001 BK258 BK259 BK266 HB hHeld ⊢
              refine pure_ (i := 1) (N := some 71) (v := ?_) (a' := ?_) #[false, true, false, false, false] rfl rfl (by kernel_rfl) (fun _ _ _ h => h) (Or.inl ⟨by rfl, ?_⟩) ?_ ?_
              rotate_left
              ·intro w'
               go_simp
               with_reducible rfl
              rotate_left
              ·simp only [Act.put, List.setIfInBounds_toArray, List.set_cons_zero, List.set_cons_succ, i64_w, i32_w]
               rfl
              refine take_ (i := 0) (N := some 70) (v := ?_) (a' := ?_) #[true, true, false, false, false] rfl rfl (by kernel_rfl) (fun _ _ _ h => h) (Or.inl ⟨by rfl, ?_⟩) hHeld ?_ ?_
              rotate_left
              ·rintro w' ⟨s0, s1, s2, s3⟩
               go_simp
               with_reducible rfl
              rotate_left
              ·simp only [Act.put, List.setIfInBounds_toArray, List.set_cons_zero, List.set_cons_succ, i64_w, i32_w]
               rfl
              refine take_ (i := 2) (N := some 72) (v := ?_) (a' := ?_) #[true, true, true, false, false] rfl rfl (by kernel_rfl) (fun _ _ _ h => h) (Or.inl ⟨by rfl, ?_⟩) hHeld ?_ ?_
              rotate_left
              ·rintro w' ⟨s0, s1, s2, s3⟩
               go_simp
               with_reducible rfl
              rotate_left
              ·simp only [Act.put, List.setIfInBounds_toArray, List.set_cons_zero, List.set_cons_succ, i64_w, i32_w]
               rfl
              refine one_ (i := 3) (N := none) #[true, true, true, true, false] rfl rfl (by kernel_rfl) (by decide) (fun K hK => ?_)
              have hs103 : w101.cell? ⟨gb259, 0, none⟩ = some (.int .i64 x260000_2) := (blk_cell BK259.out 0).trans rfl
              have hfs103 := blk_frozen BK259.out 0
              have hns103_0 := NB258_259.out
              have hns103_2 := NB266_259.out
              have hms103_0 := NB259_258.out
              have hms103_2 := NB259_266.out
              have hs105 : w101.cell? ⟨gb259, 1, none⟩ = some (.slice none 0 0) := (blk_cell BK259.out 1).trans rfl
              have hfs105 := blk_frozen BK259.out 1
              have hns105_0 := NB258_259.out
              have hns105_2 := NB266_259.out
              have hms105_0 := NB259_258.out
              have hms105_2 := NB259_266.out
              have hs106 : w101.cell? ⟨gb259, 2, none⟩ = some (.bool x260002_2) := (blk_cell BK259.out 2).trans rfl
              have hfs106 := blk_frozen BK259.out 2
              have hns106_0 := NB258_259.out
              have hns106_2 := NB266_259.out
              have hms106_0 := NB259_258.out
              have hms106_2 := NB259_266.out
              refine skip_ (w1 := ?_) (by rfl) rfl ?_ ?_
              rotate_left
              ·go_simp
               rfl
              refine hK.out _ _ ⟨((cell_far (p := ⟨gb259, _, none⟩) NB266_259.out _).trans (((cell_far (p := ⟨gb259, _, none⟩) NB266_259.out _).trans (((cell_far (p := ⟨gb259, _, none⟩) NB266_259.out _).trans (hHeld.1)))))), ((cell_far (p := ⟨gb259, _, none⟩) NB266_259.out _).trans (((cell_far (p := ⟨gb259, _, none⟩) NB266_259.out _).trans (((cell_far (p := ⟨gb259, _, none⟩) NB266_259.out _).trans (hHeld.2.1)))))), ((cell_far (p := ⟨gb259, _, none⟩) NB266_259.out _).trans (((cell_far (p := ⟨gb259, _, none⟩) NB266_259.out _).trans (((cell_far (p := ⟨gb259, _, none⟩) NB266_259.out _).trans (hHeld.2.2.1)))))), (own_string (P := Tryd.prog) Tryd.underlying23 Tryd.underlying5 Tryd.underlying9 (Kd.own_of_R (Kd.R_far (Kd.R_far (Kd.R_far (Kd.R_types HO_8.out BK259.out (by decide)) (fun _ h_ => h_.2) _) (fun _ h_ => h_.2) _) (fun _ h_ => h_.2) _)))⟩ (fun hHeld => ?_)
              clear hK K
              refine pure_ (i := 4) (N := some 5) (v := ?_) (a' := ?_) #[true, true, true, true, true] rfl rfl (by kernel_rfl) (fun _ _ _ h => h) (Or.inl ⟨by rfl, ?_⟩) ?_ ?_
              rotate_left
              ·intro w'
               go_simp
               with_reducible rfl
              rotate_left
              ·simp only [Act.put, List.setIfInBounds_toArray, List.set_cons_zero, List.set_cons_succ, i64_w, i32_w]
               rfl
              refine done_ (by kernel_rfl) ?_
              try go_wp2
              refine bodyPost_ret (results_ct rfl _ _ gb259 46 #[.int .i64 a0_0, .slice Ao104 x267001_2.length co104, .bool true] (0, 0) _ rfl (by (with_reducible repeat (first | refine blk_drewN ?_ _ | refine blk_drew ?_ | refine blk_alloc ?_ _)); refine blk_put (cs := #[.int .i64 a0_0, .slice Ao104 x267001_2.length co104, .bool x260002_2]) ?_ 2 _ rfl; (with_reducible repeat (first | refine blk_drewN ?_ _ | refine blk_drew ?_ | refine blk_alloc ?_ _)); refine blk_put (cs := #[.int .i64 a0_0, .slice none 0 0, .bool x260002_2]) ?_ 1 _ rfl; (with_reducible repeat (first | refine blk_drewN ?_ _ | refine blk_drew ?_ | refine blk_alloc ?_ _)); refine blk_put (cs := #[.int .i64 x260000_2, .slice none 0 0, .bool x260002_2]) ?_ 0 _ rfl; (with_reducible repeat (first | refine blk_drewN ?_ _ | refine blk_drew ?_ | refine blk_alloc ?_ _)); exact BK259.out) Tryd.underlying46 rfl (by kernel_rfl)) rfl ?_
              exact ⟨_, by first | rfl | (simp [errW_none, errW_some] <;> rfl) | (simp [*, errW_none, errW_some] <;> rfl), by (with_reducible repeat (first | apply Kd.R_alloc | apply Kd.R_drewN | apply Kd.R_drew)); exact Kd.R_mono (Kd.R_far (p := ⟨gb259, 2, none⟩) (Kd.R_far (p := ⟨gb259, 1, none⟩) (Kd.R_far (p := ⟨gb259, 0, none⟩) (Kd.R_types HO_267001.out BK259.out (by decide)) (fun _ hk => hk.2) (.int .i64 a0_0)) (fun _ hk => hk.2) (.slice Ao104 x267001_2.length co104)) (fun _ hk => hk.2) (.bool true)) (fun _ hk => trivial), hs_⟩
            ·rw [if_neg c63] at H
             exact absurd H (by simp)
           ·rw [if_neg c62] at H
            exact absurd H (by simp)
         ·rw [if_neg c51] at H
          have c51b0 : decide (x9_2 < (y274.length : Int)) = false := decide_eq_false c51
          clear c51
          simp only [Option.some.injEq, Prod.mk.injEq] at H
          obtain ⟨rfl, rfl, rfl, rfl⟩ := H
          obtain ⟨Ao107, co107, eo107⟩ := Kd.R_slice HO_7.out
          subst eo107
          try go_wp2
          have n0_ := Aside0.mk (Kd.R_drew HO_7.out)
          have n1_ := Aside0.mk (Kd.R_drew HO_8.out)
          have n2_ := Aside0.mk (Kd.R_drew HO_267001.out)
          have n3_ := Aside0.mk (blk_drew BK258.out)
          have n4_ := Aside0.mk (blk_drew BK259.out)
          have n5_ := Aside0.mk (blk_drew BK266.out)
          have n6_ := Aside0.mk (below_drew1 HB.out)
          clear HO_7
          clear HO_8
          clear HO_267001
          clear BK258
          clear BK259
          clear BK266
          clear HB
          have HO_7 := n0_
          have HO_8 := n1_
          have HO_267001 := n2_
          have BK258 := n3_
          have BK259 := n4_
          have BK266 := n5_
          have HB := n6_
          clear n0_ n1_ n2_ n3_ n4_ n5_ n6_
          obtain ⟨Ao111, co111, eo111⟩ := Kd.R_slice HO_267001.out
          (first | subst eo111 | (injection eo111 with f1_ f2_ f3_; have f4_ := f1_.symm; have f5_ := f3_.symm; clear f1_ f2_ f3_; subst f4_; subst f5_))
          refine start_ (n := 5) (S := fun w' => w'.cell? ⟨gb266, 0, none⟩ = some (.int .i64 a0_0) ∧ w'.cell? ⟨gb266, 1, none⟩ = some (.slice Ao111 x267001_2.length co111) ∧ w'.cell? ⟨gb266, 2, none⟩ = some (.bool x267002_2) ∧ (convert 23 9 (u8)).run Tryd.prog w' = .ok (.string (strOfNums x8_2)) w') (ds := []) #[false, false, false, false, false] (by kernel_rfl) rfl rfl ⟨(blk_cell BK266.out 0).trans rfl, (blk_cell BK266.out 1).trans rfl, (blk_cell BK266.out 2).trans rfl, (own_string (P := Tryd.prog) Tryd.underlying23 Tryd.underlying5 Tryd.underlying9 (Kd.own_of_R HO_8.out))⟩ (fun hHeld => ?_)
          generalize wr.drew = w108 at HO_7 HO_8 HO_267001 BK258 BK259 BK266 HB hHeld ⊢
          refine pure_ (i := 1) (N := some 74) (v := ?_) (a' := ?_) #[false, true, false, false, false] rfl rfl (by kernel_rfl) (fun _ _ _ h => h) (Or.inl ⟨by rfl, ?_⟩) ?_ ?_
          rotate_left
          ·intro w'
           go_simp
           with_reducible rfl
          rotate_left
          ·simp only [Act.put, List.setIfInBounds_toArray, List.set_cons_zero, List.set_cons_succ, i64_w, i32_w]
           rfl
          refine take_ (i := 0) (N := some 73) (v := ?_) (a' := ?_) #[true, true, false, false, false] rfl rfl (by kernel_rfl) (fun _ _ _ h => h) (Or.inl ⟨by rfl, ?_⟩) hHeld ?_ ?_
          rotate_left
          ·rintro w' ⟨s0, s1, s2, s3⟩
           go_simp
           with_reducible rfl
          rotate_left
          ·simp only [Act.put, List.setIfInBounds_toArray, List.set_cons_zero, List.set_cons_succ, i64_w, i32_w]
           rfl
          refine take_ (i := 2) (N := some 75) (v := ?_) (a' := ?_) #[true, true, true, false, false] rfl rfl (by kernel_rfl) (fun _ _ _ h => h) (Or.inl ⟨by rfl, ?_⟩) hHeld ?_ ?_
          rotate_left
          ·rintro w' ⟨s0, s1, s2, s3⟩
           go_simp
           with_reducible rfl
          rotate_left
          ·simp only [Act.put, List.setIfInBounds_toArray, List.set_cons_zero, List.set_cons_succ, i64_w, i32_w]
           rfl
          refine one_ (i := 3) (N := none) #[true, true, true, true, false] rfl rfl (by kernel_rfl) (by decide) (fun K hK => ?_)
          have hs110 : w108.cell? ⟨gb259, 0, none⟩ = some (.int .i64 x260000_2) := (blk_cell BK259.out 0).trans rfl
          have hfs110 := blk_frozen BK259.out 0
          have hns110_0 := NB258_259.out
          have hns110_2 := NB266_259.out
          have hms110_0 := NB259_258.out
          have hms110_2 := NB259_266.out
          have hs112 : w108.cell? ⟨gb259, 1, none⟩ = some (.slice none 0 0) := (blk_cell BK259.out 1).trans rfl
          have hfs112 := blk_frozen BK259.out 1
          have hns112_0 := NB258_259.out
          have hns112_2 := NB266_259.out
          have hms112_0 := NB259_258.out
          have hms112_2 := NB259_266.out
          have hs113 : w108.cell? ⟨gb259, 2, none⟩ = some (.bool x260002_2) := (blk_cell BK259.out 2).trans rfl
          have hfs113 := blk_frozen BK259.out 2
          have hns113_0 := NB258_259.out
          have hns113_2 := NB266_259.out
          have hms113_0 := NB259_258.out
          have hms113_2 := NB259_266.out
          refine skip_ (w1 := ?_) (by rfl) rfl ?_ ?_
          rotate_left
          ·go_simp
           rfl
          refine hK.out _ _ ⟨((cell_far (p := ⟨gb259, _, none⟩) NB266_259.out _).trans (((cell_far (p := ⟨gb259, _, none⟩) NB266_259.out _).trans (((cell_far (p := ⟨gb259, _, none⟩) NB266_259.out _).trans (hHeld.1)))))), ((cell_far (p := ⟨gb259, _, none⟩) NB266_259.out _).trans (((cell_far (p := ⟨gb259, _, none⟩) NB266_259.out _).trans (((cell_far (p := ⟨gb259, _, none⟩) NB266_259.out _).trans (hHeld.2.1)))))), ((cell_far (p := ⟨gb259, _, none⟩) NB266_259.out _).trans (((cell_far (p := ⟨gb259, _, none⟩) NB266_259.out _).trans (((cell_far (p := ⟨gb259, _, none⟩) NB266_259.out _).trans (hHeld.2.2.1)))))), (own_string (P := Tryd.prog) Tryd.underlying23 Tryd.underlying5 Tryd.underlying9 (Kd.own_of_R (Kd.R_far (Kd.R_far (Kd.R_far (Kd.R_types HO_8.out BK259.out (by decide)) (fun _ h_ => h_.2) _) (fun _ h_ => h_.2) _) (fun _ h_ => h_.2) _)))⟩ (fun hHeld => ?_)
          clear hK K
          refine pure_ (i := 4) (N := some 5) (v := ?_) (a' := ?_) #[true, true, true, true, true] rfl rfl (by kernel_rfl) (fun _ _ _ h => h) (Or.inl ⟨by rfl, ?_⟩) ?_ ?_
          rotate_left
          ·intro w'
           go_simp
           with_reducible rfl
          rotate_left
          ·simp only [Act.put, List.setIfInBounds_toArray, List.set_cons_zero, List.set_cons_succ, i64_w, i32_w]
           rfl
          refine done_ (by kernel_rfl) ?_
          try go_wp2
          refine bodyPost_ret (results_ct rfl _ _ gb259 46 #[.int .i64 a0_0, .slice Ao111 x267001_2.length co111, .bool x267002_2] (0, 0) _ rfl (by (with_reducible repeat (first | refine blk_drewN ?_ _ | refine blk_drew ?_ | refine blk_alloc ?_ _)); refine blk_put (cs := #[.int .i64 a0_0, .slice Ao111 x267001_2.length co111, .bool x260002_2]) ?_ 2 _ rfl; (with_reducible repeat (first | refine blk_drewN ?_ _ | refine blk_drew ?_ | refine blk_alloc ?_ _)); refine blk_put (cs := #[.int .i64 a0_0, .slice none 0 0, .bool x260002_2]) ?_ 1 _ rfl; (with_reducible repeat (first | refine blk_drewN ?_ _ | refine blk_drew ?_ | refine blk_alloc ?_ _)); refine blk_put (cs := #[.int .i64 x260000_2, .slice none 0 0, .bool x260002_2]) ?_ 0 _ rfl; (with_reducible repeat (first | refine blk_drewN ?_ _ | refine blk_drew ?_ | refine blk_alloc ?_ _)); exact BK259.out) Tryd.underlying46 rfl (by kernel_rfl)) rfl ?_
          exact ⟨_, by first | rfl | (simp [errW_none, errW_some] <;> rfl) | (simp [*, errW_none, errW_some] <;> rfl), by (with_reducible repeat (first | apply Kd.R_alloc | apply Kd.R_drewN | apply Kd.R_drew)); exact Kd.R_mono (Kd.R_far (p := ⟨gb259, 2, none⟩) (Kd.R_far (p := ⟨gb259, 1, none⟩) (Kd.R_far (p := ⟨gb259, 0, none⟩) (Kd.R_types HO_267001.out BK259.out (by decide)) (fun _ hk => hk.2) (.int .i64 a0_0)) (fun _ hk => hk.2) (.slice Ao111 x267001_2.length co111)) (fun _ hk => hk.2) (.bool x267002_2)) (fun _ hk => trivial), hs_⟩
      ·rw [if_neg c36] at H
       exact absurd H (by simp)
     ·rw [if_neg c35] at H
      exact absurd H (by simp)
 ·rw [if_neg c3] at H
  exact absurd H (by simp)

end Go.Proofs.YtpmimhbnmjffpaaDoor.QFnExactFeed
