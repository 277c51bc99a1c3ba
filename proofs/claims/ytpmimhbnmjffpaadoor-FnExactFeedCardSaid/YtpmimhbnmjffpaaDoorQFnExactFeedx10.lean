/- The functions that a law reaches, each as a plain function, and that Go comes to just its answer: written by the session's program pp.py (the kit's print, with a few rows turned). -/
import Derived.Test.YtpmimhbnmjffpaaDoorQFnExactFeedx0
import Derived.Test.YtpmimhbnmjffpaaDoorQFnExactFeedx7
import Derived.Test.YtpmimhbnmjffpaaDoorQFnExactFeedx8
import Derived.Test.YtpmimhbnmjffpaaDoorQFnExactFeedx9
namespace Go.Proofs.YtpmimhbnmjffpaaDoor.QFnExactFeed
open Go.RowKit Go.Proofs.YtpmimhbnmjffpaaDoorW.PrintWords Go.Proofs.YtpmimhbnmjffpaaDoorW.PrintLast Go.Proofs.YtpmimhbnmjffpaaDoorW.PrintMore Go.Proofs.YtpmimhbnmjffpaaDoor.Xw Go.Proofs.YtpmimhbnmjffpaaDoor.Xs Go.Proofs.YtpmimhbnmjffpaaDoor.Ext
attribute [local go_sem] max2_int min2_int max_two min_two max_three min_three max_four min_four   -- for this text's walks alone
set_option linter.unusedVariables false
set_option linter.unusedSimpArgs false

/-! ### impl_Feed: function 36 -/
mutual
def impl_Feed.j0 : Nat → List Int → Bool → Int → List Int → Bool → Int → List Int → Bool → Option (Int × List Int × Bool × ByteArray)
 | 0, _, _, _, _, _, _, _, _ => none
 | k + 1, x1, x28, x410000, x410001, x410002, x418000, x418001, x418002 => if x28 = true then (some (x418000, x418001, x418002, (⟨#[]⟩ : ByteArray))) else ((impl_joined.f k (([x410001, x1] : List (List Int)))).bind fun t422 => (impl_Feed.l0 k t422 (([] : List Int)) 0 x410000 x410001 x410002 x418000 x418002))
def impl_Feed.l0 : Nat → List Int → List Int → Int → Int → List Int → Bool → Int → Bool → Option (Int × List Int × Bool × ByteArray)
 | 0, _, _, _, _, _, _, _, _ => none
 | k + 1, x7, x8, x9, x410000, x410001, x410002, x418000, x418002 => if x9 < (x7.length : Int) then ((impl_signIn.f k x410000 x7 x9).bind fun bt428 => (if bt428.2.2 = true then ((impl_PutSign.f k x8 bt428.1).bind fun t431 => (impl_Feed.l0 k x7 t431 bt428.2.1 x410000 x410001 x410002 x418000 x418002)) else (if 0 ≤ x9 then (if x9 ≤ (x7.length : Int) then ((impl_begins.f x410000 (x7.drop (x9 : Int).toNat)).bind fun t439 => (if t439 = true then ((impl_joined.f k (([(x7.drop (x9 : Int).toNat)] : List (List Int)))).bind fun t448 => (some (x418000, t448, x418002, strOfNums x8))) else (some (x418000, ([] : List Int), true, strOfNums x8)))) else (none)) else (none)))) else (some (x418000, ([] : List Int), x418002, strOfNums x8))
end
def impl_Feed.f (k : Nat) (a0_0 : Int) (l0_1 : List Int) (a0_2 : Bool) (l1 : List Int) : Option (Int × List Int × Bool × ByteArray) := (impl_joined.f k (([l0_1] : List (List Int)))).bind fun t414 => ((impl_DecOk.f a0_0 l0_1 a0_2).bind fun t418 => (if t418 = true then (impl_Feed.j0 k l1 a0_2 a0_0 l0_1 a0_2 a0_0 t414 a0_2) else (impl_Feed.j0 k l1 true a0_0 l0_1 a0_2 a0_0 t414 a0_2)))
theorem impl_Feed.mono_l : ∀ k, (∀ y0 y1 y2 y3 y4 y5 y6 y7, LeO (impl_Feed.j0 k y0 y1 y2 y3 y4 y5 y6 y7) (impl_Feed.j0 (k + 1) y0 y1 y2 y3 y4 y5 y6 y7)) ∧ (∀ y0 y1 y2 y3 y4 y5 y6 y7, LeO (impl_Feed.l0 k y0 y1 y2 y3 y4 y5 y6 y7) (impl_Feed.l0 (k + 1) y0 y1 y2 y3 y4 y5 y6 y7))
 | 0 => ⟨fun _ _ _ _ _ _ _ _ r h => by simp [impl_Feed.j0] at h, fun _ _ _ _ _ _ _ _ r h => by simp [impl_Feed.l0] at h⟩
 | k + 1 => by
  obtain ⟨ih0, ih1⟩ := impl_Feed.mono_l k
  refine ⟨?_, ?_⟩
  ·intro y0 y1 y2 y3 y4 y5 y6 y7
   unfold impl_Feed.j0
   repeat' first
   | (with_reducible exact ih0 _ _ _ _ _ _ _ _)
   | (with_reducible exact ih1 _ _ _ _ _ _ _ _)
   | (with_reducible exact impl_PutSign.mono _ _ _)
   | (with_reducible exact impl_joined.mono _ _)
   | (with_reducible exact impl_signIn.mono _ _ _ _)
   | (with_reducible exact LeO.refl _)
   | (with_reducible exact LeO.none _)
   | (with_reducible refine LeO.ite ?_ ?_)
   | (with_reducible refine LeO.bind ?_ (fun _ => ?_))
   | exact ih0 _ _ _ _ _ _ _ _
   | exact ih1 _ _ _ _ _ _ _ _
   | exact impl_PutSign.mono _ _ _
   | exact impl_joined.mono _ _
   | exact impl_signIn.mono _ _ _ _
   | exact LeO.none _
   | refine LeO.ite ?_ ?_
   | refine LeO.bind ?_ (fun _ => ?_)
  ·intro y0 y1 y2 y3 y4 y5 y6 y7
   unfold impl_Feed.l0
   repeat' first
   | (with_reducible exact ih0 _ _ _ _ _ _ _ _)
   | (with_reducible exact ih1 _ _ _ _ _ _ _ _)
   | (with_reducible exact impl_PutSign.mono _ _ _)
   | (with_reducible exact impl_joined.mono _ _)
   | (with_reducible exact impl_signIn.mono _ _ _ _)
   | (with_reducible exact LeO.refl _)
   | (with_reducible exact LeO.none _)
   | (with_reducible refine LeO.ite ?_ ?_)
   | (with_reducible refine LeO.bind ?_ (fun _ => ?_))
   | exact ih0 _ _ _ _ _ _ _ _
   | exact ih1 _ _ _ _ _ _ _ _
   | exact impl_PutSign.mono _ _ _
   | exact impl_joined.mono _ _
   | exact impl_signIn.mono _ _ _ _
   | exact LeO.none _
   | refine LeO.ite ?_ ?_
   | refine LeO.bind ?_ (fun _ => ?_)
theorem impl_Feed.mono : ∀ a0 a1 a2 a3 k, LeO (impl_Feed.f k a0 a1 a2 a3) (impl_Feed.f (k + 1) a0 a1 a2 a3) := by
 intro a0 a1 a2 a3 k
 obtain ⟨ih0, ih1⟩ := impl_Feed.mono_l k
 unfold impl_Feed.f
 repeat' first
   | (with_reducible exact ih0 _ _ _ _ _ _ _ _)
   | (with_reducible exact ih1 _ _ _ _ _ _ _ _)
   | (with_reducible exact impl_PutSign.mono _ _ _)
   | (with_reducible exact impl_joined.mono _ _)
   | (with_reducible exact impl_signIn.mono _ _ _ _)
   | (with_reducible exact LeO.refl _)
   | (with_reducible exact LeO.none _)
   | (with_reducible refine LeO.ite ?_ ?_)
   | (with_reducible refine LeO.bind ?_ (fun _ => ?_))
   | exact ih0 _ _ _ _ _ _ _ _
   | exact ih1 _ _ _ _ _ _ _ _
   | exact impl_PutSign.mono _ _ _
   | exact impl_joined.mono _ _
   | exact impl_signIn.mono _ _ _ _
   | exact LeO.none _
   | refine LeO.ite ?_ ?_
   | refine LeO.bind ?_ (fun _ => ?_)
def impl_Feed.T1 : Bool × List (List Nat × List Nat) := (true, [([], []), ([0], [0]), ([], []), ([2], [2]), ([3], [3]), ([4], [4]), ([], []), ([6], [6]), ([1, 5, 7], [1, 5, 7]), ([], []), ([9, 8, 5, 0, 1, 2, 3, 4, 5, 6, 7, 8, 9], [8, 9])])
def impl_Feed.B1 : List Nat := [0, 1, 0, 4, 12, 28, 0, 64, 255, 0, 1023]
theorem impl_Feed.tab1 : rtab .any (opsOf Tryd.f36 1) = impl_Feed.T1 := by kernel_rfl
theorem impl_Feed.bits1 : waitsOk impl_Feed.T1.2 impl_Feed.B1 = true := by kernel_rfl
set_option maxHeartbeats 8000000 in
set_option maxRecDepth 100000 in
theorem impl_Feed.calls (k : Nat) (a0_0 : Int) (P0_1_ : Nat → Prop) (A0_1 : Option Addr) (c0_1 : Nat) (l0_1 : List Int) (a0_2 : Bool) (P1_ : Nat → Prop) (A1 : Option Addr) (c1 : Nat) (l1 : List Int) (r1 : Int) (r2 : List Int) (r3 : Bool) (r4 : ByteArray) (w : World) (hT : TabsOk w) (hs0_1 : Kd.V (Kd.int .u8) 5 w w.heap.size (fun k_ => P0_1_ k_) (.slice A0_1 l0_1.length c0_1) l0_1) (hs1 : Kd.V (Kd.int .u8) 5 w w.heap.size (fun k_ => P1_ k_) (.slice A1 l1.length c1) l1) (h : impl_Feed.f k a0_0 l0_1 a0_2 l1 = some (r1, r2, r3, r4)) :
  Calls Tryd.prog 36 #[.agg #[.int .i64 a0_0, .slice A0_1 l0_1.length c0_1, .bool a0_2], .slice A1 l1.length c1] w fun e w' => ∃ v1_ : Value, e = .returned (.tuple #[.agg #[.int .i64 r1, v1_, .bool r3], .string r4]) ∧ Kd.R (Kd.int .u8) 5 w' w.heap.size (fun k_ => (w.heap.size ≤ k_)) v1_ r2 ∧ Below w.heap.size w w' := by
 have HT := Aside0.mk hT
 clear hT
 have hu46 := Tryd.underlying46
 have HO0_1 := Aside0.mk (show Kd.V (Kd.int .u8) 5 w w.heap.size (fun k_ => ((P0_1_ k_ ∨ P1_ k_) ∨ w.heap.size ≤ k_)) (.slice A0_1 l0_1.length c0_1) l0_1 from Kd.V_mono hs0_1 (fun k_ hk => .inl (.inl hk)))
 have HO1 := Aside0.mk (show Kd.V (Kd.int .u8) 5 w w.heap.size (fun k_ => ((P0_1_ k_ ∨ P1_ k_) ∨ w.heap.size ≤ k_)) (.slice A1 l1.length c1) l1 from Kd.V_mono hs1 (fun k_ hk => .inl (.inr hk)))
 have HB := Aside0.mk (Below.refl w.heap.size w)
 have H : ((impl_joined.f k (([l0_1] : List (List Int)))).bind fun t414 => ((impl_DecOk.f a0_0 l0_1 a0_2).bind fun t418 => (if t418 = true then (impl_Feed.j0 k l1 a0_2 a0_0 l0_1 a0_2 a0_0 t414 a0_2) else (impl_Feed.j0 k l1 true a0_0 l0_1 a0_2 a0_0 t414 a0_2)))) = some (r1, r2, r3, r4) := h
 clear h
 obtain ⟨y411, hy411⟩ : ∃ y_ : List (List Int), y_ = (([l0_1] : List (List Int))) := ⟨_, rfl⟩
 replace H : ((impl_joined.f k y411).bind fun t414 => ((impl_DecOk.f a0_0 l0_1 a0_2).bind fun t418 => (if t418 = true then (impl_Feed.j0 k l1 a0_2 a0_0 l0_1 a0_2 a0_0 t414 a0_2) else (impl_Feed.j0 k l1 true a0_0 l0_1 a0_2 a0_0 t414 a0_2)))) = some (r1, r2, r3, r4) := by first | (rw [hy411]; with_reducible exact H) | (have H2_ := (Option.bind_some _ _).symm.trans H; rw [hy411]; with_reducible exact H2_) | (have H2_ := (Option.bind_some _ _).symm.trans H; with_reducible exact H2_) | with_reducible exact H | (rw [hy411]; exact H) | exact H
 have Ny411 := Aside0.mk hy411
 clear hy411
 replace H := Option.bind_eq_some_iff.mp H
 obtain ⟨t414, A30, H⟩ := H
 try dsimp only at H
 have A3 := Aside0.mk A30
 clear A30
 have HC4 := Aside0.mk H
 clear H
 go_enter Tryd.func36, Tryd.ntmps36
 try go_wp2_with (first | ((with_reducible refine gate_dst (N := 2) rfl ?_); refine box_event ?hg (N := 2) ?hd (cs := #[.int .i64 a0_0, .slice A0_1 l0_1.length c0_1, .bool a0_2]) (t := 46) ?hr ?_; (case hd => rfl); (case hg => rfl); (case hr => first | (go_simp; done) | (go_simp; rfl)); intro gb409 hg w5 hbox hb; have n0_ := Aside0.mk (Kd.V_below (Kd.V_elderB (by (with_reducible repeat (first | apply Kd.V_alloc | apply Kd.V_drewN | apply Kd.V_drew)); exact HO0_1.out) gb409 (Nat.le_of_eq hg.symm)) hb); have n1_ := Aside0.mk (Kd.V_below (Kd.V_elderB (by (with_reducible repeat (first | apply Kd.V_alloc | apply Kd.V_drewN | apply Kd.V_drew)); exact HO1.out) gb409 (Nat.le_of_eq hg.symm)) hb); have n2_ := Aside0.mk (below_step hb_ hb); have n3_ := Aside0.mk (hbox); have n4_ := Aside0.mk ((by rw [hg]; exact (below_size hb_) : w.heap.size ≤ gb409)); have n5_ := Aside0.mk ((by rw [hg]; exact (below_size hb_) : w.heap.size ≤ gb409)); clear HO0_1; clear HO1; clear HB; have HO0_1 := n0_; have HO1 := n1_; have HB := n2_; have BK409 := n3_; have GW409 := n4_; have GE409 := n5_; clear n0_ n1_ n2_ n3_ n4_ n5_; clear hb hbox hg) | ((with_reducible refine gate_dst (N := 4) rfl ?_); refine box_event ?hg (N := 4) ?hd (cs := #[.int .i64 0, .slice none 0 0, .bool false]) (t := 46) ?hr ?_; (case hd => rfl); (case hg => rfl); (case hr => first | (go_simp; done) | (go_simp; rfl)); intro gb410 hg w6 hbox hb; have n0_ := Aside0.mk (Kd.V_below (Kd.V_elderB (by (with_reducible repeat (first | apply Kd.V_alloc | apply Kd.V_drewN | apply Kd.V_drew)); exact HO0_1.out) gb410 (Nat.le_of_eq hg.symm)) hb); have n1_ := Aside0.mk (Kd.V_below (Kd.V_elderB (by (with_reducible repeat (first | apply Kd.V_alloc | apply Kd.V_drewN | apply Kd.V_drew)); exact HO1.out) gb410 (Nat.le_of_eq hg.symm)) hb); have n2_ := Aside0.mk (blk_below (g := gb409) (o := .cells #[.int .i64 a0_0, .slice A0_1 l0_1.length c0_1, .bool a0_2] 46 (0, 0)) (kb_ BK409) hb); have n3_ := Aside0.mk (below_step hs_ hb); have n4_ := Aside0.mk (hbox); have n5_ := Aside0.mk ((by rw [hg]; exact (below_size hs_) : w.heap.size ≤ gb410)); have n6_ := Aside0.mk ((by rw [hg]; exact (below_size hs_) : w.heap.size ≤ gb410)); have n7_ := Aside0.mk ((by rw [hg]; exact Nat.ne_of_lt (blk_lt (g := gb409) (o := .cells #[.int .i64 a0_0, .slice A0_1 l0_1.length c0_1, .bool a0_2] 46 (0, 0)) (kb_ BK409)) : gb409 ≠ gb410)); have n8_ := Aside0.mk ((by rw [hg]; exact Nat.ne_of_gt (blk_lt (g := gb409) (o := .cells #[.int .i64 a0_0, .slice A0_1 l0_1.length c0_1, .bool a0_2] 46 (0, 0)) (kb_ BK409)) : gb410 ≠ gb409)); clear HO0_1; clear HO1; clear BK409; clear HB; have HO0_1 := n0_; have HO1 := n1_; have BK409 := n2_; have HB := n3_; have BK410 := n4_; have GW410 := n5_; have GE410 := n6_; have NB409_410 := n7_; have NB410_409 := n8_; clear n0_ n1_ n2_ n3_ n4_ n5_ n6_ n7_ n8_; clear hb hbox hg))
 have n0_ := Aside0.mk (Kd.V_drew HO0_1.out)
 have n1_ := Aside0.mk (Kd.V_drew HO1.out)
 have n2_ := Aside0.mk (blk_drew BK409.out)
 have n3_ := Aside0.mk (blk_drew BK410.out)
 have n4_ := Aside0.mk (below_drew1 HB.out)
 clear HO0_1
 clear HO1
 clear BK409
 clear BK410
 clear HB
 have HO0_1 := n0_
 have HO1 := n1_
 have BK409 := n2_
 have BK410 := n3_
 have HB := n4_
 clear n0_ n1_ n2_ n3_ n4_
 refine start_ (n := 11) (S := fun w' => w'.cell? ⟨gb409, 0, none⟩ = some (.int .i64 a0_0) ∧ w'.cell? ⟨gb409, 1, none⟩ = some (.slice A0_1 l0_1.length c0_1) ∧ w'.cell? ⟨gb409, 2, none⟩ = some (.bool a0_2)) (ds := []) #[false, false, false, false, false, false, false, false, false, false, false] (by kernel_rfl) rfl rfl ⟨(blk_cell BK409.out 0).trans rfl, (blk_cell BK409.out 1).trans rfl, (blk_cell BK409.out 2).trans rfl⟩ (fun hHeld => ?_); refine with_tabW impl_Feed.tab1 impl_Feed.bits1 (fun HT_ HW_ => ?_)
 generalize w6.drew = w7 at HO0_1 HO1 BK409 BK410 HB hHeld ⊢
 refine pure_ (i := 0) (N := some 13) (v := ?_) (a' := ?_) #[true, false, false, false, false, false, false, false, false, false, false] rfl rfl (any_of HT_.out (by kernel_rfl)) (fun _ _ _ h => h) (Or.inl ⟨by rfl, ?_⟩) ?_ ?_
 rotate_left
 ·intro w'
  go_simp
  with_reducible rfl
 rotate_left
 ·simp only [Act.put, List.setIfInBounds_toArray, List.set_cons_zero, List.set_cons_succ, i64_w, i32_w]
  rfl
 refine pure_ (i := 2) (N := some 15) (v := ?_) (a' := ?_) #[true, false, true, false, false, false, false, false, false, false, false] rfl rfl (any_of HT_.out (by kernel_rfl)) (fun _ _ _ h => h) (Or.inl ⟨by rfl, ?_⟩) ?_ ?_
 rotate_left
 ·intro w'
  go_simp
  with_reducible rfl
 rotate_left
 ·simp only [Act.put, List.setIfInBounds_toArray, List.set_cons_zero, List.set_cons_succ, i64_w, i32_w]
  rfl
 refine pure_ (i := 6) (N := some 19) (v := ?_) (a' := ?_) #[true, false, true, false, false, false, true, false, false, false, false] rfl rfl (any_of HT_.out (by kernel_rfl)) (fun _ _ _ h => h) (Or.inl ⟨by rfl, ?_⟩) ?_ ?_
 rotate_left
 ·intro w'
  go_simp
  with_reducible rfl
 rotate_left
 ·simp only [Act.put, List.setIfInBounds_toArray, List.set_cons_zero, List.set_cons_succ, i64_w, i32_w]
  rfl
 refine take_ (i := 1) (N := some 14) (v := ?_) (a' := ?_) #[true, true, true, false, false, false, true, false, false, false, false] rfl rfl (take_ofW HT_.out HW_.out (by kernel_rfl)) (fun _ _ _ h => h) (Or.inl ⟨by rfl, ?_⟩) hHeld ?_ ?_
 rotate_left
 ·rintro w' ⟨s0, s1, s2⟩
  go_simp
  with_reducible rfl
 rotate_left
 ·simp only [Act.put, List.setIfInBounds_toArray, List.set_cons_zero, List.set_cons_succ, i64_w, i32_w]
  rfl
 refine take_ (i := 3) (N := some 16) (v := ?_) (a' := ?_) #[true, true, true, true, false, false, true, false, false, false, false] rfl rfl (take_ofW HT_.out HW_.out (by kernel_rfl)) (fun _ _ _ h => h) (Or.inl ⟨by rfl, ?_⟩) hHeld ?_ ?_
 rotate_left
 ·rintro w' ⟨s0, s1, s2⟩
  go_simp
  with_reducible rfl
 rotate_left
 ·simp only [Act.put, List.setIfInBounds_toArray, List.set_cons_zero, List.set_cons_succ, i64_w, i32_w]
  rfl
 refine take_ (i := 7) (N := some 20) (v := ?_) (a' := ?_) #[true, true, true, true, false, false, true, true, false, false, false] rfl rfl (take_ofW HT_.out HW_.out (by kernel_rfl)) (fun _ _ _ h => h) (Or.inl ⟨by rfl, ?_⟩) hHeld ?_ ?_
 rotate_left
 ·rintro w' ⟨s0, s1, s2⟩
  go_simp
  with_reducible rfl
 rotate_left
 ·simp only [Act.put, List.setIfInBounds_toArray, List.set_cons_zero, List.set_cons_succ, i64_w, i32_w]
  rfl
 refine join_ (σ := Value × Value × Nat) 1 #[true, true, true, true, true, true, true, true, true, true, false] (fun s_ => [(17, s_.1), (18, s_.2.1), (6, .pointer (some ⟨s_.2.2, 0, none⟩)), (21, .agg #[.int .i64 a0_0, s_.2.1, .bool a0_2])]) (fun s_ w' => (w'.cell? ⟨gb409, 0, none⟩ = some (.int .i64 a0_0) ∧ w'.cell? ⟨gb409, 1, none⟩ = some (.slice A0_1 l0_1.length c0_1) ∧ w'.cell? ⟨gb409, 2, none⟩ = some (.bool a0_2)) ∧ (Kd.V (Kd.int .u8) 5 w' w.heap.size (fun k_ => ((P0_1_ k_ ∨ P1_ k_) ∨ w.heap.size ≤ k_) ∧ some k_ ≠ (s_.1 : Value).ownBlock ∧ some k_ ≠ (s_.2.1 : Value).ownBlock ∧ k_ ≠ gb409 ∧ k_ ≠ gb410 ∧ k_ ≠ s_.2.2) (.slice A0_1 l0_1.length c0_1) l0_1) ∧ (Kd.V (Kd.int .u8) 5 w' w.heap.size (fun k_ => ((P0_1_ k_ ∨ P1_ k_) ∨ w.heap.size ≤ k_) ∧ some k_ ≠ (s_.1 : Value).ownBlock ∧ some k_ ≠ (s_.2.1 : Value).ownBlock ∧ k_ ≠ gb409 ∧ k_ ≠ gb410 ∧ k_ ≠ s_.2.2) (.slice A1 l1.length c1) l1) ∧ (Kd.N (Kd.slice 5 (Kd.int .u8)) 23 w' w.heap.size (fun k_ => ((P0_1_ k_ ∨ P1_ k_) ∨ w.heap.size ≤ k_) ∧ some k_ ≠ (s_.2.1 : Value).ownBlock ∧ k_ ≠ gb409 ∧ k_ ≠ gb410 ∧ k_ ≠ s_.2.2) s_.1 y411) ∧ (Kd.R (Kd.int .u8) 5 w' w.heap.size (fun k_ => (w.heap.size ≤ k_)) s_.2.1 t414) ∧ (w'.heap[gb409]? = some (.cells #[.int .i64 a0_0, .slice A0_1 l0_1.length c0_1, .bool a0_2] 46 (0, 0))) ∧ (w'.heap[gb410]? = some (.cells #[.int .i64 0, .slice none 0 0, .bool false] 46 (0, 0))) ∧ (w'.heap[s_.2.2]? = some (.cells #[.int .i64 0, .slice none 0 0, .bool false] 46 (0, 0))) ∧ (w.heap.size ≤ s_.2.2) ∧ (w.heap.size ≤ s_.2.2) ∧ (gb409 ≠ s_.2.2) ∧ (s_.2.2 ≠ gb409) ∧ (gb410 ≠ s_.2.2) ∧ (s_.2.2 ≠ gb410) ∧ (Below w.heap.size w w')) ?_ ?_
 rotate_left
 ·intro hCont
  refine two_ (i := 4) (j := 9) (Ni := some 17) (Nj := some 6) #[true, true, true, true, true, false, true, true, false, false, false] #[true, true, true, true, false, false, true, true, false, true, false] rfl rfl rfl rfl (two_of HT_.out (by kernel_rfl)) (by decide) (by decide) (fun K hK => ?_) (fun K hK => ?_)
  ·skip
   refine Kd.N_lit_step (Kd.slice 5 (Kd.int .u8)) _ 23 ?hg (N' := 17) ?hd (xs := ([l0_1] : List (List Int))) (inner := [.slice A0_1 l0_1.length c0_1]) (ok := (fun k_ => ((P0_1_ k_ ∨ P1_ k_) ∨ w.heap.size ≤ k_) ∧ k_ ≠ gb409 ∧ k_ ≠ gb410)) (okp := (fun k_ => ((P0_1_ k_ ∨ P1_ k_) ∨ w.heap.size ≤ k_) ∧ k_ ≠ gb409 ∧ k_ ≠ gb410)) ?hr ?hp (fun _ hk => hk) ((show ∀ k_, w7.heap.size ≤ k_ → (fun k_ => ((P0_1_ k_ ∨ P1_ k_) ∨ w.heap.size ≤ k_) ∧ k_ ≠ gb409 ∧ k_ ≠ gb410) k_ from fun k_ hk => ⟨(.inr (Nat.le_trans (below_size hs_) hk)), Kd.freshB (g := gb409) (o := .cells #[.int .i64 a0_0, .slice A0_1 l0_1.length c0_1, .bool a0_2] 46 (0, 0)) (kb_ BK409) k_ hk, Kd.freshB (g := gb410) (o := .cells #[.int .i64 0, .slice none 0 0, .bool false] 46 (0, 0)) (kb_ BK410) k_ hk⟩) _ (Nat.le_refl _)) (Below.refl _ _) (Nat.le_refl _) (by simp) ?_; (case hd => rfl); (case hg => rfl); (case hr => first | (go_simp; done) | (go_simp; rfl)); (case hp => exact (Reps.one (show Kd.FK (Kd.slice 5 (Kd.int .u8)) _ _ l0_1 [.slice A0_1 l0_1.length c0_1] from (Kd.FK_slice_mk (Kd.V_reads' (Kd.V_mono (ok' := (fun k_ => ((P0_1_ k_ ∨ P1_ k_) ∨ w.heap.size ≤ k_) ∧ k_ ≠ gb409 ∧ k_ ≠ gb410)) (HO0_1.out) (fun k_ hk => ⟨hk.1.1, ⟨hk.1.2, hk.2⟩⟩))).2.1 (Kd.V_F (Kd.V_mono (ok' := (fun k_ => ((P0_1_ k_ ∨ P1_ k_) ∨ w.heap.size ≤ k_) ∧ k_ ≠ gb409 ∧ k_ ≠ gb410)) (HO0_1.out) (fun k_ hk => ⟨hk.1.1, ⟨hk.1.2, hk.2⟩⟩))))) (Reps.none _ _)))
   intro v412 w8 ho9 hb hg_ hnew_
   clear hg_ hnew_
   (first | rw [← Ny411.out] at ho9 | (simp only [Int.reduceToNat] at ho9; rw [← Ny411.out] at ho9))
   have n0_ := Aside0.mk (Kd.V_elder' (by (with_reducible repeat (first | apply Kd.V_alloc | apply Kd.V_drewN | apply Kd.V_drew)); exact HO0_1.out) (Kd.N_base ho9) hb)
   have n1_ := Aside0.mk (Kd.V_elder' (by (with_reducible repeat (first | apply Kd.V_alloc | apply Kd.V_drewN | apply Kd.V_drew)); exact HO1.out) (Kd.N_base ho9) hb)
   have n2_ := Aside0.mk (Kd.N_lower ho9 (below_size hs_))
   have n3_ := Aside0.mk (blk_below (g := gb409) (o := .cells #[.int .i64 a0_0, .slice A0_1 l0_1.length c0_1, .bool a0_2] 46 (0, 0)) (kb_ BK409) hb)
   have n4_ := Aside0.mk (blk_below (g := gb410) (o := .cells #[.int .i64 0, .slice none 0 0, .bool false] 46 (0, 0)) (kb_ BK410) hb)
   have n5_ := Aside0.mk (below_step hs_ hb)
   clear HO0_1
   clear HO1
   clear BK409
   clear BK410
   clear HB
   have HO0_1 := n0_
   have HO1 := n1_
   have HO413 := n2_
   have BK409 := n3_
   have BK410 := n4_
   have HB := n5_
   clear n0_ n1_ n2_ n3_ n4_ n5_
   clear hb ho9
   obtain ⟨Ao10, co10, eo10⟩ := Kd.N_slice HO413.out
   (first | subst eo10 | (injection eo10 with f1_ f2_ f3_; have f4_ := f1_.symm; have f5_ := f3_.symm; clear f1_ f2_ f3_; subst f4_; subst f5_))
   refine hK.out _ _ ⟨(blk_cell BK409.out 0).trans rfl, (blk_cell BK409.out 1).trans rfl, (blk_cell BK409.out 2).trans rfl⟩ (fun hHeld => ?_)
   clear hK K
   refine norm_ (a' := ?_) ?_ ?_
   rotate_left
   ·show Act.put _ (some 17) _ = _
    simp only [Act.put, List.setIfInBounds_toArray, List.set_cons_zero, List.set_cons_succ, i64_w, i32_w]
    rfl
   refine two_ (i := 5) (j := 9) (Ni := some 18) (Nj := some 6) #[true, true, true, true, true, true, true, true, false, false, false] #[true, true, true, true, true, false, true, true, false, true, false] rfl rfl rfl rfl (two_of HT_.out (by kernel_rfl)) (by decide) (by decide) (fun K hK => ?_) (fun K hK => ?_)
   ·skip
    refine goes_ Tryd.func81 (by kernel_rfl) rfl #[.slice Ao10 y411.length co10] (by rfl) rfl rfl ka_ ?_
    with_reducible refine (impl_joined.calls k _ _ y411 t414 _ ?side1 ?side2 A3.out).mono ?_
    (case side1 => repeat (first | exact (Kd.N_reads' HO413.out).2.2 | (with_reducible refine Kd.C_alloc ?_ _) | (with_reducible refine Kd.C_drewN ?_ _) | (with_reducible refine Kd.C_drew ?_)))
    (case side2 => exact (Kd.N_reads' HO413.out).2.1)
    rintro e w11 ⟨v415, rfl, ho0, hb⟩
    refine ⟨_, rfl, ?_⟩
    have n0_ := Aside0.mk (Kd.V_elder' (by (with_reducible repeat (first | apply Kd.V_alloc | apply Kd.V_drewN | apply Kd.V_drew)); exact HO0_1.out) (Kd.R_base ho0) hb)
    have n1_ := Aside0.mk (Kd.V_elder' (by (with_reducible repeat (first | apply Kd.V_alloc | apply Kd.V_drewN | apply Kd.V_drew)); exact HO1.out) (Kd.R_base ho0) hb)
    have n2_ := Aside0.mk (Kd.N_elder' (by (with_reducible repeat (first | apply Kd.N_alloc | apply Kd.N_drewN | apply Kd.N_drew)); exact HO413.out) (Kd.R_base ho0) hb)
    have n3_ := Aside0.mk (Kd.R_lower (Kd.R_newM (M := fun k_ => (w.heap.size ≤ k_)) ho0 (below_size hs_) (fun k_ h_ => h_)) (below_size hs_))
    have n4_ := Aside0.mk (blk_below (g := gb409) (o := .cells #[.int .i64 a0_0, .slice A0_1 l0_1.length c0_1, .bool a0_2] 46 (0, 0)) (kb_ BK409) hb)
    have n5_ := Aside0.mk (blk_below (g := gb410) (o := .cells #[.int .i64 0, .slice none 0 0, .bool false] 46 (0, 0)) (kb_ BK410) hb)
    have n6_ := Aside0.mk (below_step hs_ hb)
    clear HO0_1
    clear HO1
    clear HO413
    clear BK409
    clear BK410
    clear HB
    have HO0_1 := n0_
    have HO1 := n1_
    have HO413 := n2_
    have HO416 := n3_
    have BK409 := n4_
    have BK410 := n5_
    have HB := n6_
    clear n0_ n1_ n2_ n3_ n4_ n5_ n6_
    (try clear hb)
    (try clear hb2)
    (try clear hk)
    (try clear hi)
    (try clear ho0)
    obtain ⟨Ao12, co12, eo12⟩ := Kd.R_slice HO416.out
    (first | subst eo12 | (injection eo12 with f1_ f2_ f3_; have f4_ := f1_.symm; have f5_ := f3_.symm; clear f1_ f2_ f3_; subst f4_; subst f5_))
    refine hK.out _ _ ⟨(blk_cell BK409.out 0).trans rfl, (blk_cell BK409.out 1).trans rfl, (blk_cell BK409.out 2).trans rfl⟩ (fun hHeld => ?_)
    clear hK K
    refine norm_ (a' := ?_) ?_ ?_
    rotate_left
    ·show Act.put _ (some 18) _ = _
     simp only [Act.put, List.setIfInBounds_toArray, List.set_cons_zero, List.set_cons_succ, i64_w, i32_w]
     rfl
    refine pure_ (i := 8) (N := some 21) (v := ?_) (a' := ?_) #[true, true, true, true, true, true, true, true, true, false, false] rfl rfl (any_of HT_.out (by kernel_rfl)) (fun _ _ _ h => h) (Or.inl ⟨by rfl, ?_⟩) ?_ ?_
    rotate_left
    ·intro w'
     go_simp
     with_reducible rfl
    rotate_left
    ·simp only [Act.put, List.setIfInBounds_toArray, List.set_cons_zero, List.set_cons_succ, i64_w, i32_w]
     rfl
    refine one_ (i := 9) (N := some 6) #[true, true, true, true, true, true, true, true, true, true, false] rfl rfl (one_of HT_.out (by kernel_rfl)) (by decide) (fun K hK => ?_)
    refine box_step ?hg (N := 6) ?hd (cs := #[.int .i64 0, .slice none 0 0, .bool false]) (t := 46) ?hr ?_; (case hd => rfl); (case hg => rfl); (case hr => first | (go_simp; done) | (go_simp; rfl))
    intro gb417 hg w13 hbox hb
    have n0_ := Aside0.mk (Kd.V_below (Kd.V_elderB (by (with_reducible repeat (first | apply Kd.V_alloc | apply Kd.V_drewN | apply Kd.V_drew)); exact HO0_1.out) gb417 (Nat.le_of_eq hg.symm)) hb)
    have n1_ := Aside0.mk (Kd.V_below (Kd.V_elderB (by (with_reducible repeat (first | apply Kd.V_alloc | apply Kd.V_drewN | apply Kd.V_drew)); exact HO1.out) gb417 (Nat.le_of_eq hg.symm)) hb)
    have n2_ := Aside0.mk (Kd.N_below (Kd.N_elderB (by (with_reducible repeat (first | apply Kd.N_alloc | apply Kd.N_drewN | apply Kd.N_drew)); exact HO413.out) gb417 (Nat.le_of_eq hg.symm)) hb)
    have n3_ := Aside0.mk (Kd.R_below (kr_ HO416) hb)
    have n4_ := Aside0.mk (blk_below (g := gb409) (o := .cells #[.int .i64 a0_0, .slice A0_1 l0_1.length c0_1, .bool a0_2] 46 (0, 0)) (kb_ BK409) hb)
    have n5_ := Aside0.mk (blk_below (g := gb410) (o := .cells #[.int .i64 0, .slice none 0 0, .bool false] 46 (0, 0)) (kb_ BK410) hb)
    have n6_ := Aside0.mk (below_step hs_ hb)
    have n7_ := Aside0.mk (hbox)
    have n8_ := Aside0.mk ((by rw [hg]; exact (below_size hs_) : w.heap.size ≤ gb417))
    have n9_ := Aside0.mk ((by rw [hg]; exact (below_size hs_) : w.heap.size ≤ gb417))
    have n10_ := Aside0.mk ((by rw [hg]; exact Nat.ne_of_lt (blk_lt (g := gb409) (o := .cells #[.int .i64 a0_0, .slice A0_1 l0_1.length c0_1, .bool a0_2] 46 (0, 0)) (kb_ BK409)) : gb409 ≠ gb417))
    have n11_ := Aside0.mk ((by rw [hg]; exact Nat.ne_of_gt (blk_lt (g := gb409) (o := .cells #[.int .i64 a0_0, .slice A0_1 l0_1.length c0_1, .bool a0_2] 46 (0, 0)) (kb_ BK409)) : gb417 ≠ gb409))
    have n12_ := Aside0.mk ((by rw [hg]; exact Nat.ne_of_lt (blk_lt (g := gb410) (o := .cells #[.int .i64 0, .slice none 0 0, .bool false] 46 (0, 0)) (kb_ BK410)) : gb410 ≠ gb417))
    have n13_ := Aside0.mk ((by rw [hg]; exact Nat.ne_of_gt (blk_lt (g := gb410) (o := .cells #[.int .i64 0, .slice none 0 0, .bool false] 46 (0, 0)) (kb_ BK410)) : gb417 ≠ gb410))
    clear HO0_1
    clear HO1
    clear HO413
    clear HO416
    clear BK409
    clear BK410
    clear HB
    have HO0_1 := n0_
    have HO1 := n1_
    have HO413 := n2_
    have HO416 := n3_
    have BK409 := n4_
    have BK410 := n5_
    have HB := n6_
    have BK417 := n7_
    have GW417 := n8_
    have GE417 := n9_
    have NB409_417 := n10_
    have NB417_409 := n11_
    have NB410_417 := n12_
    have NB417_410 := n13_
    clear n0_ n1_ n2_ n3_ n4_ n5_ n6_ n7_ n8_ n9_ n10_ n11_ n12_ n13_
    clear hb hbox hg
    refine hK.out _ _ ⟨(blk_cell BK409.out 0).trans rfl, (blk_cell BK409.out 1).trans rfl, (blk_cell BK409.out 2).trans rfl⟩ (fun hHeld => ?_)
    clear hK K
    refine norm_ (a' := ?_) ?_ ?_
    rotate_left
    ·show Act.put _ (some 6) _ = _
     simp only [Act.put, List.setIfInBounds_toArray, List.set_cons_zero, List.set_cons_succ, i64_w, i32_w]
     rfl
    exact norm_ (by simp only [putAll, Act.put, List.setIfInBounds_toArray, List.set_cons_zero, List.set_cons_succ]) (hCont (.slice Ao10 y411.length co10, .slice Ao12 t414.length co12, gb417) _ ⟨hHeld, (by (with_reducible repeat (first | apply Kd.V_alloc | apply Kd.V_drewN | apply Kd.V_drew)); exact Kd.V_mono HO0_1.out (fun _ hk => ⟨hk.1.1.1.1.1, ⟨hk.1.1.2, ⟨hk.1.2, ⟨hk.1.1.1.1.2, ⟨hk.1.1.1.2, hk.2⟩⟩⟩⟩⟩)), (by (with_reducible repeat (first | apply Kd.V_alloc | apply Kd.V_drewN | apply Kd.V_drew)); exact Kd.V_mono HO1.out (fun _ hk => ⟨hk.1.1.1.1.1, ⟨hk.1.1.2, ⟨hk.1.2, ⟨hk.1.1.1.1.2, ⟨hk.1.1.1.2, hk.2⟩⟩⟩⟩⟩)), (by (with_reducible repeat (first | apply Kd.N_alloc | apply Kd.N_drewN | apply Kd.N_drew)); exact Kd.N_mono HO413.out (fun _ hk => ⟨hk.1.1.1, ⟨hk.1.2, ⟨hk.1.1.2.1, ⟨hk.1.1.2.2, hk.2⟩⟩⟩⟩)), (by (with_reducible repeat (first | apply Kd.R_alloc | apply Kd.R_drewN | apply Kd.R_drew)); exact Kd.R_mono HO416.out (fun _ hk => hk.1)), (kb_ BK409), (kb_ BK410), (kb_ BK417), GW417.out, GE417.out, NB409_417.out, NB417_409.out, NB410_417.out, NB417_410.out, hs_⟩)
   ·skip
    refine box_step ?hg (N := 6) ?hd (cs := #[.int .i64 0, .slice none 0 0, .bool false]) (t := 46) ?hr ?_; (case hd => rfl); (case hg => rfl); (case hr => first | (go_simp; done) | (go_simp; rfl))
    intro gb417 hg w10 hbox hb
    have n0_ := Aside0.mk (Kd.V_below (Kd.V_elderB (by (with_reducible repeat (first | apply Kd.V_alloc | apply Kd.V_drewN | apply Kd.V_drew)); exact HO0_1.out) gb417 (Nat.le_of_eq hg.symm)) hb)
    have n1_ := Aside0.mk (Kd.V_below (Kd.V_elderB (by (with_reducible repeat (first | apply Kd.V_alloc | apply Kd.V_drewN | apply Kd.V_drew)); exact HO1.out) gb417 (Nat.le_of_eq hg.symm)) hb)
    have n2_ := Aside0.mk (Kd.N_below (Kd.N_elderB (by (with_reducible repeat (first | apply Kd.N_alloc | apply Kd.N_drewN | apply Kd.N_drew)); exact HO413.out) gb417 (Nat.le_of_eq hg.symm)) hb)
    have n3_ := Aside0.mk (blk_below (g := gb409) (o := .cells #[.int .i64 a0_0, .slice A0_1 l0_1.length c0_1, .bool a0_2] 46 (0, 0)) (kb_ BK409) hb)
    have n4_ := Aside0.mk (blk_below (g := gb410) (o := .cells #[.int .i64 0, .slice none 0 0, .bool false] 46 (0, 0)) (kb_ BK410) hb)
    have n5_ := Aside0.mk (below_step hs_ hb)
    have n6_ := Aside0.mk (hbox)
    have n7_ := Aside0.mk ((by rw [hg]; exact (below_size hs_) : w.heap.size ≤ gb417))
    have n8_ := Aside0.mk ((by rw [hg]; exact (below_size hs_) : w.heap.size ≤ gb417))
    have n9_ := Aside0.mk ((by rw [hg]; exact Nat.ne_of_lt (blk_lt (g := gb409) (o := .cells #[.int .i64 a0_0, .slice A0_1 l0_1.length c0_1, .bool a0_2] 46 (0, 0)) (kb_ BK409)) : gb409 ≠ gb417))
    have n10_ := Aside0.mk ((by rw [hg]; exact Nat.ne_of_gt (blk_lt (g := gb409) (o := .cells #[.int .i64 a0_0, .slice A0_1 l0_1.length c0_1, .bool a0_2] 46 (0, 0)) (kb_ BK409)) : gb417 ≠ gb409))
    have n11_ := Aside0.mk ((by rw [hg]; exact Nat.ne_of_lt (blk_lt (g := gb410) (o := .cells #[.int .i64 0, .slice none 0 0, .bool false] 46 (0, 0)) (kb_ BK410)) : gb410 ≠ gb417))
    have n12_ := Aside0.mk ((by rw [hg]; exact Nat.ne_of_gt (blk_lt (g := gb410) (o := .cells #[.int .i64 0, .slice none 0 0, .bool false] 46 (0, 0)) (kb_ BK410)) : gb417 ≠ gb410))
    clear HO0_1
    clear HO1
    clear HO413
    clear BK409
    clear BK410
    clear HB
    have HO0_1 := n0_
    have HO1 := n1_
    have HO413 := n2_
    have BK409 := n3_
    have BK410 := n4_
    have HB := n5_
    have BK417 := n6_
    have GW417 := n7_
    have GE417 := n8_
    have NB409_417 := n9_
    have NB417_409 := n10_
    have NB410_417 := n11_
    have NB417_410 := n12_
    clear n0_ n1_ n2_ n3_ n4_ n5_ n6_ n7_ n8_ n9_ n10_ n11_ n12_
    clear hb hbox hg
    obtain ⟨Ao11, co11, eo11⟩ := Kd.N_slice HO413.out
    (first | subst eo11 | (injection eo11 with f1_ f2_ f3_; have f4_ := f1_.symm; have f5_ := f3_.symm; clear f1_ f2_ f3_; subst f4_; subst f5_))
    refine hK.out _ _ ⟨(blk_cell BK409.out 0).trans rfl, (blk_cell BK409.out 1).trans rfl, (blk_cell BK409.out 2).trans rfl⟩ (fun hHeld => ?_)
    clear hK K
    refine norm_ (a' := ?_) ?_ ?_
    rotate_left
    ·show Act.put _ (some 6) _ = _
     simp only [Act.put, List.setIfInBounds_toArray, List.set_cons_zero, List.set_cons_succ, i64_w, i32_w]
     rfl
    refine one_ (i := 5) (N := some 18) #[true, true, true, true, true, true, true, true, false, true, false] rfl rfl (one_of HT_.out (by kernel_rfl)) (by decide) (fun K hK => ?_)
    refine goes_ Tryd.func81 (by kernel_rfl) rfl #[.slice Ao11 y411.length co11] (by rfl) rfl rfl ka_ ?_
    with_reducible refine (impl_joined.calls k _ _ y411 t414 _ ?side1 ?side2 A3.out).mono ?_
    (case side1 => repeat (first | exact (Kd.N_reads' HO413.out).2.2 | (with_reducible refine Kd.C_alloc ?_ _) | (with_reducible refine Kd.C_drewN ?_ _) | (with_reducible refine Kd.C_drew ?_)))
    (case side2 => exact (Kd.N_reads' HO413.out).2.1)
    rintro e w12 ⟨v415, rfl, ho0, hb⟩
    refine ⟨_, rfl, ?_⟩
    have n0_ := Aside0.mk (Kd.V_elder' (by (with_reducible repeat (first | apply Kd.V_alloc | apply Kd.V_drewN | apply Kd.V_drew)); exact HO0_1.out) (Kd.R_base ho0) hb)
    have n1_ := Aside0.mk (Kd.V_elder' (by (with_reducible repeat (first | apply Kd.V_alloc | apply Kd.V_drewN | apply Kd.V_drew)); exact HO1.out) (Kd.R_base ho0) hb)
    have n2_ := Aside0.mk (Kd.N_elder' (by (with_reducible repeat (first | apply Kd.N_alloc | apply Kd.N_drewN | apply Kd.N_drew)); exact HO413.out) (Kd.R_base ho0) hb)
    have n3_ := Aside0.mk (Kd.R_lower (Kd.R_newM (M := fun k_ => (w.heap.size ≤ k_)) ho0 (below_size hs_) (fun k_ h_ => h_)) (below_size hs_))
    have n4_ := Aside0.mk (blk_below (g := gb409) (o := .cells #[.int .i64 a0_0, .slice A0_1 l0_1.length c0_1, .bool a0_2] 46 (0, 0)) (kb_ BK409) hb)
    have n5_ := Aside0.mk (blk_below (g := gb410) (o := .cells #[.int .i64 0, .slice none 0 0, .bool false] 46 (0, 0)) (kb_ BK410) hb)
    have n6_ := Aside0.mk (blk_below (g := gb417) (o := .cells #[.int .i64 0, .slice none 0 0, .bool false] 46 (0, 0)) (kb_ BK417) hb)
    have n7_ := Aside0.mk (below_step hs_ hb)
    clear HO0_1
    clear HO1
    clear HO413
    clear BK409
    clear BK410
    clear BK417
    clear HB
    have HO0_1 := n0_
    have HO1 := n1_
    have HO413 := n2_
    have HO416 := n3_
    have BK409 := n4_
    have BK410 := n5_
    have BK417 := n6_
    have HB := n7_
    clear n0_ n1_ n2_ n3_ n4_ n5_ n6_ n7_
    (try clear hb)
    (try clear hb2)
    (try clear hk)
    (try clear hi)
    (try clear ho0)
    obtain ⟨Ao13, co13, eo13⟩ := Kd.R_slice HO416.out
    (first | subst eo13 | (injection eo13 with f1_ f2_ f3_; have f4_ := f1_.symm; have f5_ := f3_.symm; clear f1_ f2_ f3_; subst f4_; subst f5_))
    refine hK.out _ _ ⟨(blk_cell BK409.out 0).trans rfl, (blk_cell BK409.out 1).trans rfl, (blk_cell BK409.out 2).trans rfl⟩ (fun hHeld => ?_)
    clear hK K
    refine norm_ (a' := ?_) ?_ ?_
    rotate_left
    ·show Act.put _ (some 18) _ = _
     simp only [Act.put, List.setIfInBounds_toArray, List.set_cons_zero, List.set_cons_succ, i64_w, i32_w]
     rfl
    refine pure_ (i := 8) (N := some 21) (v := ?_) (a' := ?_) #[true, true, true, true, true, true, true, true, true, true, false] rfl rfl (any_of HT_.out (by kernel_rfl)) (fun _ _ _ h => h) (Or.inl ⟨by rfl, ?_⟩) ?_ ?_
    rotate_left
    ·intro w'
     go_simp
     with_reducible rfl
    rotate_left
    ·simp only [Act.put, List.setIfInBounds_toArray, List.set_cons_zero, List.set_cons_succ, i64_w, i32_w]
     rfl
    exact norm_ (by simp only [putAll, Act.put, List.setIfInBounds_toArray, List.set_cons_zero, List.set_cons_succ]) (hCont (.slice Ao11 y411.length co11, .slice Ao13 t414.length co13, gb417) _ ⟨hHeld, (by (with_reducible repeat (first | apply Kd.V_alloc | apply Kd.V_drewN | apply Kd.V_drew)); exact Kd.V_mono HO0_1.out (fun _ hk => ⟨hk.1.1.1.1.1, ⟨hk.1.1.2, ⟨hk.2, ⟨hk.1.1.1.1.2, ⟨hk.1.1.1.2, hk.1.2⟩⟩⟩⟩⟩)), (by (with_reducible repeat (first | apply Kd.V_alloc | apply Kd.V_drewN | apply Kd.V_drew)); exact Kd.V_mono HO1.out (fun _ hk => ⟨hk.1.1.1.1.1, ⟨hk.1.1.2, ⟨hk.2, ⟨hk.1.1.1.1.2, ⟨hk.1.1.1.2, hk.1.2⟩⟩⟩⟩⟩)), (by (with_reducible repeat (first | apply Kd.N_alloc | apply Kd.N_drewN | apply Kd.N_drew)); exact Kd.N_mono HO413.out (fun _ hk => ⟨hk.1.1.1, ⟨hk.2, ⟨hk.1.1.2.1, ⟨hk.1.1.2.2, hk.1.2⟩⟩⟩⟩)), (by (with_reducible repeat (first | apply Kd.R_alloc | apply Kd.R_drewN | apply Kd.R_drew)); exact Kd.R_mono HO416.out (fun _ hk => hk.1)), (kb_ BK409), (kb_ BK410), (kb_ BK417), GW417.out, GE417.out, NB409_417.out, NB417_409.out, NB410_417.out, NB417_410.out, hs_⟩)
  ·skip
   refine box_step ?hg (N := 6) ?hd (cs := #[.int .i64 0, .slice none 0 0, .bool false]) (t := 46) ?hr ?_; (case hd => rfl); (case hg => rfl); (case hr => first | (go_simp; done) | (go_simp; rfl))
   intro gb417 hg w8 hbox hb
   have n0_ := Aside0.mk (Kd.V_below (Kd.V_elderB (by (with_reducible repeat (first | apply Kd.V_alloc | apply Kd.V_drewN | apply Kd.V_drew)); exact HO0_1.out) gb417 (Nat.le_of_eq hg.symm)) hb)
   have n1_ := Aside0.mk (Kd.V_below (Kd.V_elderB (by (with_reducible repeat (first | apply Kd.V_alloc | apply Kd.V_drewN | apply Kd.V_drew)); exact HO1.out) gb417 (Nat.le_of_eq hg.symm)) hb)
   have n2_ := Aside0.mk (blk_below (g := gb409) (o := .cells #[.int .i64 a0_0, .slice A0_1 l0_1.length c0_1, .bool a0_2] 46 (0, 0)) (kb_ BK409) hb)
   have n3_ := Aside0.mk (blk_below (g := gb410) (o := .cells #[.int .i64 0, .slice none 0 0, .bool false] 46 (0, 0)) (kb_ BK410) hb)
   have n4_ := Aside0.mk (below_step hs_ hb)
   have n5_ := Aside0.mk (hbox)
   have n6_ := Aside0.mk ((by rw [hg]; exact (below_size hs_) : w.heap.size ≤ gb417))
   have n7_ := Aside0.mk ((by rw [hg]; exact (below_size hs_) : w.heap.size ≤ gb417))
   have n8_ := Aside0.mk ((by rw [hg]; exact Nat.ne_of_lt (blk_lt (g := gb409) (o := .cells #[.int .i64 a0_0, .slice A0_1 l0_1.length c0_1, .bool a0_2] 46 (0, 0)) (kb_ BK409)) : gb409 ≠ gb417))
   have n9_ := Aside0.mk ((by rw [hg]; exact Nat.ne_of_gt (blk_lt (g := gb409) (o := .cells #[.int .i64 a0_0, .slice A0_1 l0_1.length c0_1, .bool a0_2] 46 (0, 0)) (kb_ BK409)) : gb417 ≠ gb409))
   have n10_ := Aside0.mk ((by rw [hg]; exact Nat.ne_of_lt (blk_lt (g := gb410) (o := .cells #[.int .i64 0, .slice none 0 0, .bool false] 46 (0, 0)) (kb_ BK410)) : gb410 ≠ gb417))
   have n11_ := Aside0.mk ((by rw [hg]; exact Nat.ne_of_gt (blk_lt (g := gb410) (o := .cells #[.int .i64 0, .slice none 0 0, .bool false] 46 (0, 0)) (kb_ BK410)) : gb417 ≠ gb410))
   clear HO0_1
   clear HO1
   clear BK409
   clear BK410
   clear HB
   have HO0_1 := n0_
   have HO1 := n1_
   have BK409 := n2_
   have BK410 := n3_
   have HB := n4_
   have BK417 := n5_
   have GW417 := n6_
   have GE417 := n7_
   have NB409_417 := n8_
   have NB417_409 := n9_
   have NB410_417 := n10_
   have NB417_410 := n11_
   clear n0_ n1_ n2_ n3_ n4_ n5_ n6_ n7_ n8_ n9_ n10_ n11_
   clear hb hbox hg
   refine hK.out _ _ ⟨(blk_cell BK409.out 0).trans rfl, (blk_cell BK409.out 1).trans rfl, (blk_cell BK409.out 2).trans rfl⟩ (fun hHeld => ?_)
   clear hK K
   refine norm_ (a' := ?_) ?_ ?_
   rotate_left
   ·show Act.put _ (some 6) _ = _
    simp only [Act.put, List.setIfInBounds_toArray, List.set_cons_zero, List.set_cons_succ, i64_w, i32_w]
    rfl
   refine one_ (i := 4) (N := some 17) #[true, true, true, true, true, false, true, true, false, true, false] rfl rfl (one_of HT_.out (by kernel_rfl)) (by decide) (fun K hK => ?_)
   refine Kd.N_lit_step (Kd.slice 5 (Kd.int .u8)) _ 23 ?hg (N' := 17) ?hd (xs := ([l0_1] : List (List Int))) (inner := [.slice A0_1 l0_1.length c0_1]) (ok := (fun k_ => ((P0_1_ k_ ∨ P1_ k_) ∨ w.heap.size ≤ k_) ∧ k_ ≠ gb409 ∧ k_ ≠ gb410 ∧ k_ ≠ gb417)) (okp := (fun k_ => ((P0_1_ k_ ∨ P1_ k_) ∨ w.heap.size ≤ k_) ∧ k_ ≠ gb409 ∧ k_ ≠ gb410 ∧ k_ ≠ gb417)) ?hr ?hp (fun _ hk => hk) ((show ∀ k_, w8.heap.size ≤ k_ → (fun k_ => ((P0_1_ k_ ∨ P1_ k_) ∨ w.heap.size ≤ k_) ∧ k_ ≠ gb409 ∧ k_ ≠ gb410 ∧ k_ ≠ gb417) k_ from fun k_ hk => ⟨(.inr (Nat.le_trans (below_size hs_) hk)), Kd.freshB (g := gb409) (o := .cells #[.int .i64 a0_0, .slice A0_1 l0_1.length c0_1, .bool a0_2] 46 (0, 0)) (kb_ BK409) k_ hk, Kd.freshB (g := gb410) (o := .cells #[.int .i64 0, .slice none 0 0, .bool false] 46 (0, 0)) (kb_ BK410) k_ hk, Kd.freshB (g := gb417) (o := .cells #[.int .i64 0, .slice none 0 0, .bool false] 46 (0, 0)) (kb_ BK417) k_ hk⟩) _ (Nat.le_refl _)) (Below.refl _ _) (Nat.le_refl _) (by simp) ?_; (case hd => rfl); (case hg => rfl); (case hr => first | (go_simp; done) | (go_simp; rfl)); (case hp => exact (Reps.one (show Kd.FK (Kd.slice 5 (Kd.int .u8)) _ _ l0_1 [.slice A0_1 l0_1.length c0_1] from (Kd.FK_slice_mk (Kd.V_reads' (Kd.V_mono (ok' := (fun k_ => ((P0_1_ k_ ∨ P1_ k_) ∨ w.heap.size ≤ k_) ∧ k_ ≠ gb409 ∧ k_ ≠ gb410 ∧ k_ ≠ gb417)) (HO0_1.out) (fun k_ hk => ⟨hk.1.1.1, ⟨hk.1.1.2, ⟨hk.1.2, hk.2⟩⟩⟩))).2.1 (Kd.V_F (Kd.V_mono (ok' := (fun k_ => ((P0_1_ k_ ∨ P1_ k_) ∨ w.heap.size ≤ k_) ∧ k_ ≠ gb409 ∧ k_ ≠ gb410 ∧ k_ ≠ gb417)) (HO0_1.out) (fun k_ hk => ⟨hk.1.1.1, ⟨hk.1.1.2, ⟨hk.1.2, hk.2⟩⟩⟩))))) (Reps.none _ _)))
   intro v412 w9 ho10 hb hg_ hnew_
   clear hg_ hnew_
   (first | rw [← Ny411.out] at ho10 | (simp only [Int.reduceToNat] at ho10; rw [← Ny411.out] at ho10))
   have n0_ := Aside0.mk (Kd.V_elder' (by (with_reducible repeat (first | apply Kd.V_alloc | apply Kd.V_drewN | apply Kd.V_drew)); exact HO0_1.out) (Kd.N_base ho10) hb)
   have n1_ := Aside0.mk (Kd.V_elder' (by (with_reducible repeat (first | apply Kd.V_alloc | apply Kd.V_drewN | apply Kd.V_drew)); exact HO1.out) (Kd.N_base ho10) hb)
   have n2_ := Aside0.mk (Kd.N_lower ho10 (below_size hs_))
   have n3_ := Aside0.mk (blk_below (g := gb409) (o := .cells #[.int .i64 a0_0, .slice A0_1 l0_1.length c0_1, .bool a0_2] 46 (0, 0)) (kb_ BK409) hb)
   have n4_ := Aside0.mk (blk_below (g := gb410) (o := .cells #[.int .i64 0, .slice none 0 0, .bool false] 46 (0, 0)) (kb_ BK410) hb)
   have n5_ := Aside0.mk (blk_below (g := gb417) (o := .cells #[.int .i64 0, .slice none 0 0, .bool false] 46 (0, 0)) (kb_ BK417) hb)
   have n6_ := Aside0.mk (below_step hs_ hb)
   clear HO0_1
   clear HO1
   clear BK409
   clear BK410
   clear BK417
   clear HB
   have HO0_1 := n0_
   have HO1 := n1_
   have HO413 := n2_
   have BK409 := n3_
   have BK410 := n4_
   have BK417 := n5_
   have HB := n6_
   clear n0_ n1_ n2_ n3_ n4_ n5_ n6_
   clear hb ho10
   obtain ⟨Ao11, co11, eo11⟩ := Kd.N_slice HO413.out
   (first | subst eo11 | (injection eo11 with f1_ f2_ f3_; have f4_ := f1_.symm; have f5_ := f3_.symm; clear f1_ f2_ f3_; subst f4_; subst f5_))
   refine hK.out _ _ ⟨(blk_cell BK409.out 0).trans rfl, (blk_cell BK409.out 1).trans rfl, (blk_cell BK409.out 2).trans rfl⟩ (fun hHeld => ?_)
   clear hK K
   refine norm_ (a' := ?_) ?_ ?_
   rotate_left
   ·show Act.put _ (some 17) _ = _
    simp only [Act.put, List.setIfInBounds_toArray, List.set_cons_zero, List.set_cons_succ, i64_w, i32_w]
    rfl
   refine one_ (i := 5) (N := some 18) #[true, true, true, true, true, true, true, true, false, true, false] rfl rfl (one_of HT_.out (by kernel_rfl)) (by decide) (fun K hK => ?_)
   refine goes_ Tryd.func81 (by kernel_rfl) rfl #[.slice Ao11 y411.length co11] (by rfl) rfl rfl ka_ ?_
   with_reducible refine (impl_joined.calls k _ _ y411 t414 _ ?side1 ?side2 A3.out).mono ?_
   (case side1 => repeat (first | exact (Kd.N_reads' HO413.out).2.2 | (with_reducible refine Kd.C_alloc ?_ _) | (with_reducible refine Kd.C_drewN ?_ _) | (with_reducible refine Kd.C_drew ?_)))
   (case side2 => exact (Kd.N_reads' HO413.out).2.1)
   rintro e w12 ⟨v415, rfl, ho0, hb⟩
   refine ⟨_, rfl, ?_⟩
   have n0_ := Aside0.mk (Kd.V_elder' (by (with_reducible repeat (first | apply Kd.V_alloc | apply Kd.V_drewN | apply Kd.V_drew)); exact HO0_1.out) (Kd.R_base ho0) hb)
   have n1_ := Aside0.mk (Kd.V_elder' (by (with_reducible repeat (first | apply Kd.V_alloc | apply Kd.V_drewN | apply Kd.V_drew)); exact HO1.out) (Kd.R_base ho0) hb)
   have n2_ := Aside0.mk (Kd.N_elder' (by (with_reducible repeat (first | apply Kd.N_alloc | apply Kd.N_drewN | apply Kd.N_drew)); exact HO413.out) (Kd.R_base ho0) hb)
   have n3_ := Aside0.mk (Kd.R_lower (Kd.R_newM (M := fun k_ => (w.heap.size ≤ k_)) ho0 (below_size hs_) (fun k_ h_ => h_)) (below_size hs_))
   have n4_ := Aside0.mk (blk_below (g := gb409) (o := .cells #[.int .i64 a0_0, .slice A0_1 l0_1.length c0_1, .bool a0_2] 46 (0, 0)) (kb_ BK409) hb)
   have n5_ := Aside0.mk (blk_below (g := gb410) (o := .cells #[.int .i64 0, .slice none 0 0, .bool false] 46 (0, 0)) (kb_ BK410) hb)
   have n6_ := Aside0.mk (blk_below (g := gb417) (o := .cells #[.int .i64 0, .slice none 0 0, .bool false] 46 (0, 0)) (kb_ BK417) hb)
   have n7_ := Aside0.mk (below_step hs_ hb)
   clear HO0_1
   clear HO1
   clear HO413
   clear BK409
   clear BK410
   clear BK417
   clear HB
   have HO0_1 := n0_
   have HO1 := n1_
   have HO413 := n2_
   have HO416 := n3_
   have BK409 := n4_
   have BK410 := n5_
   have BK417 := n6_
   have HB := n7_
   clear n0_ n1_ n2_ n3_ n4_ n5_ n6_ n7_
   (try clear hb)
   (try clear hb2)
   (try clear hk)
   (try clear hi)
   (try clear ho0)
   obtain ⟨Ao13, co13, eo13⟩ := Kd.R_slice HO416.out
   (first | subst eo13 | (injection eo13 with f1_ f2_ f3_; have f4_ := f1_.symm; have f5_ := f3_.symm; clear f1_ f2_ f3_; subst f4_; subst f5_))
   refine hK.out _ _ ⟨(blk_cell BK409.out 0).trans rfl, (blk_cell BK409.out 1).trans rfl, (blk_cell BK409.out 2).trans rfl⟩ (fun hHeld => ?_)
   clear hK K
   refine norm_ (a' := ?_) ?_ ?_
   rotate_left
   ·show Act.put _ (some 18) _ = _
    simp only [Act.put, List.setIfInBounds_toArray, List.set_cons_zero, List.set_cons_succ, i64_w, i32_w]
    rfl
   refine pure_ (i := 8) (N := some 21) (v := ?_) (a' := ?_) #[true, true, true, true, true, true, true, true, true, true, false] rfl rfl (any_of HT_.out (by kernel_rfl)) (fun _ _ _ h => h) (Or.inl ⟨by rfl, ?_⟩) ?_ ?_
   rotate_left
   ·intro w'
    go_simp
    with_reducible rfl
   rotate_left
   ·simp only [Act.put, List.setIfInBounds_toArray, List.set_cons_zero, List.set_cons_succ, i64_w, i32_w]
    rfl
   exact norm_ (by simp only [putAll, Act.put, List.setIfInBounds_toArray, List.set_cons_zero, List.set_cons_succ]) (hCont (.slice Ao11 y411.length co11, .slice Ao13 t414.length co13, gb417) _ ⟨hHeld, (by (with_reducible repeat (first | apply Kd.V_alloc | apply Kd.V_drewN | apply Kd.V_drew)); exact Kd.V_mono HO0_1.out (fun _ hk => ⟨hk.1.1.1.1.1, ⟨hk.1.2, ⟨hk.2, ⟨hk.1.1.1.1.2, ⟨hk.1.1.1.2, hk.1.1.2⟩⟩⟩⟩⟩)), (by (with_reducible repeat (first | apply Kd.V_alloc | apply Kd.V_drewN | apply Kd.V_drew)); exact Kd.V_mono HO1.out (fun _ hk => ⟨hk.1.1.1.1.1, ⟨hk.1.2, ⟨hk.2, ⟨hk.1.1.1.1.2, ⟨hk.1.1.1.2, hk.1.1.2⟩⟩⟩⟩⟩)), (by (with_reducible repeat (first | apply Kd.N_alloc | apply Kd.N_drewN | apply Kd.N_drew)); exact Kd.N_mono HO413.out (fun _ hk => ⟨hk.1.1, ⟨hk.2, ⟨hk.1.2.1, ⟨hk.1.2.2.1, hk.1.2.2.2⟩⟩⟩⟩)), (by (with_reducible repeat (first | apply Kd.R_alloc | apply Kd.R_drewN | apply Kd.R_drew)); exact Kd.R_mono HO416.out (fun _ hk => hk.1)), (kb_ BK409), (kb_ BK410), (kb_ BK417), GW417.out, GE417.out, NB409_417.out, NB417_409.out, NB410_417.out, NB417_410.out, hs_⟩)
 rintro ⟨v412, v415, gb417⟩ w14 ⟨hS_, h0_, h1_, h2_, h3_, h4_, h5_, h6_, h7_, h8_, h9_, h10_, h11_, h12_, h13_⟩
 have n0_ : Aside0 (Kd.V (Kd.int .u8) 5 w14 w.heap.size (fun k_ => ((P0_1_ k_ ∨ P1_ k_) ∨ w.heap.size ≤ k_) ∧ some k_ ≠ (v412 : Value).ownBlock ∧ some k_ ≠ (v415 : Value).ownBlock ∧ k_ ≠ gb409 ∧ k_ ≠ gb410 ∧ k_ ≠ gb417) (.slice A0_1 l0_1.length c0_1) l0_1) := ⟨h0_⟩
 have n1_ : Aside0 (Kd.V (Kd.int .u8) 5 w14 w.heap.size (fun k_ => ((P0_1_ k_ ∨ P1_ k_) ∨ w.heap.size ≤ k_) ∧ some k_ ≠ (v412 : Value).ownBlock ∧ some k_ ≠ (v415 : Value).ownBlock ∧ k_ ≠ gb409 ∧ k_ ≠ gb410 ∧ k_ ≠ gb417) (.slice A1 l1.length c1) l1) := ⟨h1_⟩
 have n2_ : Aside0 (Kd.N (Kd.slice 5 (Kd.int .u8)) 23 w14 w.heap.size (fun k_ => ((P0_1_ k_ ∨ P1_ k_) ∨ w.heap.size ≤ k_) ∧ some k_ ≠ (v415 : Value).ownBlock ∧ k_ ≠ gb409 ∧ k_ ≠ gb410 ∧ k_ ≠ gb417) v412 y411) := ⟨h2_⟩
 have n3_ : Aside0 (Kd.R (Kd.int .u8) 5 w14 w.heap.size (fun k_ => (w.heap.size ≤ k_)) v415 t414) := ⟨h3_⟩
 have n4_ : Aside0 (w14.heap[gb409]? = some (.cells #[.int .i64 a0_0, .slice A0_1 l0_1.length c0_1, .bool a0_2] 46 (0, 0))) := ⟨h4_⟩
 have n5_ : Aside0 (w14.heap[gb410]? = some (.cells #[.int .i64 0, .slice none 0 0, .bool false] 46 (0, 0))) := ⟨h5_⟩
 have n6_ : Aside0 (w14.heap[gb417]? = some (.cells #[.int .i64 0, .slice none 0 0, .bool false] 46 (0, 0))) := ⟨h6_⟩
 have n7_ : Aside0 (w.heap.size ≤ gb417) := ⟨h7_⟩
 have n8_ : Aside0 (w.heap.size ≤ gb417) := ⟨h8_⟩
 have n9_ : Aside0 (gb409 ≠ gb417) := ⟨h9_⟩
 have n10_ : Aside0 (gb417 ≠ gb409) := ⟨h10_⟩
 have n11_ : Aside0 (gb410 ≠ gb417) := ⟨h11_⟩
 have n12_ : Aside0 (gb417 ≠ gb410) := ⟨h12_⟩
 have n13_ : Aside0 (Below w.heap.size w w14) := ⟨h13_⟩
 clear HO0_1
 clear HO1
 clear BK409
 clear BK410
 clear HB
 clear h0_ h1_ h2_ h3_ h4_ h5_ h6_ h7_ h8_ h9_ h10_ h11_ h12_ h13_
 have HO0_1 := n0_
 have HO1 := n1_
 have HO413 := n2_
 have HO416 := n3_
 have BK409 := n4_
 have BK410 := n5_
 have BK417 := n6_
 have GW417 := n7_
 have GE417 := n8_
 have NB409_417 := n9_
 have NB417_409 := n10_
 have NB410_417 := n11_
 have NB417_410 := n12_
 have HB := n13_
 clear n0_ n1_ n2_ n3_ n4_ n5_ n6_ n7_ n8_ n9_ n10_ n11_ n12_ n13_
 have hHeld : w14.cell? ⟨gb409, 0, none⟩ = some (.int .i64 a0_0) ∧ w14.cell? ⟨gb409, 1, none⟩ = some (.slice A0_1 l0_1.length c0_1) ∧ w14.cell? ⟨gb409, 2, none⟩ = some (.bool a0_2) := hS_
 obtain ⟨Ao15, co15, eo15⟩ := Kd.R_slice HO416.out
 (first | subst eo15 | (injection eo15 with f1_ f2_ f3_; have f4_ := f1_.symm; have f5_ := f3_.symm; clear f1_ f2_ f3_; subst f4_; subst f5_))
 refine norm_ (a' := ?_) ?_ ?_
 rotate_left
 ·simp only [putAll, Act.put, List.setIfInBounds_toArray, List.set_cons_zero, List.set_cons_succ]
  rfl
 refine one_ (i := 10) (N := none) #[true, true, true, true, true, true, true, true, true, true, true] rfl rfl (one_of HT_.out (by kernel_rfl)) (by decide) (fun K hK => ?_)
 have hs16 : w14.cell? ⟨gb417, 0, none⟩ = some (.int .i64 0) := (blk_cell BK417.out 0).trans rfl
 have hfs16 := blk_frozen BK417.out 0
 have hns16_0 := NB409_417.out
 have hns16_1 := NB410_417.out
 have hms16_0 := NB417_409.out
 have hms16_1 := NB417_410.out
 have hs17 : w14.cell? ⟨gb417, 1, none⟩ = some (.slice none 0 0) := (blk_cell BK417.out 1).trans rfl
 have hfs17 := blk_frozen BK417.out 1
 have hns17_0 := NB409_417.out
 have hns17_1 := NB410_417.out
 have hms17_0 := NB417_409.out
 have hms17_1 := NB417_410.out
 have hs18 : w14.cell? ⟨gb417, 2, none⟩ = some (.bool false) := (blk_cell BK417.out 2).trans rfl
 have hfs18 := blk_frozen BK417.out 2
 have hns18_0 := NB409_417.out
 have hns18_1 := NB410_417.out
 have hms18_0 := NB417_409.out
 have hms18_1 := NB417_410.out
 refine skip_ (w1 := ?_) (by rfl) rfl ?_ ?_
 rotate_left
 ·go_simp
  rfl
 refine hK.out _ _ ⟨((cell_far (p := ⟨gb417, _, none⟩) NB409_417.out _).trans (((cell_far (p := ⟨gb417, _, none⟩) NB409_417.out _).trans (((cell_far (p := ⟨gb417, _, none⟩) NB409_417.out _).trans (hHeld.1)))))), ((cell_far (p := ⟨gb417, _, none⟩) NB409_417.out _).trans (((cell_far (p := ⟨gb417, _, none⟩) NB409_417.out _).trans (((cell_far (p := ⟨gb417, _, none⟩) NB409_417.out _).trans (hHeld.2.1)))))), ((cell_far (p := ⟨gb417, _, none⟩) NB409_417.out _).trans (((cell_far (p := ⟨gb417, _, none⟩) NB409_417.out _).trans (((cell_far (p := ⟨gb417, _, none⟩) NB409_417.out _).trans (hHeld.2.2))))))⟩ (fun hHeld => ?_)
 clear hK K
 refine done_ (done_of HT_.out (by kernel_rfl)) ?_
 go_upto_region 2 with (fail)
 go_cut [28] (fun v28 wc => ∃ (kq : Nat) (x28_3 : Bool), v28 = .bool x28_3 ∧ Aside0 (impl_Feed.j0 kq l1 x28_3 a0_0 l0_1 a0_2 a0_0 t414 a0_2 = some (r1, r2, r3, r4)) ∧ Aside0 (kq ≤ k) ∧ Aside0 (Kd.V (Kd.int .u8) 5 wc w.heap.size (fun k_ => ((P0_1_ k_ ∨ P1_ k_) ∨ w.heap.size ≤ k_) ∧ some k_ ≠ ((.slice Ao15 t414.length co15) : Value).ownBlock ∧ k_ ≠ gb409 ∧ k_ ≠ gb410 ∧ k_ ≠ gb417) (.slice A1 l1.length c1) l1) ∧ Aside0 (Kd.V (Kd.int .u8) 5 wc w.heap.size (fun k_ => ((P0_1_ k_ ∨ P1_ k_) ∨ w.heap.size ≤ k_) ∧ some k_ ≠ ((.slice Ao15 t414.length co15) : Value).ownBlock ∧ k_ ≠ gb409 ∧ k_ ≠ gb410 ∧ k_ ≠ gb417) (.slice A0_1 l0_1.length c0_1) l0_1) ∧ Aside0 (Kd.R (Kd.int .u8) 5 wc w.heap.size (fun k_ => (w.heap.size ≤ k_)) (.slice Ao15 t414.length co15) t414) ∧ Aside0 (wc.heap[gb409]? = some (.cells #[.int .i64 a0_0, (.slice A0_1 l0_1.length c0_1), .bool a0_2] 46 (0, 0))) ∧ Aside0 (wc.heap[gb410]? = some (.cells #[.int .i64 0, (.slice none 0 0), .bool false] 46 (0, 0))) ∧ Aside0 (wc.heap[gb417]? = some (.cells #[.int .i64 a0_0, (.slice Ao15 t414.length co15), .bool a0_2] 46 (0, 0))) ∧ Aside0 (Below w.heap.size w wc))
 case first =>
  have H := HC4.out
  clear HC4
  replace H := Option.bind_eq_some_iff.mp H
  obtain ⟨t418, A190, H⟩ := H
  try dsimp only at H
  have A19 := Aside0.mk A190
  clear A190
  by_cases c20 : t418 = true
  ·subst c20
   rw [if_pos rfl] at H
   have H' := Aside0.mk H
   clear H
   have hnb21 := NB409_410.out
   have hnc21 := NB410_409.out
   have hnb22 := NB409_417.out
   have hnc22 := NB417_409.out
   have hcz23_0 : w14.cell? ⟨gb409, 0, none⟩ = some (.int .i64 a0_0) := (blk_cell BK409.out 0).trans rfl
   have hcz23_1 : w14.cell? ⟨gb409, 1, none⟩ = some (.slice A0_1 l0_1.length c0_1) := (blk_cell BK409.out 1).trans rfl
   have hcz23_2 : w14.cell? ⟨gb409, 2, none⟩ = some (.bool a0_2) := (blk_cell BK409.out 2).trans rfl
   have hfz23_0 := blk_frozen BK409.out 0
   have hfz23_1 := blk_frozen BK409.out 1
   have hfz23_2 := blk_frozen BK409.out 2
   go_wp2_with (first | ((with_reducible refine gate_callee (f := 47) rfl ?_); refine goesL_ (some 23) rfl rfl Tryd.func47 (by kernel_rfl) rfl #[.agg #[.int .i64 a0_0, .slice A0_1 l0_1.length c0_1, .bool a0_2]] rfl ka_ ?_; (with_reducible refine (impl_DecOk.calls (hT := ?sideT) a0_0 _ _ l0_1 a0_2 true _ ?side1 ?side2 A19.out).mono ?_); (case sideT => first | exact HT.out | exact HT.out.below hs_ | exact HT.out.drawn (by repeat (first | exact Drawn0.refl _ | apply Drawn0.step | assumption))); (case side1 => refine (Kd.V_reads' (e := 5) (base := w.heap.size) (ok := fun k_ => ((((P0_1_ k_ ∨ P1_ k_) ∨ w.heap.size ≤ k_)) ∧ (some k_ ≠ (v412 : Value).ownBlock ∧ (some k_ ≠ (.slice Ao15 t414.length co15 : Value).ownBlock ∧ (k_ ≠ gb409 ∧ (k_ ≠ gb410 ∧ k_ ≠ gb417)))))) (n := l0_1.length) (c := c0_1) ?_).2.2; exact (by (with_reducible repeat (first | apply Kd.V_alloc | apply Kd.V_drewN | apply Kd.V_drew)); exact (Kd.V_mono (Kd.V_far (p := ⟨gb417, 2, none⟩) (Kd.V_far (p := ⟨gb417, 1, none⟩) (Kd.V_far (p := ⟨gb417, 0, none⟩) (Kd.V_mono HO0_1.out (fun k_ hk => (⟨hk, hk.2.2.2.2.2⟩ : _ ∧ k_ ≠ gb417))) (fun _ hk => hk.2) (.int .i64 a0_0)) (fun _ hk => hk.2) (.slice Ao15 t414.length co15)) (fun _ hk => hk.2) (.bool a0_2)) (fun _ h_ => h_.1)))); (case side2 => exact (Kd.V_reads' HO0_1.out).2.1); rintro e w24 ⟨rfl, hb⟩; refine ⟨_, rfl, ?_⟩; have n0_ := Aside0.mk (Kd.V_below (by (with_reducible repeat (first | apply Kd.V_alloc | apply Kd.V_drewN | apply Kd.V_drew)); exact (Kd.V_mono (Kd.V_far (p := ⟨gb417, 2, none⟩) (Kd.V_far (p := ⟨gb417, 1, none⟩) (Kd.V_far (p := ⟨gb417, 0, none⟩) (Kd.V_mono HO0_1.out (fun k_ hk => (⟨hk, hk.2.2.2.2.2⟩ : _ ∧ k_ ≠ gb417))) (fun _ hk => hk.2) (.int .i64 a0_0)) (fun _ hk => hk.2) (.slice Ao15 t414.length co15)) (fun _ hk => hk.2) (.bool a0_2)) (fun _ h_ => h_.1))) hb); have n1_ := Aside0.mk (Kd.V_below (by (with_reducible repeat (first | apply Kd.V_alloc | apply Kd.V_drewN | apply Kd.V_drew)); exact (Kd.V_mono (Kd.V_far (p := ⟨gb417, 2, none⟩) (Kd.V_far (p := ⟨gb417, 1, none⟩) (Kd.V_far (p := ⟨gb417, 0, none⟩) (Kd.V_mono HO1.out (fun k_ hk => (⟨hk, hk.2.2.2.2.2⟩ : _ ∧ k_ ≠ gb417))) (fun _ hk => hk.2) (.int .i64 a0_0)) (fun _ hk => hk.2) (.slice Ao15 t414.length co15)) (fun _ hk => hk.2) (.bool a0_2)) (fun _ h_ => h_.1))) hb); have n2_ := Aside0.mk (Kd.N_below (by (with_reducible repeat (first | apply Kd.N_alloc | apply Kd.N_drewN | apply Kd.N_drew)); exact (Kd.N_mono (Kd.N_far (p := ⟨gb417, 2, none⟩) (Kd.N_far (p := ⟨gb417, 1, none⟩) (Kd.N_far (p := ⟨gb417, 0, none⟩) (Kd.N_mono HO413.out (fun k_ hk => (⟨hk, hk.2.2.2.2⟩ : _ ∧ k_ ≠ gb417))) (fun _ hk => hk.2) (.int .i64 a0_0)) (fun _ hk => hk.2) (.slice Ao15 t414.length co15)) (fun _ hk => hk.2) (.bool a0_2)) (fun _ h_ => h_.1))) hb); have n3_ := Aside0.mk (Kd.R_below (by (with_reducible repeat (first | apply Kd.R_alloc | apply Kd.R_drewN | apply Kd.R_drew)); exact (Kd.R_mono (Kd.R_far (p := ⟨gb417, 2, none⟩) (Kd.R_far (p := ⟨gb417, 1, none⟩) (Kd.R_far (p := ⟨gb417, 0, none⟩) (Kd.R_types HO416.out BK417.out (by decide)) (fun _ hk => hk.2) (.int .i64 a0_0)) (fun _ hk => hk.2) (.slice Ao15 t414.length co15)) (fun _ hk => hk.2) (.bool a0_2)) (fun _ h_ => h_.1))) hb); have n4_ := Aside0.mk (blk_below (g := gb409) (o := .cells #[.int .i64 a0_0, .slice A0_1 l0_1.length c0_1, .bool a0_2] 46 (0, 0)) (by (with_reducible repeat (first | refine blk_drewN ?_ _ | refine blk_drew ?_ | refine blk_alloc ?_ _)); refine blk_far ?_ NB409_417.out _; (with_reducible repeat (first | refine blk_drewN ?_ _ | refine blk_drew ?_ | refine blk_alloc ?_ _)); refine blk_far ?_ NB409_417.out _; (with_reducible repeat (first | refine blk_drewN ?_ _ | refine blk_drew ?_ | refine blk_alloc ?_ _)); refine blk_far ?_ NB409_417.out _; (with_reducible repeat (first | refine blk_drewN ?_ _ | refine blk_drew ?_ | refine blk_alloc ?_ _)); exact BK409.out) hb); have n5_ := Aside0.mk (blk_below (g := gb410) (o := .cells #[.int .i64 0, .slice none 0 0, .bool false] 46 (0, 0)) (by (with_reducible repeat (first | refine blk_drewN ?_ _ | refine blk_drew ?_ | refine blk_alloc ?_ _)); refine blk_far ?_ NB410_417.out _; (with_reducible repeat (first | refine blk_drewN ?_ _ | refine blk_drew ?_ | refine blk_alloc ?_ _)); refine blk_far ?_ NB410_417.out _; (with_reducible repeat (first | refine blk_drewN ?_ _ | refine blk_drew ?_ | refine blk_alloc ?_ _)); refine blk_far ?_ NB410_417.out _; (with_reducible repeat (first | refine blk_drewN ?_ _ | refine blk_drew ?_ | refine blk_alloc ?_ _)); exact BK410.out) hb); have n6_ := Aside0.mk (blk_below (g := gb417) (o := .cells #[.int .i64 a0_0, .slice Ao15 t414.length co15, .bool a0_2] 46 (0, 0)) (by (with_reducible repeat (first | refine blk_drewN ?_ _ | refine blk_drew ?_ | refine blk_alloc ?_ _)); refine blk_put (cs := #[.int .i64 a0_0, .slice Ao15 t414.length co15, .bool false]) ?_ 2 _ rfl; (with_reducible repeat (first | refine blk_drewN ?_ _ | refine blk_drew ?_ | refine blk_alloc ?_ _)); refine blk_put (cs := #[.int .i64 a0_0, .slice none 0 0, .bool false]) ?_ 1 _ rfl; (with_reducible repeat (first | refine blk_drewN ?_ _ | refine blk_drew ?_ | refine blk_alloc ?_ _)); refine blk_put (cs := #[.int .i64 0, .slice none 0 0, .bool false]) ?_ 0 _ rfl; (with_reducible repeat (first | refine blk_drewN ?_ _ | refine blk_drew ?_ | refine blk_alloc ?_ _)); exact BK417.out) hb); have n7_ := Aside0.mk (below_step hs_ hb); clear HO0_1; clear HO1; clear HO413; clear HO416; clear BK409; clear BK410; clear BK417; clear HB; have HO0_1 := n0_; have HO1 := n1_; have HO413 := n2_; have HO416 := n3_; have BK409 := n4_; have BK410 := n5_; have BK417 := n6_; have HB := n7_; clear n0_ n1_ n2_ n3_ n4_ n5_ n6_ n7_; try clear hb; have hcz25_0 : w24.cell? ⟨gb409, 0, none⟩ = some (.int .i64 a0_0) := (blk_cell BK409.out 0).trans rfl; have hcz25_1 : w24.cell? ⟨gb409, 1, none⟩ = some (.slice A0_1 l0_1.length c0_1) := (blk_cell BK409.out 1).trans rfl; have hcz25_2 : w24.cell? ⟨gb409, 2, none⟩ = some (.bool a0_2) := (blk_cell BK409.out 2).trans rfl; have hfz25_0 := blk_frozen BK409.out 0; have hfz25_1 := blk_frozen BK409.out 1; have hfz25_2 := blk_frozen BK409.out 2))
   go_meet
   case rel => exact ⟨_, (a0_2), (by first | rfl | (simp; done) | (simp [*]; done)), H', ⟨by first | omega | exact Nat.le_refl _⟩, ⟨by (with_reducible repeat (first | apply Kd.V_alloc | apply Kd.V_drewN | apply Kd.V_drew)); exact Kd.V_mono HO1.out (fun _ hk => ⟨hk.1, ⟨hk.2.2.1, ⟨hk.2.2.2.1, ⟨hk.2.2.2.2.1, hk.2.2.2.2.2⟩⟩⟩⟩)⟩, ⟨by (with_reducible repeat (first | apply Kd.V_alloc | apply Kd.V_drewN | apply Kd.V_drew)); exact Kd.V_mono HO0_1.out (fun _ hk => ⟨hk.1, ⟨hk.2.2.1, ⟨hk.2.2.2.1, ⟨hk.2.2.2.2.1, hk.2.2.2.2.2⟩⟩⟩⟩)⟩, ⟨by (with_reducible repeat (first | apply Kd.R_alloc | apply Kd.R_drewN | apply Kd.R_drew)); exact HO416.out⟩, ⟨by (with_reducible repeat (first | refine blk_drewN ?_ _ | refine blk_drew ?_ | refine blk_alloc ?_ _)); exact BK409.out⟩, ⟨by (with_reducible repeat (first | refine blk_drewN ?_ _ | refine blk_drew ?_ | refine blk_alloc ?_ _)); exact BK410.out⟩, ⟨by (with_reducible repeat (first | refine blk_drewN ?_ _ | refine blk_drew ?_ | refine blk_alloc ?_ _)); exact BK417.out⟩, ⟨by repeat (first | (with_reducible first | exact HB.out | apply below_alloc | apply pw_below_drewN | apply below_drew1 | refine below_set ?_ GE409.out | refine below_set ?_ GE410.out | refine below_set ?_ GE417.out) | exact HB.out)⟩⟩
  ·replace c20 := Bool.eq_false_iff.mpr c20
   subst c20
   rw [if_neg (show ¬ (false = true) by decide)] at H
   have H' := Aside0.mk H
   clear H
   have hnb26 := NB409_410.out
   have hnc26 := NB410_409.out
   have hnb27 := NB409_417.out
   have hnc27 := NB417_409.out
   have hcz28_0 : w14.cell? ⟨gb409, 0, none⟩ = some (.int .i64 a0_0) := (blk_cell BK409.out 0).trans rfl
   have hcz28_1 : w14.cell? ⟨gb409, 1, none⟩ = some (.slice A0_1 l0_1.length c0_1) := (blk_cell BK409.out 1).trans rfl
   have hcz28_2 : w14.cell? ⟨gb409, 2, none⟩ = some (.bool a0_2) := (blk_cell BK409.out 2).trans rfl
   have hfz28_0 := blk_frozen BK409.out 0
   have hfz28_1 := blk_frozen BK409.out 1
   have hfz28_2 := blk_frozen BK409.out 2
   go_wp2_with (first | ((with_reducible refine gate_callee (f := 47) rfl ?_); refine goesL_ (some 23) rfl rfl Tryd.func47 (by kernel_rfl) rfl #[.agg #[.int .i64 a0_0, .slice A0_1 l0_1.length c0_1, .bool a0_2]] rfl ka_ ?_; (with_reducible refine (impl_DecOk.calls (hT := ?sideT) a0_0 _ _ l0_1 a0_2 false _ ?side1 ?side2 A19.out).mono ?_); (case sideT => first | exact HT.out | exact HT.out.below hs_ | exact HT.out.drawn (by repeat (first | exact Drawn0.refl _ | apply Drawn0.step | assumption))); (case side1 => refine (Kd.V_reads' (e := 5) (base := w.heap.size) (ok := fun k_ => ((((P0_1_ k_ ∨ P1_ k_) ∨ w.heap.size ≤ k_)) ∧ (some k_ ≠ (v412 : Value).ownBlock ∧ (some k_ ≠ (.slice Ao15 t414.length co15 : Value).ownBlock ∧ (k_ ≠ gb409 ∧ (k_ ≠ gb410 ∧ k_ ≠ gb417)))))) (n := l0_1.length) (c := c0_1) ?_).2.2; exact (by (with_reducible repeat (first | apply Kd.V_alloc | apply Kd.V_drewN | apply Kd.V_drew)); exact (Kd.V_mono (Kd.V_far (p := ⟨gb417, 2, none⟩) (Kd.V_far (p := ⟨gb417, 1, none⟩) (Kd.V_far (p := ⟨gb417, 0, none⟩) (Kd.V_mono HO0_1.out (fun k_ hk => (⟨hk, hk.2.2.2.2.2⟩ : _ ∧ k_ ≠ gb417))) (fun _ hk => hk.2) (.int .i64 a0_0)) (fun _ hk => hk.2) (.slice Ao15 t414.length co15)) (fun _ hk => hk.2) (.bool a0_2)) (fun _ h_ => h_.1)))); (case side2 => exact (Kd.V_reads' HO0_1.out).2.1); rintro e w29 ⟨rfl, hb⟩; refine ⟨_, rfl, ?_⟩; have n0_ := Aside0.mk (Kd.V_below (by (with_reducible repeat (first | apply Kd.V_alloc | apply Kd.V_drewN | apply Kd.V_drew)); exact (Kd.V_mono (Kd.V_far (p := ⟨gb417, 2, none⟩) (Kd.V_far (p := ⟨gb417, 1, none⟩) (Kd.V_far (p := ⟨gb417, 0, none⟩) (Kd.V_mono HO0_1.out (fun k_ hk => (⟨hk, hk.2.2.2.2.2⟩ : _ ∧ k_ ≠ gb417))) (fun _ hk => hk.2) (.int .i64 a0_0)) (fun _ hk => hk.2) (.slice Ao15 t414.length co15)) (fun _ hk => hk.2) (.bool a0_2)) (fun _ h_ => h_.1))) hb); have n1_ := Aside0.mk (Kd.V_below (by (with_reducible repeat (first | apply Kd.V_alloc | apply Kd.V_drewN | apply Kd.V_drew)); exact (Kd.V_mono (Kd.V_far (p := ⟨gb417, 2, none⟩) (Kd.V_far (p := ⟨gb417, 1, none⟩) (Kd.V_far (p := ⟨gb417, 0, none⟩) (Kd.V_mono HO1.out (fun k_ hk => (⟨hk, hk.2.2.2.2.2⟩ : _ ∧ k_ ≠ gb417))) (fun _ hk => hk.2) (.int .i64 a0_0)) (fun _ hk => hk.2) (.slice Ao15 t414.length co15)) (fun _ hk => hk.2) (.bool a0_2)) (fun _ h_ => h_.1))) hb); have n2_ := Aside0.mk (Kd.N_below (by (with_reducible repeat (first | apply Kd.N_alloc | apply Kd.N_drewN | apply Kd.N_drew)); exact (Kd.N_mono (Kd.N_far (p := ⟨gb417, 2, none⟩) (Kd.N_far (p := ⟨gb417, 1, none⟩) (Kd.N_far (p := ⟨gb417, 0, none⟩) (Kd.N_mono HO413.out (fun k_ hk => (⟨hk, hk.2.2.2.2⟩ : _ ∧ k_ ≠ gb417))) (fun _ hk => hk.2) (.int .i64 a0_0)) (fun _ hk => hk.2) (.slice Ao15 t414.length co15)) (fun _ hk => hk.2) (.bool a0_2)) (fun _ h_ => h_.1))) hb); have n3_ := Aside0.mk (Kd.R_below (by (with_reducible repeat (first | apply Kd.R_alloc | apply Kd.R_drewN | apply Kd.R_drew)); exact (Kd.R_mono (Kd.R_far (p := ⟨gb417, 2, none⟩) (Kd.R_far (p := ⟨gb417, 1, none⟩) (Kd.R_far (p := ⟨gb417, 0, none⟩) (Kd.R_types HO416.out BK417.out (by decide)) (fun _ hk => hk.2) (.int .i64 a0_0)) (fun _ hk => hk.2) (.slice Ao15 t414.length co15)) (fun _ hk => hk.2) (.bool a0_2)) (fun _ h_ => h_.1))) hb); have n4_ := Aside0.mk (blk_below (g := gb409) (o := .cells #[.int .i64 a0_0, .slice A0_1 l0_1.length c0_1, .bool a0_2] 46 (0, 0)) (by (with_reducible repeat (first | refine blk_drewN ?_ _ | refine blk_drew ?_ | refine blk_alloc ?_ _)); refine blk_far ?_ NB409_417.out _; (with_reducible repeat (first | refine blk_drewN ?_ _ | refine blk_drew ?_ | refine blk_alloc ?_ _)); refine blk_far ?_ NB409_417.out _; (with_reducible repeat (first | refine blk_drewN ?_ _ | refine blk_drew ?_ | refine blk_alloc ?_ _)); refine blk_far ?_ NB409_417.out _; (with_reducible repeat (first | refine blk_drewN ?_ _ | refine blk_drew ?_ | refine blk_alloc ?_ _)); exact BK409.out) hb); have n5_ := Aside0.mk (blk_below (g := gb410) (o := .cells #[.int .i64 0, .slice none 0 0, .bool false] 46 (0, 0)) (by (with_reducible repeat (first | refine blk_drewN ?_ _ | refine blk_drew ?_ | refine blk_alloc ?_ _)); refine blk_far ?_ NB410_417.out _; (with_reducible repeat (first | refine blk_drewN ?_ _ | refine blk_drew ?_ | refine blk_alloc ?_ _)); refine blk_far ?_ NB410_417.out _; (with_reducible repeat (first | refine blk_drewN ?_ _ | refine blk_drew ?_ | refine blk_alloc ?_ _)); refine blk_far ?_ NB410_417.out _; (with_reducible repeat (first | refine blk_drewN ?_ _ | refine blk_drew ?_ | refine blk_alloc ?_ _)); exact BK410.out) hb); have n6_ := Aside0.mk (blk_below (g := gb417) (o := .cells #[.int .i64 a0_0, .slice Ao15 t414.length co15, .bool a0_2] 46 (0, 0)) (by (with_reducible repeat (first | refine blk_drewN ?_ _ | refine blk_drew ?_ | refine blk_alloc ?_ _)); refine blk_put (cs := #[.int .i64 a0_0, .slice Ao15 t414.length co15, .bool false]) ?_ 2 _ rfl; (with_reducible repeat (first | refine blk_drewN ?_ _ | refine blk_drew ?_ | refine blk_alloc ?_ _)); refine blk_put (cs := #[.int .i64 a0_0, .slice none 0 0, .bool false]) ?_ 1 _ rfl; (with_reducible repeat (first | refine blk_drewN ?_ _ | refine blk_drew ?_ | refine blk_alloc ?_ _)); refine blk_put (cs := #[.int .i64 0, .slice none 0 0, .bool false]) ?_ 0 _ rfl; (with_reducible repeat (first | refine blk_drewN ?_ _ | refine blk_drew ?_ | refine blk_alloc ?_ _)); exact BK417.out) hb); have n7_ := Aside0.mk (below_step hs_ hb); clear HO0_1; clear HO1; clear HO413; clear HO416; clear BK409; clear BK410; clear BK417; clear HB; have HO0_1 := n0_; have HO1 := n1_; have HO413 := n2_; have HO416 := n3_; have BK409 := n4_; have BK410 := n5_; have BK417 := n6_; have HB := n7_; clear n0_ n1_ n2_ n3_ n4_ n5_ n6_ n7_; try clear hb))
   go_meet
   case rel => exact ⟨_, (true), (by first | rfl | (simp; done) | (simp [*]; done)), H', ⟨by first | omega | exact Nat.le_refl _⟩, ⟨by (with_reducible repeat (first | apply Kd.V_alloc | apply Kd.V_drewN | apply Kd.V_drew)); exact Kd.V_mono HO1.out (fun _ hk => ⟨hk.1, ⟨hk.2.2.1, ⟨hk.2.2.2.1, ⟨hk.2.2.2.2.1, hk.2.2.2.2.2⟩⟩⟩⟩)⟩, ⟨by (with_reducible repeat (first | apply Kd.V_alloc | apply Kd.V_drewN | apply Kd.V_drew)); exact Kd.V_mono HO0_1.out (fun _ hk => ⟨hk.1, ⟨hk.2.2.1, ⟨hk.2.2.2.1, ⟨hk.2.2.2.2.1, hk.2.2.2.2.2⟩⟩⟩⟩)⟩, ⟨by (with_reducible repeat (first | apply Kd.R_alloc | apply Kd.R_drewN | apply Kd.R_drew)); exact HO416.out⟩, ⟨by (with_reducible repeat (first | refine blk_drewN ?_ _ | refine blk_drew ?_ | refine blk_alloc ?_ _)); exact BK409.out⟩, ⟨by (with_reducible repeat (first | refine blk_drewN ?_ _ | refine blk_drew ?_ | refine blk_alloc ?_ _)); exact BK410.out⟩, ⟨by (with_reducible repeat (first | refine blk_drewN ?_ _ | refine blk_drew ?_ | refine blk_alloc ?_ _)); exact BK417.out⟩, ⟨by repeat (first | (with_reducible first | exact HB.out | apply below_alloc | apply pw_below_drewN | apply below_drew1 | refine below_set ?_ GE409.out | refine below_set ?_ GE410.out | refine below_set ?_ GE417.out) | exact HB.out)⟩⟩
 case rest =>
  clear HC4
  try clear c1
  try clear c2
  try clear p2
  try clear c3
  try clear c4
  try clear c8
  try clear c20
  try clear c21
  try clear c22
  try clear c26
  try clear c27
  try clear hcz23_0
  try clear hcz23_1
  try clear hcz23_2
  try clear hcz25_0
  try clear hcz25_1
  try clear hcz25_2
  try clear hcz28_0
  try clear hcz28_1
  try clear hcz28_2
  try clear hfz23_0
  try clear hfz23_1
  try clear hfz23_2
  try clear hfz25_0
  try clear hfz25_1
  try clear hfz25_2
  try clear hfz28_0
  try clear hfz28_1
  try clear hfz28_2
  obtain ⟨kq, x28_3, rfl, HA, HJ3, HO_1, HO_410001, HO_418001, BK409, BK410, BK417, HB⟩ := hcut
  cases kq with
  | zero => exact absurd HA.out (by simp [impl_Feed.j0])
  | succ kj3 =>
   have H := HA.out
   clear HA
   simp only [impl_Feed.j0] at H
   by_cases c30 : x28_3 = true
   ·subst c30
    rw [if_pos rfl] at H
    simp only [Option.some.injEq, Prod.mk.injEq] at H
    obtain ⟨rfl, rfl, rfl, rfl⟩ := H
    have hnb31 := NB417_409.out
    have hnc31 := NB409_417.out
    have hnb32 := NB417_410.out
    have hnc32 := NB410_417.out
    have hcz33_0 : wc.cell? ⟨gb417, 0, none⟩ = some (.int .i64 a0_0) := (blk_cell BK417.out 0).trans rfl
    have hcz33_1 : wc.cell? ⟨gb417, 1, none⟩ = some (.slice Ao15 t414.length co15) := (blk_cell BK417.out 1).trans rfl
    have hcz33_2 : wc.cell? ⟨gb417, 2, none⟩ = some (.bool a0_2) := (blk_cell BK417.out 2).trans rfl
    have hfz33_0 := blk_frozen BK417.out 0
    have hfz33_1 := blk_frozen BK417.out 1
    have hfz33_2 := blk_frozen BK417.out 2
    have hnb34 := NB410_409.out
    have hnc34 := NB409_410.out
    have hcz35_0 : wc.cell? ⟨gb410, 0, none⟩ = some (.int .i64 0) := (blk_cell BK410.out 0).trans rfl
    have hcz35_1 : wc.cell? ⟨gb410, 1, none⟩ = some (.slice none 0 0) := (blk_cell BK410.out 1).trans rfl
    have hcz35_2 : wc.cell? ⟨gb410, 2, none⟩ = some (.bool false) := (blk_cell BK410.out 2).trans rfl
    have hfz35_0 := blk_frozen BK410.out 0
    have hfz35_1 := blk_frozen BK410.out 1
    have hfz35_2 := blk_frozen BK410.out 2
    go_wp2
    refine bodyPost_ret (results_ct rfl _ _ gb410 46 #[.int .i64 a0_0, .slice Ao15 t414.length co15, .bool a0_2] (0, 0) _ rfl (by (with_reducible repeat (first | refine blk_drewN ?_ _ | refine blk_drew ?_ | refine blk_alloc ?_ _)); refine blk_put (cs := #[.int .i64 a0_0, .slice Ao15 t414.length co15, .bool false]) ?_ 2 _ rfl; (with_reducible repeat (first | refine blk_drewN ?_ _ | refine blk_drew ?_ | refine blk_alloc ?_ _)); refine blk_put (cs := #[.int .i64 a0_0, .slice none 0 0, .bool false]) ?_ 1 _ rfl; (with_reducible repeat (first | refine blk_drewN ?_ _ | refine blk_drew ?_ | refine blk_alloc ?_ _)); refine blk_put (cs := #[.int .i64 0, .slice none 0 0, .bool false]) ?_ 0 _ rfl; (with_reducible repeat (first | refine blk_drewN ?_ _ | refine blk_drew ?_ | refine blk_alloc ?_ _)); exact BK410.out) Tryd.underlying46 rfl (by kernel_rfl)) rfl ?_
    exact ⟨_, by first | rfl | (simp [errW_none, errW_some] <;> rfl) | (simp [*, errW_none, errW_some] <;> rfl), by (with_reducible repeat (first | apply Kd.R_alloc | apply Kd.R_drewN | apply Kd.R_drew)); exact Kd.R_mono (Kd.R_far (p := ⟨gb410, 2, none⟩) (Kd.R_far (p := ⟨gb410, 1, none⟩) (Kd.R_far (p := ⟨gb410, 0, none⟩) (Kd.R_types HO_418001.out BK410.out (by decide)) (fun _ hk => hk.2) (.int .i64 a0_0)) (fun _ hk => hk.2) (.slice Ao15 t414.length co15)) (fun _ hk => hk.2) (.bool a0_2)) (fun _ hk => hk.1), hs_⟩
   ·replace c30 := Bool.eq_false_iff.mpr c30
    subst c30
    rw [if_neg (show ¬ (false = true) by decide)] at H
    obtain ⟨y419, hy419⟩ : ∃ y_ : List (List Int), y_ = (([l0_1, l1] : List (List Int))) := ⟨_, rfl⟩
    replace H : ((impl_joined.f kj3 y419).bind fun t422 => (impl_Feed.l0 kj3 t422 (([] : List Int)) 0 a0_0 l0_1 a0_2 a0_0 a0_2)) = some (r1, r2, r3, r4) := by first | (rw [hy419]; with_reducible exact H) | (have H2_ := (Option.bind_some _ _).symm.trans H; rw [hy419]; with_reducible exact H2_) | (have H2_ := (Option.bind_some _ _).symm.trans H; with_reducible exact H2_) | with_reducible exact H | (rw [hy419]; exact H) | exact H
    have Ny419 := Aside0.mk hy419
    clear hy419
    replace H := Option.bind_eq_some_iff.mp H
    obtain ⟨t422, A360, H⟩ := H
    try dsimp only at H
    have A36 := Aside0.mk A360
    clear A360
    obtain ⟨y425, hy425⟩ : ∃ y_ : List Int, y_ = (([] : List Int)) := ⟨_, rfl⟩
    replace H : (impl_Feed.l0 kj3 t422 y425 0 a0_0 l0_1 a0_2 a0_0 a0_2) = some (r1, r2, r3, r4) := by first | (rw [hy425]; with_reducible exact H) | (have H2_ := (Option.bind_some _ _).symm.trans H; rw [hy425]; with_reducible exact H2_) | (have H2_ := (Option.bind_some _ _).symm.trans H; with_reducible exact H2_) | with_reducible exact H | (rw [hy425]; exact H) | exact H
    have Ny425 := Aside0.mk hy425
    clear hy425
    have H' := Aside0.mk H
    clear H
    have hnb37 := NB409_410.out
    have hnc37 := NB410_409.out
    have hnb38 := NB409_417.out
    have hnc38 := NB417_409.out
    have hcz39_0 : wc.cell? ⟨gb409, 0, none⟩ = some (.int .i64 a0_0) := (blk_cell BK409.out 0).trans rfl
    have hcz39_1 : wc.cell? ⟨gb409, 1, none⟩ = some (.slice A0_1 l0_1.length c0_1) := (blk_cell BK409.out 1).trans rfl
    have hcz39_2 : wc.cell? ⟨gb409, 2, none⟩ = some (.bool a0_2) := (blk_cell BK409.out 2).trans rfl
    have hfz39_0 := blk_frozen BK409.out 0
    have hfz39_1 := blk_frozen BK409.out 1
    have hfz39_2 := blk_frozen BK409.out 2
    go_wp2_with (first | ((with_reducible refine gate_dst (N := 33) rfl ?_); refine Kd.N_lit (Kd.slice 5 (Kd.int .u8)) _ 23 ?hg (N' := 33) ?hd (xs := ([l0_1, l1] : List (List Int))) (inner := [.slice A0_1 l0_1.length c0_1, .slice A1 l1.length c1]) (ok := (fun k_ => ((P0_1_ k_ ∨ P1_ k_) ∨ w.heap.size ≤ k_) ∧ some k_ ≠ (.slice Ao15 t414.length co15 : Value).ownBlock ∧ k_ ≠ gb409 ∧ k_ ≠ gb410 ∧ k_ ≠ gb417)) (okp := (fun k_ => ((P0_1_ k_ ∨ P1_ k_) ∨ w.heap.size ≤ k_) ∧ some k_ ≠ (.slice Ao15 t414.length co15 : Value).ownBlock ∧ k_ ≠ gb409 ∧ k_ ≠ gb410 ∧ k_ ≠ gb417)) ?hr ?hp (fun _ hk => hk) ((show ∀ k_, wc.heap.size ≤ k_ → (fun k_ => ((P0_1_ k_ ∨ P1_ k_) ∨ w.heap.size ≤ k_) ∧ some k_ ≠ (.slice Ao15 t414.length co15 : Value).ownBlock ∧ k_ ≠ gb409 ∧ k_ ≠ gb410 ∧ k_ ≠ gb417) k_ from fun k_ hk => ⟨(.inr (Nat.le_trans (below_size hs_) hk)), Kd.fresh' (Kd.R_lt (kr_ HO_418001)) k_ hk, Kd.freshB (g := gb409) (o := .cells #[.int .i64 a0_0, .slice A0_1 l0_1.length c0_1, .bool a0_2] 46 (0, 0)) (kb_ BK409) k_ hk, Kd.freshB (g := gb410) (o := .cells #[.int .i64 0, .slice none 0 0, .bool false] 46 (0, 0)) (kb_ BK410) k_ hk, Kd.freshB (g := gb417) (o := .cells #[.int .i64 a0_0, .slice Ao15 t414.length co15, .bool a0_2] 46 (0, 0)) (kb_ BK417) k_ hk⟩) _ (Nat.le_refl _)) (Below.refl _ _) (Nat.le_refl _) (by simp) ?_; (case hd => rfl); (case hg => rfl); (case hr => first | (go_simp; done) | (go_simp; rfl)); (case hp => exact (Reps.one (show Kd.FK (Kd.slice 5 (Kd.int .u8)) _ _ l0_1 [.slice A0_1 l0_1.length c0_1] from (Kd.FK_slice_mk (Kd.V_reads' (Kd.V_mono (ok' := (fun k_ => ((P0_1_ k_ ∨ P1_ k_) ∨ w.heap.size ≤ k_) ∧ some k_ ≠ (.slice Ao15 t414.length co15 : Value).ownBlock ∧ k_ ≠ gb409 ∧ k_ ≠ gb410 ∧ k_ ≠ gb417)) (HO_410001.out) (fun k_ hk => ⟨hk.1, ⟨hk.2.1, ⟨hk.2.2.1, ⟨hk.2.2.2.1, hk.2.2.2.2⟩⟩⟩⟩))).2.1 (Kd.V_F (Kd.V_mono (ok' := (fun k_ => ((P0_1_ k_ ∨ P1_ k_) ∨ w.heap.size ≤ k_) ∧ some k_ ≠ (.slice Ao15 t414.length co15 : Value).ownBlock ∧ k_ ≠ gb409 ∧ k_ ≠ gb410 ∧ k_ ≠ gb417)) (HO_410001.out) (fun k_ hk => ⟨hk.1, ⟨hk.2.1, ⟨hk.2.2.1, ⟨hk.2.2.2.1, hk.2.2.2.2⟩⟩⟩⟩))))) (Reps.one (show Kd.FK (Kd.slice 5 (Kd.int .u8)) _ _ l1 [.slice A1 l1.length c1] from (Kd.FK_slice_mk (Kd.V_reads' (Kd.V_mono (ok' := (fun k_ => ((P0_1_ k_ ∨ P1_ k_) ∨ w.heap.size ≤ k_) ∧ some k_ ≠ (.slice Ao15 t414.length co15 : Value).ownBlock ∧ k_ ≠ gb409 ∧ k_ ≠ gb410 ∧ k_ ≠ gb417)) (HO_1.out) (fun k_ hk => ⟨hk.1, ⟨hk.2.1, ⟨hk.2.2.1, ⟨hk.2.2.2.1, hk.2.2.2.2⟩⟩⟩⟩))).2.1 (Kd.V_F (Kd.V_mono (ok' := (fun k_ => ((P0_1_ k_ ∨ P1_ k_) ∨ w.heap.size ≤ k_) ∧ some k_ ≠ (.slice Ao15 t414.length co15 : Value).ownBlock ∧ k_ ≠ gb409 ∧ k_ ≠ gb410 ∧ k_ ≠ gb417)) (HO_1.out) (fun k_ hk => ⟨hk.1, ⟨hk.2.1, ⟨hk.2.2.1, ⟨hk.2.2.2.1, hk.2.2.2.2⟩⟩⟩⟩))))) (Reps.none _ _)))); intro v420 w40 ho41 hb hg_ hnew_; clear hg_ hnew_; (first | rw [← Ny419.out] at ho41 | (simp only [Int.reduceToNat] at ho41; rw [← Ny419.out] at ho41)); have n0_ := Aside0.mk (Kd.V_elder' (by (with_reducible repeat (first | apply Kd.V_alloc | apply Kd.V_drewN | apply Kd.V_drew)); exact HO_1.out) (Kd.N_base ho41) hb); have n1_ := Aside0.mk (Kd.V_elder' (by (with_reducible repeat (first | apply Kd.V_alloc | apply Kd.V_drewN | apply Kd.V_drew)); exact HO_410001.out) (Kd.N_base ho41) hb); have n2_ := Aside0.mk (Kd.R_below (kr_ HO_418001) hb); have n3_ := Aside0.mk (Kd.N_lower ho41 (below_size hs_)); have n4_ := Aside0.mk (blk_below (g := gb409) (o := .cells #[.int .i64 a0_0, .slice A0_1 l0_1.length c0_1, .bool a0_2] 46 (0, 0)) (kb_ BK409) hb); have n5_ := Aside0.mk (blk_below (g := gb410) (o := .cells #[.int .i64 0, .slice none 0 0, .bool false] 46 (0, 0)) (kb_ BK410) hb); have n6_ := Aside0.mk (blk_below (g := gb417) (o := .cells #[.int .i64 a0_0, .slice Ao15 t414.length co15, .bool a0_2] 46 (0, 0)) (kb_ BK417) hb); have n7_ := Aside0.mk (below_step hs_ hb); clear HO_1; clear HO_410001; clear HO_418001; clear BK409; clear BK410; clear BK417; clear HB; have HO_1 := n0_; have HO_410001 := n1_; have HO_418001 := n2_; have HO421 := n3_; have BK409 := n4_; have BK410 := n5_; have BK417 := n6_; have HB := n7_; clear n0_ n1_ n2_ n3_ n4_ n5_ n6_ n7_; clear hb ho41; obtain ⟨Ao42, co42, eo42⟩ := Kd.N_slice HO421.out; subst eo42) | ((with_reducible refine gate_callee (f := 81) rfl ?_); refine goesL_ (some 34) rfl rfl Tryd.func81 (by kernel_rfl) rfl #[.slice Ao42 y419.length co42] rfl ka_ ?_; (with_reducible refine (impl_joined.calls kj3 _ _ y419 t422 _ ?side1 ?side2 A36.out).mono ?_); (case side1 => repeat (first | exact (Kd.N_reads' HO421.out).2.2 | (with_reducible refine Kd.C_alloc ?_ _) | (with_reducible refine Kd.C_drewN ?_ _) | (with_reducible refine Kd.C_drew ?_))); (case side2 => exact (Kd.N_reads' HO421.out).2.1); rintro e w43 ⟨v423, rfl, ho0, hb⟩; refine ⟨_, rfl, ?_⟩; have n0_ := Aside0.mk (Kd.V_elder' (by (with_reducible repeat (first | apply Kd.V_alloc | apply Kd.V_drewN | apply Kd.V_drew)); exact HO_1.out) (Kd.R_base ho0) hb); have n1_ := Aside0.mk (Kd.V_elder' (by (with_reducible repeat (first | apply Kd.V_alloc | apply Kd.V_drewN | apply Kd.V_drew)); exact HO_410001.out) (Kd.R_base ho0) hb); have n2_ := Aside0.mk (Kd.R_elder' (kr_ HO_418001) (Kd.R_base ho0) hb); have n3_ := Aside0.mk (Kd.N_elder' (by (with_reducible repeat (first | apply Kd.N_alloc | apply Kd.N_drewN | apply Kd.N_drew)); exact HO421.out) (Kd.R_base ho0) hb); have n4_ := Aside0.mk (Kd.R_lower (Kd.R_new' (Kd.R_newM (M := fun k_ => (w.heap.size ≤ k_)) ho0 (below_size hs_) (fun k_ h_ => h_)) (Kd.R_lt (kr_ HO_418001))) (below_size hs_)); have n5_ := Aside0.mk (blk_below (g := gb409) (o := .cells #[.int .i64 a0_0, .slice A0_1 l0_1.length c0_1, .bool a0_2] 46 (0, 0)) (kb_ BK409) hb); have n6_ := Aside0.mk (blk_below (g := gb410) (o := .cells #[.int .i64 0, .slice none 0 0, .bool false] 46 (0, 0)) (kb_ BK410) hb); have n7_ := Aside0.mk (blk_below (g := gb417) (o := .cells #[.int .i64 a0_0, .slice Ao15 t414.length co15, .bool a0_2] 46 (0, 0)) (kb_ BK417) hb); have n8_ := Aside0.mk (below_step hs_ hb); clear HO_1; clear HO_410001; clear HO_418001; clear HO421; clear BK409; clear BK410; clear BK417; clear HB; have HO_1 := n0_; have HO_410001 := n1_; have HO_418001 := n2_; have HO421 := n3_; have HO424 := n4_; have BK409 := n5_; have BK410 := n6_; have BK417 := n7_; have HB := n8_; clear n0_ n1_ n2_ n3_ n4_ n5_ n6_ n7_ n8_; try clear hb; (try clear ho0); have hnb44 := NB417_410.out; have hnc44 := NB410_417.out; have hcz45_0 : w43.cell? ⟨gb417, 0, none⟩ = some (.int .i64 a0_0) := (blk_cell BK417.out 0).trans rfl; have hcz45_1 : w43.cell? ⟨gb417, 1, none⟩ = some (.slice Ao15 t414.length co15) := (blk_cell BK417.out 1).trans rfl; have hcz45_2 : w43.cell? ⟨gb417, 2, none⟩ = some (.bool a0_2) := (blk_cell BK417.out 2).trans rfl; have hfz45_0 := blk_frozen BK417.out 0; have hfz45_1 := blk_frozen BK417.out 1; have hfz45_2 := blk_frozen BK417.out 2) | ((with_reducible refine gate_dst (N := 36) rfl ?_); refine Kd.R_lit (Kd.int .u8) _ 5 ?hg (N := 36) ?hd (xs := ([] : List Int)) (inner := []) (ok := fun _ => True) (okp := fun _ => True) ?hr ?hp (fun _ hk => hk) trivial (Below.refl _ _) (Nat.le_refl _) (by simp) ?_; (case hd => rfl); (case hg => rfl); (case hr => first | (go_simp; done) | (go_simp; rfl)); (case hp => exact (Reps.none _ _)); intro v426 w46 ho47 hb hg_ hnew_; clear hg_ hnew_; (first | rw [← Ny425.out] at ho47 | (simp only [Int.reduceToNat] at ho47; rw [← Ny425.out] at ho47)); have n0_ := Aside0.mk (Kd.V_elder' (by (with_reducible repeat (first | apply Kd.V_alloc | apply Kd.V_drewN | apply Kd.V_drew)); exact (Kd.V_mono (Kd.V_far (p := ⟨gb417, 1, none⟩) (Kd.V_mono HO_1.out (fun k_ hk => (⟨hk, hk.1.1.2.2.2.2⟩ : _ ∧ k_ ≠ gb417))) (fun _ hk => hk.2) (.slice none 0 0)) (fun _ h_ => h_.1))) (Kd.R_base ho47) hb); have n1_ := Aside0.mk (Kd.V_elder' (by (with_reducible repeat (first | apply Kd.V_alloc | apply Kd.V_drewN | apply Kd.V_drew)); exact (Kd.V_mono (Kd.V_far (p := ⟨gb417, 1, none⟩) (Kd.V_mono HO_410001.out (fun k_ hk => (⟨hk, hk.1.1.2.2.2.2⟩ : _ ∧ k_ ≠ gb417))) (fun _ hk => hk.2) (.slice none 0 0)) (fun _ h_ => h_.1))) (Kd.R_base ho47) hb); have n2_ := Aside0.mk (Kd.R_elder' (by (with_reducible repeat (first | apply Kd.R_alloc | apply Kd.R_drewN | apply Kd.R_drew)); exact (Kd.R_mono (Kd.R_far (p := ⟨gb417, 1, none⟩) (Kd.R_types HO_418001.out BK417.out (by decide)) (fun _ hk => hk.2) (.slice none 0 0)) (fun _ h_ => h_.1))) (Kd.R_base ho47) hb); have n3_ := Aside0.mk (Kd.N_elder' (by (with_reducible repeat (first | apply Kd.N_alloc | apply Kd.N_drewN | apply Kd.N_drew)); exact (Kd.N_mono (Kd.N_far (p := ⟨gb417, 1, none⟩) (Kd.N_mono HO421.out (fun k_ hk => (⟨hk, hk.1.2.2.2.2⟩ : _ ∧ k_ ≠ gb417))) (fun _ hk => hk.2) (.slice none 0 0)) (fun _ h_ => h_.1))) (Kd.R_base ho47) hb); have n4_ := Aside0.mk (Kd.R_elder' (by (with_reducible repeat (first | apply Kd.R_alloc | apply Kd.R_drewN | apply Kd.R_drew)); exact (Kd.R_mono (Kd.R_far (p := ⟨gb417, 1, none⟩) (Kd.R_types HO424.out BK417.out (by decide)) (fun _ hk => hk.2) (.slice none 0 0)) (fun _ h_ => h_.1))) (Kd.R_base ho47) hb); have n5_ := Aside0.mk (Kd.R_lower (Kd.R_new' (Kd.R_new' (Kd.R_newM (M := fun k_ => (w.heap.size ≤ k_)) ho47 (below_size hs_) (fun k_ h_ => h_)) (Kd.R_lt (by (with_reducible repeat (first | apply Kd.R_alloc | apply Kd.R_drewN | apply Kd.R_drew)); exact (Kd.R_mono (Kd.R_far (p := ⟨gb417, 1, none⟩) (Kd.R_types HO_418001.out BK417.out (by decide)) (fun _ hk => hk.2) (.slice none 0 0)) (fun _ h_ => h_.1))))) (Kd.R_lt (by (with_reducible repeat (first | apply Kd.R_alloc | apply Kd.R_drewN | apply Kd.R_drew)); exact (Kd.R_mono (Kd.R_far (p := ⟨gb417, 1, none⟩) (Kd.R_types HO424.out BK417.out (by decide)) (fun _ hk => hk.2) (.slice none 0 0)) (fun _ h_ => h_.1))))) (below_size hs_)); have n6_ := Aside0.mk (blk_below (g := gb409) (o := .cells #[.int .i64 a0_0, .slice A0_1 l0_1.length c0_1, .bool a0_2] 46 (0, 0)) (by (with_reducible repeat (first | refine blk_drewN ?_ _ | refine blk_drew ?_ | refine blk_alloc ?_ _)); refine blk_far ?_ NB409_417.out _; (with_reducible repeat (first | refine blk_drewN ?_ _ | refine blk_drew ?_ | refine blk_alloc ?_ _)); exact BK409.out) hb); have n7_ := Aside0.mk (blk_below (g := gb410) (o := .cells #[.int .i64 0, .slice none 0 0, .bool false] 46 (0, 0)) (by (with_reducible repeat (first | refine blk_drewN ?_ _ | refine blk_drew ?_ | refine blk_alloc ?_ _)); refine blk_far ?_ NB410_417.out _; (with_reducible repeat (first | refine blk_drewN ?_ _ | refine blk_drew ?_ | refine blk_alloc ?_ _)); exact BK410.out) hb); have n8_ := Aside0.mk (blk_below (g := gb417) (o := .cells #[.int .i64 a0_0, .slice none 0 0, .bool a0_2] 46 (0, 0)) (by (with_reducible repeat (first | refine blk_drewN ?_ _ | refine blk_drew ?_ | refine blk_alloc ?_ _)); refine blk_put (cs := #[.int .i64 a0_0, .slice Ao15 t414.length co15, .bool a0_2]) ?_ 1 _ rfl; (with_reducible repeat (first | refine blk_drewN ?_ _ | refine blk_drew ?_ | refine blk_alloc ?_ _)); exact BK417.out) hb); have n9_ := Aside0.mk (below_step hs_ hb); clear HO_1; clear HO_410001; clear HO_418001; clear HO421; clear HO424; clear BK409; clear BK410; clear BK417; clear HB; have HO_1 := n0_; have HO_410001 := n1_; have HO_418001 := n2_; have HO421 := n3_; have HO424 := n4_; have HO427 := n5_; have BK409 := n6_; have BK410 := n7_; have BK417 := n8_; have HB := n9_; clear n0_ n1_ n2_ n3_ n4_ n5_ n6_ n7_ n8_ n9_; clear hb ho47))
    go_loopg [8, 9] kj3 (fun kq v8 v9 w' => ∃ (x8_2 : List Int) (x9_2 : Int) (x418002_2 : Bool), v9 = .int .i64 x9_2 ∧ Aside0 (impl_Feed.l0 kq t422 x8_2 x9_2 a0_0 l0_1 a0_2 a0_0 x418002_2 = some (r1, r2, r3, r4)) ∧ Aside0 (kq ≤ kj3) ∧ Aside0 (Kd.R (Kd.int .u8) 5 w' w.heap.size (fun k_ => (w.heap.size ≤ k_) ∧ some k_ ≠ (v8 : Value).ownBlock) v423 t422) ∧ Aside0 (Kd.R (Kd.int .u8) 5 w' w.heap.size (fun k_ => (w.heap.size ≤ k_) ∧ some k_ ≠ (v423 : Value).ownBlock) v8 x8_2) ∧ Aside0 (Kd.V (Kd.int .u8) 5 w' w.heap.size (fun k_ => ((P0_1_ k_ ∨ P1_ k_) ∨ w.heap.size ≤ k_) ∧ some k_ ≠ (v423 : Value).ownBlock ∧ some k_ ≠ (v8 : Value).ownBlock ∧ k_ ≠ gb409 ∧ k_ ≠ gb410 ∧ k_ ≠ gb417) (.slice A0_1 l0_1.length c0_1) l0_1) ∧ Aside0 (w'.heap[gb409]? = some (.cells #[.int .i64 a0_0, (.slice A0_1 l0_1.length c0_1), .bool a0_2] 46 (0, 0))) ∧ Aside0 (w'.heap[gb410]? = some (.cells #[.int .i64 0, (.slice none 0 0), .bool false] 46 (0, 0))) ∧ Aside0 (w'.heap[gb417]? = some (.cells #[.int .i64 a0_0, (.slice none 0 0), .bool x418002_2] 46 (0, 0))) ∧ Aside0 (Below w.heap.size w w'))
    case atStart => exact ⟨(y425), (0), (a0_2), (by first | rfl | (simp; done) | (simp [*]; done)), H', ⟨Nat.le_refl _⟩, ⟨by (with_reducible repeat (first | apply Kd.R_alloc | apply Kd.R_drewN | apply Kd.R_drew)); exact Kd.R_mono HO424.out (fun _ hk => ⟨hk.1.1.1, hk.2⟩)⟩, ⟨by (with_reducible repeat (first | apply Kd.R_alloc | apply Kd.R_drewN | apply Kd.R_drew)); exact Kd.R_mono HO427.out (fun _ hk => ⟨hk.1.1.1, hk.2⟩)⟩, ⟨by (with_reducible repeat (first | apply Kd.V_alloc | apply Kd.V_drewN | apply Kd.V_drew)); exact Kd.V_mono HO_410001.out (fun _ hk => ⟨hk.1.1.1.1, ⟨hk.1.2, ⟨hk.2, ⟨hk.1.1.1.2.2.1, ⟨hk.1.1.1.2.2.2.1, hk.1.1.1.2.2.2.2⟩⟩⟩⟩⟩)⟩, ⟨by (with_reducible repeat (first | refine blk_drewN ?_ _ | refine blk_drew ?_ | refine blk_alloc ?_ _)); exact BK409.out⟩, ⟨by (with_reducible repeat (first | refine blk_drewN ?_ _ | refine blk_drew ?_ | refine blk_alloc ?_ _)); exact BK410.out⟩, ⟨by (with_reducible repeat (first | refine blk_drewN ?_ _ | refine blk_drew ?_ | refine blk_alloc ?_ _)); exact BK417.out⟩, ⟨by repeat (first | (with_reducible first | exact HB.out | apply below_alloc | apply pw_below_drewN | apply below_drew1 | refine below_set ?_ GE409.out | refine below_set ?_ GE410.out | refine below_set ?_ GE417.out) | exact HB.out)⟩⟩
    case round =>
     clear H'
     try clear c1
     try clear c2
     try clear p2
     try clear c3
     try clear c4
     try clear c8
     try clear c20
     try clear c21
     try clear c22
     try clear c26
     try clear c27
     try clear c30
     try clear c31
     try clear c32
     try clear c34
     try clear c37
     try clear c38
     try clear c44
     try clear c47
     try clear hcz23_0
     try clear hcz23_1
     try clear hcz23_2
     try clear hcz25_0
     try clear hcz25_1
     try clear hcz25_2
     try clear hcz28_0
     try clear hcz28_1
     try clear hcz28_2
     try clear hcz33_0
     try clear hcz33_1
     try clear hcz33_2
     try clear hcz35_0
     try clear hcz35_1
     try clear hcz35_2
     try clear hcz39_0
     try clear hcz39_1
     try clear hcz39_2
     try clear hcz45_0
     try clear hcz45_1
     try clear hcz45_2
     try clear hfz23_0
     try clear hfz23_1
     try clear hfz23_2
     try clear hfz25_0
     try clear hfz25_1
     try clear hfz25_2
     try clear hfz28_0
     try clear hfz28_1
     try clear hfz28_2
     try clear hfz33_0
     try clear hfz33_1
     try clear hfz33_2
     try clear hfz35_0
     try clear hfz35_1
     try clear hfz35_2
     try clear hfz39_0
     try clear hfz39_1
     try clear hfz39_2
     try clear hfz45_0
     try clear hfz45_1
     try clear hfz45_2
     try clear p2
     obtain ⟨x8_2, x9_2, x418002_2, rfl, HA, HK2, HO_7, HO_8, HO_410001, BK409, BK410, BK417, HB⟩ := hrel
     cases gk with
     | zero => exact absurd HA.out (by simp [impl_Feed.l0])
     | succ k2 =>
      have H := HA.out
      clear HA
      simp only [impl_Feed.l0] at H
      by_cases c48 : x9_2 < (t422.length : Int)
      ·rw [if_pos c48] at H
       have c48b0 : decide (x9_2 < (t422.length : Int)) = true := decide_eq_true c48
       clear c48
       replace H := Option.bind_eq_some_iff.mp H
       obtain ⟨⟨t428, t429, t430⟩, A490, H⟩ := H
       try dsimp only at H
       have A49 := Aside0.mk A490
       clear A490
       by_cases c50 : t430 = true
       ·subst c50
        rw [if_pos rfl] at H
        replace H := Option.bind_eq_some_iff.mp H
        obtain ⟨t431, A510, H⟩ := H
        try dsimp only at H
        have A51 := Aside0.mk A510
        clear A510
        have H' := Aside0.mk H
        clear H
        obtain ⟨Ao52, co52, eo52⟩ := Kd.R_slice HO_7.out
        subst eo52
        have hnb53 := NB409_410.out
        have hnc53 := NB410_409.out
        have hnb54 := NB409_417.out
        have hnc54 := NB417_409.out
        have hcz55_0 : wr.cell? ⟨gb409, 0, none⟩ = some (.int .i64 a0_0) := (blk_cell BK409.out 0).trans rfl
        have hcz55_1 : wr.cell? ⟨gb409, 1, none⟩ = some (.slice A0_1 l0_1.length c0_1) := (blk_cell BK409.out 1).trans rfl
        have hcz55_2 : wr.cell? ⟨gb409, 2, none⟩ = some (.bool a0_2) := (blk_cell BK409.out 2).trans rfl
        have hfz55_0 := blk_frozen BK409.out 0
        have hfz55_1 := blk_frozen BK409.out 1
        have hfz55_2 := blk_frozen BK409.out 2
        go_wp2_with (first | ((with_reducible refine gate_callee (f := 82) rfl ?_); refine goesL_ (some 46) rfl rfl Tryd.func82 (by kernel_rfl) rfl #[.int .i64 a0_0, .slice Ao52 t422.length co52, .int .i64 x9_2] rfl ka_ ?_; (with_reducible refine (impl_signIn.calls (hT := ?sideT) k2 a0_0 _ _ t422 x9_2 t428 t429 true _ ?side1 ?side2 A49.out).mono ?_); (case sideT => first | exact HT.out | exact HT.out.below hs_ | exact HT.out.drawn (by repeat (first | exact Drawn0.refl _ | apply Drawn0.step | assumption))); (case side1 => exact kc_ (Kd.R_reads' HO_7.out).2.2); (case side2 => exact (Kd.R_reads' HO_7.out).2.1); rintro e w56 ⟨rfl, hb⟩; refine ⟨_, rfl, ?_⟩; have n0_ := Aside0.mk (Kd.R_below (kr_ HO_7) hb); have n1_ := Aside0.mk (Kd.R_below (kr_ HO_8) hb); have n2_ := Aside0.mk (Kd.V_below (by (with_reducible repeat (first | apply Kd.V_alloc | apply Kd.V_drewN | apply Kd.V_drew)); exact HO_410001.out) hb); have n3_ := Aside0.mk (blk_below (g := gb409) (o := .cells #[.int .i64 a0_0, .slice A0_1 l0_1.length c0_1, .bool a0_2] 46 (0, 0)) (kb_ BK409) hb); have n4_ := Aside0.mk (blk_below (g := gb410) (o := .cells #[.int .i64 0, .slice none 0 0, .bool false] 46 (0, 0)) (kb_ BK410) hb); have n5_ := Aside0.mk (blk_below (g := gb417) (o := .cells #[.int .i64 a0_0, .slice none 0 0, .bool x418002_2] 46 (0, 0)) (kb_ BK417) hb); have n6_ := Aside0.mk (below_step hs_ hb); clear HO_7; clear HO_8; clear HO_410001; clear BK409; clear BK410; clear BK417; clear HB; have HO_7 := n0_; have HO_8 := n1_; have HO_410001 := n2_; have BK409 := n3_; have BK410 := n4_; have BK417 := n5_; have HB := n6_; clear n0_ n1_ n2_ n3_ n4_ n5_ n6_; try clear hb; obtain ⟨Ao57, co57, eo57⟩ := Kd.R_slice HO_8.out; subst eo57) | ((with_reducible refine gate_callee (f := 84) rfl ?_); refine goesL_ (some 67) rfl rfl Tryd.func84 (by kernel_rfl) rfl #[.slice Ao57 x8_2.length co57, .int .i64 t428] rfl ka_ ?_; (with_reducible refine (impl_PutSign.calls k2 (fun k_ => some k_ = (.slice Ao57 x8_2.length co57 : Value).ownBlock) _ _ x8_2 t428 t431 _ ?side1 A51.out).mono ?_); (case side1 => exact Kd.R_V (Kd.R_tight rfl (Kd.R_types (Kd.R_types (Kd.R_types (HO_8.out) BK409.out (by decide)) BK410.out (by decide)) BK417.out (by decide)))); rintro e w58 ⟨v432, rfl, ho0, hb⟩; refine ⟨_, rfl, ?_⟩; have n0_ := Aside0.mk (Kd.R_elder' (kr_ HO_7) (Kd.R_base ho0) hb); have n1_ := Aside0.mk (Kd.R_elder' (kr_ HO_8) (Kd.R_base ho0) hb); have n2_ := Aside0.mk (Kd.V_elder' (by (with_reducible repeat (first | apply Kd.V_alloc | apply Kd.V_drewN | apply Kd.V_drew)); exact HO_410001.out) (Kd.R_base ho0) hb); have n3_ := Aside0.mk (Kd.R_lower (Kd.R_new' (Kd.R_new' (Kd.R_newM (M := fun k_ => (w.heap.size ≤ k_)) (Kd.R_mono (ok' := fun k_ => True) ho0 (fun _ hk_ => trivial)) (below_size hs_) (fun k_ h_ => h_)) (Kd.R_lt (kr_ HO_7))) (Kd.R_lt (kr_ HO_8))) (below_size hs_)); have n4_ := Aside0.mk (blk_below (g := gb409) (o := .cells #[.int .i64 a0_0, .slice A0_1 l0_1.length c0_1, .bool a0_2] 46 (0, 0)) (kb_ BK409) hb); have n5_ := Aside0.mk (blk_below (g := gb410) (o := .cells #[.int .i64 0, .slice none 0 0, .bool false] 46 (0, 0)) (kb_ BK410) hb); have n6_ := Aside0.mk (blk_below (g := gb417) (o := .cells #[.int .i64 a0_0, .slice none 0 0, .bool x418002_2] 46 (0, 0)) (kb_ BK417) hb); have n7_ := Aside0.mk (below_step hs_ hb); clear HO_7; clear HO_8; clear HO_410001; clear BK409; clear BK410; clear BK417; clear HB; have HO_7 := n0_; have HO_8 := n1_; have HO_410001 := n2_; have HO433 := n3_; have BK409 := n4_; have BK410 := n5_; have BK417 := n6_; have HB := n7_; clear n0_ n1_ n2_ n3_ n4_ n5_ n6_ n7_; try clear hb; (try clear ho0)))
        go_roundg k2
        case measure => have := HJ3.out; have := HK2.out; omega
        case rel => exact ⟨(t431), (t429), (x418002_2), (by first | rfl | (simp; done) | (simp [*]; done)), H', ⟨by have := HJ3.out; have := HK2.out; omega⟩, ⟨by (with_reducible repeat (first | apply Kd.R_alloc | apply Kd.R_drewN | apply Kd.R_drew)); exact Kd.R_mono HO_7.out (fun _ hk => ⟨hk.1.1, hk.2⟩)⟩, ⟨by (with_reducible repeat (first | apply Kd.R_alloc | apply Kd.R_drewN | apply Kd.R_drew)); exact Kd.R_mono HO433.out (fun _ hk => ⟨hk.1.1.1, hk.1.2⟩)⟩, ⟨by (with_reducible repeat (first | apply Kd.V_alloc | apply Kd.V_drewN | apply Kd.V_drew)); exact Kd.V_mono HO_410001.out (fun _ hk => ⟨hk.1.1, ⟨hk.1.2.1, ⟨hk.2, ⟨hk.1.2.2.2.1, ⟨hk.1.2.2.2.2.1, hk.1.2.2.2.2.2⟩⟩⟩⟩⟩)⟩, ⟨by (with_reducible repeat (first | refine blk_drewN ?_ _ | refine blk_drew ?_ | refine blk_alloc ?_ _)); exact BK409.out⟩, ⟨by (with_reducible repeat (first | refine blk_drewN ?_ _ | refine blk_drew ?_ | refine blk_alloc ?_ _)); exact BK410.out⟩, ⟨by (with_reducible repeat (first | refine blk_drewN ?_ _ | refine blk_drew ?_ | refine blk_alloc ?_ _)); exact BK417.out⟩, ⟨by repeat (first | (with_reducible first | exact HB.out | apply below_alloc | apply pw_below_drewN | apply below_drew1 | refine below_set ?_ GE409.out | refine below_set ?_ GE410.out | refine below_set ?_ GE417.out) | exact HB.out)⟩⟩
       ·replace c50 := Bool.eq_false_iff.mpr c50
        subst c50
        rw [if_neg (show ¬ (false = true) by decide)] at H
        by_cases c59 : 0 ≤ x9_2
        ·rw [if_pos c59] at H
         have c59b0 := eq_true c59
         have c59b1 : decide (0 ≤ x9_2) = true := decide_eq_true c59
         clear c59
         by_cases c60 : x9_2 ≤ (t422.length : Int)
         ·rw [if_pos c60] at H
          have c60b0 := eq_true c60
          have c60b1 : decide (x9_2 ≤ (t422.length : Int)) = true := decide_eq_true c60
          clear c60
          obtain ⟨y434, hy434⟩ : ∃ y_ : List Int, y_ = (t422.drop (x9_2 : Int).toNat) := ⟨_, rfl⟩
          replace H : ((impl_begins.f a0_0 y434).bind fun t439 => (if t439 = true then ((impl_joined.f k2 (([(t422.drop (x9_2 : Int).toNat)] : List (List Int)))).bind fun t448 => (some (a0_0, t448, x418002_2, strOfNums x8_2))) else (some (a0_0, ([] : List Int), true, strOfNums x8_2)))) = some (r1, r2, r3, r4) := by first | (rw [hy434]; with_reducible exact H) | (have H2_ := (Option.bind_some _ _).symm.trans H; rw [hy434]; with_reducible exact H2_) | (have H2_ := (Option.bind_some _ _).symm.trans H; with_reducible exact H2_) | with_reducible exact H | (rw [hy434]; exact H) | exact H
          have Ny434 := Aside0.mk hy434
          clear hy434
          replace H := Option.bind_eq_some_iff.mp H
          obtain ⟨t439, A610, H⟩ := H
          try dsimp only at H
          have A61 := Aside0.mk A610
          clear A610
          by_cases c62 : t439 = true
          ·subst c62
           rw [if_pos rfl] at H
           have c63b0 := eq_true (of_decide_eq_true as_ : 0 ≤ x9_2)
           have c64b0 := eq_true (of_decide_eq_true as_ : x9_2 ≤ (t422.length : Int))
           obtain ⟨y440, hy440⟩ : ∃ y_ : List Int, y_ = (t422.drop (x9_2 : Int).toNat) := ⟨_, rfl⟩
           replace H : ((impl_joined.f k2 (([y440] : List (List Int)))).bind fun t448 => (some (a0_0, t448, x418002_2, strOfNums x8_2))) = some (r1, r2, r3, r4) := by first | (rw [hy440]; with_reducible exact H) | (have H2_ := (Option.bind_some _ _).symm.trans H; rw [hy440]; with_reducible exact H2_) | (have H2_ := (Option.bind_some _ _).symm.trans H; with_reducible exact H2_) | with_reducible exact H | (rw [hy440]; exact H) | exact H
           have Ny440 := Aside0.mk hy440
           clear hy440
           obtain ⟨y445, hy445⟩ : ∃ y_ : List (List Int), y_ = (([y440] : List (List Int))) := ⟨_, rfl⟩
           replace H : ((impl_joined.f k2 y445).bind fun t448 => (some (a0_0, t448, x418002_2, strOfNums x8_2))) = some (r1, r2, r3, r4) := by first | (rw [hy445]; with_reducible exact H) | (have H2_ := (Option.bind_some _ _).symm.trans H; rw [hy445]; with_reducible exact H2_) | (have H2_ := (Option.bind_some _ _).symm.trans H; with_reducible exact H2_) | with_reducible exact H | (rw [hy445]; exact H) | exact H
           have Ny445 := Aside0.mk hy445
           clear hy445
           replace H := Option.bind_eq_some_iff.mp H
           obtain ⟨t448, A650, H⟩ := H
           try dsimp only at H
           have A65 := Aside0.mk A650
           clear A650
           simp only [Option.some.injEq, Prod.mk.injEq] at H
           obtain ⟨rfl, rfl, rfl, rfl⟩ := H
           obtain ⟨Ao66, co66, eo66⟩ := Kd.R_slice HO_7.out
           subst eo66
           have hnb67 := NB409_410.out
           have hnc67 := NB410_409.out
           have hnb68 := NB409_417.out
           have hnc68 := NB417_409.out
           have hcz69_0 : wr.cell? ⟨gb409, 0, none⟩ = some (.int .i64 a0_0) := (blk_cell BK409.out 0).trans rfl
           have hcz69_1 : wr.cell? ⟨gb409, 1, none⟩ = some (.slice A0_1 l0_1.length c0_1) := (blk_cell BK409.out 1).trans rfl
           have hcz69_2 : wr.cell? ⟨gb409, 2, none⟩ = some (.bool a0_2) := (blk_cell BK409.out 2).trans rfl
           have hfz69_0 := blk_frozen BK409.out 0
           have hfz69_1 := blk_frozen BK409.out 1
           have hfz69_2 := blk_frozen BK409.out 2
           try go_wp2_with (first | ((with_reducible refine gate_callee (f := 82) rfl ?_); refine goesL_ (some 46) rfl rfl Tryd.func82 (by kernel_rfl) rfl #[.int .i64 a0_0, .slice Ao66 t422.length co66, .int .i64 x9_2] rfl ka_ ?_; (with_reducible refine (impl_signIn.calls (hT := ?sideT) k2 a0_0 _ _ t422 x9_2 t428 t429 false _ ?side1 ?side2 A49.out).mono ?_); (case sideT => first | exact HT.out | exact HT.out.below hs_ | exact HT.out.drawn (by repeat (first | exact Drawn0.refl _ | apply Drawn0.step | assumption))); (case side1 => exact kc_ (Kd.R_reads' HO_7.out).2.2); (case side2 => exact (Kd.R_reads' HO_7.out).2.1); rintro e w70 ⟨rfl, hb⟩; refine ⟨_, rfl, ?_⟩; have n0_ := Aside0.mk (Kd.R_below (kr_ HO_7) hb); have n1_ := Aside0.mk (Kd.R_below (kr_ HO_8) hb); have n2_ := Aside0.mk (Kd.V_below (by (with_reducible repeat (first | apply Kd.V_alloc | apply Kd.V_drewN | apply Kd.V_drew)); exact HO_410001.out) hb); have n3_ := Aside0.mk (blk_below (g := gb409) (o := .cells #[.int .i64 a0_0, .slice A0_1 l0_1.length c0_1, .bool a0_2] 46 (0, 0)) (kb_ BK409) hb); have n4_ := Aside0.mk (blk_below (g := gb410) (o := .cells #[.int .i64 0, .slice none 0 0, .bool false] 46 (0, 0)) (kb_ BK410) hb); have n5_ := Aside0.mk (blk_below (g := gb417) (o := .cells #[.int .i64 a0_0, .slice none 0 0, .bool x418002_2] 46 (0, 0)) (kb_ BK417) hb); have n6_ := Aside0.mk (below_step hs_ hb); clear HO_7; clear HO_8; clear HO_410001; clear BK409; clear BK410; clear BK417; clear HB; have HO_7 := n0_; have HO_8 := n1_; have HO_410001 := n2_; have BK409 := n3_; have BK410 := n4_; have BK417 := n5_; have HB := n6_; clear n0_ n1_ n2_ n3_ n4_ n5_ n6_; try clear hb))
           have n0_ := Aside0.mk (Kd.R_drew HO_7.out)
           have n1_ := Aside0.mk (Kd.R_drew HO_8.out)
           have n2_ := Aside0.mk (Kd.V_drew HO_410001.out)
           have n3_ := Aside0.mk (blk_drew BK409.out)
           have n4_ := Aside0.mk (blk_drew BK410.out)
           have n5_ := Aside0.mk (blk_drew BK417.out)
           have n6_ := Aside0.mk (below_drew1 HB.out)
           clear HO_7
           clear HO_8
           clear HO_410001
           clear BK409
           clear BK410
           clear BK417
           clear HB
           have HO_7 := n0_
           have HO_8 := n1_
           have HO_410001 := n2_
           have BK409 := n3_
           have BK410 := n4_
           have BK417 := n5_
           have HB := n6_
           clear n0_ n1_ n2_ n3_ n4_ n5_ n6_
           have q72 : (x9_2 : Int) ≤ ((t422.length : Int) : Int) := of_decide_eq_true as_
           obtain ⟨i072, hi072, _, hsz72, _⟩ := info_parts info5
           have hroom72 : t422.length ≤ co66 := (Kd.R_reads' HO_7.out).2.1
           have hC72 : Kd.F (Kd.int .u8) _ _ Ao66 t422.length t422 := (Kd.V_at (base := w.heap.size) (Kd.V_mono (ok' := (fun k_ => ((((((P0_1_ k_ ∨ P1_ k_) ∨ w.heap.size ≤ k_) ∧ some k_ ≠ (u8 : Value).ownBlock) ∧ k_ ≠ gb409) ∧ k_ ≠ gb410) ∧ k_ ≠ gb417))) (Kd.R_V (Kd.R_types (Kd.R_types (Kd.R_types (HO_7.out) BK409.out (by decide)) BK410.out (by decide)) BK417.out (by decide))) (fun k_ hk => ⟨⟨⟨⟨(.inr (hk.1.1.1.1)), hk.1.1.1.2⟩, hk.1.1.2⟩, hk.1.2⟩, hk.2⟩))).2.2
           have q072 : (0 : Int) ≤ (x9_2 : Int) := of_decide_eq_true as_
           have hcut72 := cut_from (P := Tryd.prog) 23 5 .i64 Tryd.underlying23 hi072 1 hsz72 Ao66 t422.length co66 x9_2 q072 q72
           have hr72 := Kd.F_cut (m := (x9_2 : Int).toNat) (c := co66) hC72 (by omega) hroom72
           obtain ⟨A72, hA72⟩ : ∃ A1, A1 = (if co66 = (x9_2 : Int).toNat then Ao66 else (Ao66 : Option Addr).map (·.add ((x9_2 : Int).toNat * 1))) := ⟨_, rfl⟩
           obtain ⟨c72, hc72⟩ : ∃ c1, c1 = co66 - (x9_2 : Int).toNat := ⟨_, rfl⟩
           have hy72 : y434.length = t422.length - (x9_2 : Int).toNat := (by rw [Ny434.out, List.length_drop] <;> omega)
           rw [show (t422).drop (x9_2 : Int).toNat = y434 from Ny434.out.symm] at hr72
           replace hr72 : Kd.F (Kd.int .u8) _ _ A72 y434.length y434 := (by rw [hA72]; exact hr72)
           rw [← hy72, ← hA72, ← hc72] at hcut72
           have HO438 := Aside0.mk (show Kd.V (Kd.int .u8) 5 _ w.heap.size _ (.slice A72 y434.length c72) y434 from Kd.V_mk (by rw [hy72, hc72]; exact Nat.sub_le_sub_right hroom72 _) hr72)
           have HC438 := Aside0.mk (show y434.length ≤ c72 from by rw [hy72, hc72]; exact Nat.sub_le_sub_right hroom72 _)
           clear hr72 hC72 hroom72 hi072 hsz72 hc72
           have KY72 := Aside0.mk hy72
           have KA72 := Aside0.mk hA72
           clear hy72 hA72
           replace q72 := eq_true q72
           refine start_ (n := 6) (S := fun w' => w'.cell? ⟨gb409, 0, none⟩ = some (.int .i64 a0_0) ∧ w'.cell? ⟨gb409, 1, none⟩ = some (.slice A0_1 l0_1.length c0_1) ∧ w'.cell? ⟨gb409, 2, none⟩ = some (.bool a0_2)) (ds := []) #[false, false, false, false, false, false] (by kernel_rfl) rfl rfl ⟨(blk_cell BK409.out 0).trans rfl, (blk_cell BK409.out 1).trans rfl, (blk_cell BK409.out 2).trans rfl⟩ (fun hHeld => ?_)
           generalize w70.drew = w71 at HO_7 HO_8 HO_410001 BK409 BK410 BK417 HB HO438 hHeld ⊢
           refine pure_ (i := 0) (N := some 52) (v := ?_) (a' := ?_) #[true, false, false, false, false, false] rfl rfl (by kernel_rfl) (fun _ _ _ h => h) (Or.inl ⟨by rfl, ?_⟩) ?_ ?_
           rotate_left
           ·intro w'
            go_simp
            with_reducible rfl
           rotate_left
           ·simp only [Act.put, List.setIfInBounds_toArray, List.set_cons_zero, List.set_cons_succ, i64_w, i32_w]
            rfl
           refine pure_ (i := 2) (N := some 54) (v := ?_) (a' := ?_) #[true, false, true, false, false, false] rfl rfl (by kernel_rfl) (fun _ _ _ h => h) (Or.inl ⟨by rfl, ?_⟩) ?_ ?_
           rotate_left
           ·intro w'
            go_simp
            with_reducible rfl
           rotate_left
           ·simp only [Act.put, List.setIfInBounds_toArray, List.set_cons_zero, List.set_cons_succ, i64_w, i32_w]
            rfl
           refine pure_ (i := 3) (N := some 55) (v := ?_) (a' := ?_) #[true, false, true, true, false, false] rfl rfl (by kernel_rfl) (fun _ _ _ h => h) (Or.inl ⟨by rfl, ?_⟩) ?_ ?_
           rotate_left
           ·intro w'
            go_simp
            with_reducible rfl
           rotate_left
           ·simp only [Act.put, List.setIfInBounds_toArray, List.set_cons_zero, List.set_cons_succ, i64_w, i32_w]
            rfl
           refine pure_ (i := 4) (N := some 56) (v := ?_) (a' := ?_) #[true, false, true, true, true, false] rfl rfl (by kernel_rfl) (fun _ _ _ h => h) (Or.inl ⟨by rfl, ?_⟩) ?_ ?_
           rotate_left
           ·intro w'
            go_simp
            with_reducible rfl
           rotate_left
           ·simp only [Act.put, List.setIfInBounds_toArray, List.set_cons_zero, List.set_cons_succ, i64_w, i32_w]
            rfl
           refine take_ (i := 1) (N := some 53) (v := ?_) (a' := ?_) #[true, true, true, true, true, false] rfl rfl (by kernel_rfl) (fun _ _ _ h => h) (Or.inl ⟨by rfl, ?_⟩) hHeld ?_ ?_
           rotate_left
           ·rintro w' ⟨s0, s1, s2⟩
            go_simp
            with_reducible rfl
           rotate_left
           ·simp only [Act.put, List.setIfInBounds_toArray, List.set_cons_zero, List.set_cons_succ, i64_w, i32_w]
            rfl
           refine one_ (i := 5) (N := some 57) #[true, true, true, true, true, true] rfl rfl (by kernel_rfl) (by decide) (fun K hK => ?_)
           refine goes_ Tryd.func83 (by kernel_rfl) rfl #[.int .i64 a0_0, .slice A72 y434.length c72] (by rfl) rfl rfl ka_ ?_
           with_reducible refine (impl_begins.calls (hT := ?sideT) a0_0 _ _ y434 true _ ?side1 ?side2 A61.out).mono ?_; (case sideT => first | exact HT.out | exact HT.out.below hs_ | exact HT.out.drawn (by repeat (first | exact Drawn0.refl _ | apply Drawn0.step | assumption)))
           (case side1 => repeat (first | exact (Kd.V_reads' HO438.out).2.2 | (with_reducible refine Kd.C_alloc ?_ _) | (with_reducible refine Kd.C_drewN ?_ _) | (with_reducible refine Kd.C_drew ?_)))
           (case side2 => exact (Kd.V_reads' HO438.out).2.1)
           rintro e w73 ⟨rfl, hb⟩
           refine ⟨_, rfl, ?_⟩
           have n0_ := Aside0.mk (Kd.R_below (kr_ HO_7) hb)
           have n1_ := Aside0.mk (Kd.R_below (kr_ HO_8) hb)
           have n2_ := Aside0.mk (Kd.V_below (by (with_reducible repeat (first | apply Kd.V_alloc | apply Kd.V_drewN | apply Kd.V_drew)); exact HO_410001.out) hb)
           have n3_ := Aside0.mk (Kd.V_below (by (with_reducible repeat (first | apply Kd.V_alloc | apply Kd.V_drewN | apply Kd.V_drew)); exact HO438.out) hb)
           have n4_ := Aside0.mk (blk_below (g := gb409) (o := .cells #[.int .i64 a0_0, .slice A0_1 l0_1.length c0_1, .bool a0_2] 46 (0, 0)) (kb_ BK409) hb)
           have n5_ := Aside0.mk (blk_below (g := gb410) (o := .cells #[.int .i64 0, .slice none 0 0, .bool false] 46 (0, 0)) (kb_ BK410) hb)
           have n6_ := Aside0.mk (blk_below (g := gb417) (o := .cells #[.int .i64 a0_0, .slice none 0 0, .bool x418002_2] 46 (0, 0)) (kb_ BK417) hb)
           have n7_ := Aside0.mk (below_step hs_ hb)
           clear HO_7
           clear HO_8
           clear HO_410001
           clear HO438
           clear BK409
           clear BK410
           clear BK417
           clear HB
           have HO_7 := n0_
           have HO_8 := n1_
           have HO_410001 := n2_
           have HO438 := n3_
           have BK409 := n4_
           have BK410 := n5_
           have BK417 := n6_
           have HB := n7_
           clear n0_ n1_ n2_ n3_ n4_ n5_ n6_ n7_
           (try clear hb)
           (try clear hb2)
           (try clear hk)
           (try clear hi)
           refine hK.out _ _ ⟨(blk_cell BK409.out 0).trans rfl, (blk_cell BK409.out 1).trans rfl, (blk_cell BK409.out 2).trans rfl⟩ (fun hHeld => ?_)
           clear hK K
           refine norm_ (a' := ?_) ?_ ?_
           rotate_left
           ·show Act.put _ (some 57) _ = _
            simp only [Act.put, List.setIfInBounds_toArray, List.set_cons_zero, List.set_cons_succ, i64_w, i32_w]
            rfl
           refine done_ (by kernel_rfl) ?_
           have q74 : (x9_2 : Int) ≤ ((t422.length : Int) : Int) := of_decide_eq_true as_
           obtain ⟨i074, hi074, _, hsz74, _⟩ := info_parts info5
           have hroom74 : t422.length ≤ co66 := (Kd.R_reads' HO_7.out).2.1
           have hC74 : Kd.F (Kd.int .u8) _ _ Ao66 t422.length t422 := (Kd.V_at (base := w.heap.size) (Kd.V_mono (ok' := (fun k_ => ((((((P0_1_ k_ ∨ P1_ k_) ∨ w.heap.size ≤ k_) ∧ some k_ ≠ (u8 : Value).ownBlock) ∧ k_ ≠ gb409) ∧ k_ ≠ gb410) ∧ k_ ≠ gb417))) (Kd.R_V (Kd.R_types (Kd.R_types (Kd.R_types (HO_7.out) BK409.out (by decide)) BK410.out (by decide)) BK417.out (by decide))) (fun k_ hk => ⟨⟨⟨⟨(.inr (hk.1.1.1.1)), hk.1.1.1.2⟩, hk.1.1.2⟩, hk.1.2⟩, hk.2⟩))).2.2
           have q074 : (0 : Int) ≤ (x9_2 : Int) := of_decide_eq_true as_
           (try clear hcut72)
           have hcut74 := cut_from (P := Tryd.prog) 23 5 .i64 Tryd.underlying23 hi074 1 hsz74 Ao66 t422.length co66 x9_2 q074 q74
           have hr74 := Kd.F_cut (m := (x9_2 : Int).toNat) (c := co66) hC74 (by omega) hroom74
           obtain ⟨A74, hA74⟩ : ∃ A1, A1 = (if co66 = (x9_2 : Int).toNat then Ao66 else (Ao66 : Option Addr).map (·.add ((x9_2 : Int).toNat * 1))) := ⟨_, rfl⟩
           obtain ⟨c74, hc74⟩ : ∃ c1, c1 = co66 - (x9_2 : Int).toNat := ⟨_, rfl⟩
           have hy74 : y440.length = t422.length - (x9_2 : Int).toNat := (by rw [Ny440.out, List.length_drop] <;> omega)
           rw [show (t422).drop (x9_2 : Int).toNat = y440 from Ny440.out.symm] at hr74
           replace hr74 : Kd.F (Kd.int .u8) _ _ A74 y440.length y440 := (by rw [hA74]; exact hr74)
           rw [← hy74, ← hA74, ← hc74] at hcut74
           have HO444 := Aside0.mk (show Kd.V (Kd.int .u8) 5 _ w.heap.size _ (.slice A74 y440.length c74) y440 from Kd.V_mk (by rw [hy74, hc74]; exact Nat.sub_le_sub_right hroom74 _) hr74)
           have HC444 := Aside0.mk (show y440.length ≤ c74 from by rw [hy74, hc74]; exact Nat.sub_le_sub_right hroom74 _)
           clear hr74 hC74 hroom74 hi074 hsz74 hc74
           have KY74 := Aside0.mk hy74
           have KA74 := Aside0.mk hA74
           clear hy74 hA74
           replace q74 := eq_true q74
           try go_wp2_with (first | ((with_reducible refine gate_dst (N := 61) rfl ?_); refine Kd.N_lit (Kd.slice 5 (Kd.int .u8)) _ 23 ?hg (N' := 61) ?hd (xs := ([y440] : List (List Int))) (inner := [.slice A74 y440.length c74]) (ok := (fun k_ => ((P0_1_ k_ ∨ P1_ k_) ∨ w.heap.size ≤ k_) ∧ some k_ ≠ (u8 : Value).ownBlock ∧ k_ ≠ gb409 ∧ k_ ≠ gb410 ∧ k_ ≠ gb417)) (okp := (fun k_ => ((P0_1_ k_ ∨ P1_ k_) ∨ w.heap.size ≤ k_) ∧ some k_ ≠ (u8 : Value).ownBlock ∧ k_ ≠ gb409 ∧ k_ ≠ gb410 ∧ k_ ≠ gb417)) ?hr ?hp (fun _ hk => hk) ((show ∀ k_, w73.heap.size ≤ k_ → (fun k_ => ((P0_1_ k_ ∨ P1_ k_) ∨ w.heap.size ≤ k_) ∧ some k_ ≠ (u8 : Value).ownBlock ∧ k_ ≠ gb409 ∧ k_ ≠ gb410 ∧ k_ ≠ gb417) k_ from fun k_ hk => ⟨(.inr (Nat.le_trans (below_size hs_) hk)), Kd.fresh' (Kd.R_lt (kr_ HO_8)) k_ hk, Kd.freshB (g := gb409) (o := .cells #[.int .i64 a0_0, .slice A0_1 l0_1.length c0_1, .bool a0_2] 46 (0, 0)) (kb_ BK409) k_ hk, Kd.freshB (g := gb410) (o := .cells #[.int .i64 0, .slice none 0 0, .bool false] 46 (0, 0)) (kb_ BK410) k_ hk, Kd.freshB (g := gb417) (o := .cells #[.int .i64 a0_0, .slice none 0 0, .bool x418002_2] 46 (0, 0)) (kb_ BK417) k_ hk⟩) _ (Nat.le_refl _)) (Below.refl _ _) (Nat.le_refl _) (by simp) ?_; (case hd => rfl); (case hg => rfl); (case hr => first | (go_simp; done) | (go_simp; rfl)); (case hp => exact (Reps.one (show Kd.FK (Kd.slice 5 (Kd.int .u8)) _ _ y440 [.slice A74 y440.length c74] from (Kd.FK_slice_mk (Kd.V_reads' (Kd.V_mono (ok' := (fun k_ => ((P0_1_ k_ ∨ P1_ k_) ∨ w.heap.size ≤ k_) ∧ some k_ ≠ (u8 : Value).ownBlock ∧ k_ ≠ gb409 ∧ k_ ≠ gb410 ∧ k_ ≠ gb417)) (HO444.out) (fun k_ hk => ⟨hk.1.1.1.1, ⟨hk.1.1.1.2, ⟨hk.1.1.2, ⟨hk.1.2, hk.2⟩⟩⟩⟩))).2.1 (Kd.V_F (Kd.V_mono (ok' := (fun k_ => ((P0_1_ k_ ∨ P1_ k_) ∨ w.heap.size ≤ k_) ∧ some k_ ≠ (u8 : Value).ownBlock ∧ k_ ≠ gb409 ∧ k_ ≠ gb410 ∧ k_ ≠ gb417)) (Kd.V_below HO444.out (by repeat (first | (with_reducible exact Below.refl _ _) | (with_reducible apply below_alloc) | (with_reducible apply pw_below_drewN) | (with_reducible apply below_drew)))) (fun k_ hk => ⟨hk.1.1.1.1, ⟨hk.1.1.1.2, ⟨hk.1.1.2, ⟨hk.1.2, hk.2⟩⟩⟩⟩))))) (Reps.none _ _))); intro v446 w75 ho76 hb hg_ hnew_; clear hg_ hnew_; (first | rw [← Ny445.out] at ho76 | (simp only [Int.reduceToNat] at ho76; rw [← Ny445.out] at ho76)); have n0_ := Aside0.mk (Kd.R_below (kr_ HO_7) hb); have n1_ := Aside0.mk (Kd.R_below (kr_ HO_8) hb); have n2_ := Aside0.mk (Kd.V_elder' (by (with_reducible repeat (first | apply Kd.V_alloc | apply Kd.V_drewN | apply Kd.V_drew)); exact HO_410001.out) (Kd.N_base ho76) hb); have n3_ := Aside0.mk (Kd.V_elder' (by (with_reducible repeat (first | apply Kd.V_alloc | apply Kd.V_drewN | apply Kd.V_drew)); exact HO438.out) (Kd.N_base ho76) hb); have n4_ := Aside0.mk (Kd.V_elder' (by (with_reducible repeat (first | apply Kd.V_alloc | apply Kd.V_drewN | apply Kd.V_drew)); exact HO444.out) (Kd.N_base ho76) hb); have n5_ := Aside0.mk (Kd.N_lower ho76 (below_size hs_)); have n6_ := Aside0.mk (blk_below (g := gb409) (o := .cells #[.int .i64 a0_0, .slice A0_1 l0_1.length c0_1, .bool a0_2] 46 (0, 0)) (kb_ BK409) hb); have n7_ := Aside0.mk (blk_below (g := gb410) (o := .cells #[.int .i64 0, .slice none 0 0, .bool false] 46 (0, 0)) (kb_ BK410) hb); have n8_ := Aside0.mk (blk_below (g := gb417) (o := .cells #[.int .i64 a0_0, .slice none 0 0, .bool x418002_2] 46 (0, 0)) (kb_ BK417) hb); have n9_ := Aside0.mk (below_step hs_ hb); clear HO_7; clear HO_8; clear HO_410001; clear HO438; clear HO444; clear BK409; clear BK410; clear BK417; clear HB; have HO_7 := n0_; have HO_8 := n1_; have HO_410001 := n2_; have HO438 := n3_; have HO444 := n4_; have HO447 := n5_; have BK409 := n6_; have BK410 := n7_; have BK417 := n8_; have HB := n9_; clear n0_ n1_ n2_ n3_ n4_ n5_ n6_ n7_ n8_ n9_; clear hb ho76; obtain ⟨Ao77, co77, eo77⟩ := Kd.N_slice HO447.out; subst eo77) | ((with_reducible refine gate_callee (f := 81) rfl ?_); refine goesL_ (some 62) rfl rfl Tryd.func81 (by kernel_rfl) rfl #[.slice Ao77 y445.length co77] rfl ka_ ?_; (with_reducible refine (impl_joined.calls k2 _ _ y445 t448 _ ?side1 ?side2 A65.out).mono ?_); (case side1 => repeat (first | exact (Kd.N_reads' HO447.out).2.2 | (with_reducible refine Kd.C_alloc ?_ _) | (with_reducible refine Kd.C_drewN ?_ _) | (with_reducible refine Kd.C_drew ?_))); (case side2 => exact (Kd.N_reads' HO447.out).2.1); rintro e w78 ⟨v449, rfl, ho0, hb⟩; refine ⟨_, rfl, ?_⟩; have n0_ := Aside0.mk (Kd.R_elder' (kr_ HO_7) (Kd.R_base ho0) hb); have n1_ := Aside0.mk (Kd.R_elder' (kr_ HO_8) (Kd.R_base ho0) hb); have n2_ := Aside0.mk (Kd.V_elder' (by (with_reducible repeat (first | apply Kd.V_alloc | apply Kd.V_drewN | apply Kd.V_drew)); exact HO_410001.out) (Kd.R_base ho0) hb); have n3_ := Aside0.mk (Kd.V_elder' (by (with_reducible repeat (first | apply Kd.V_alloc | apply Kd.V_drewN | apply Kd.V_drew)); exact HO438.out) (Kd.R_base ho0) hb); have n4_ := Aside0.mk (Kd.V_elder' (by (with_reducible repeat (first | apply Kd.V_alloc | apply Kd.V_drewN | apply Kd.V_drew)); exact HO444.out) (Kd.R_base ho0) hb); have n5_ := Aside0.mk (Kd.N_elder' (by (with_reducible repeat (first | apply Kd.N_alloc | apply Kd.N_drewN | apply Kd.N_drew)); exact HO447.out) (Kd.R_base ho0) hb); have n6_ := Aside0.mk (Kd.R_lower (Kd.R_new' (Kd.R_new' (Kd.R_newM (M := fun k_ => (w.heap.size ≤ k_)) ho0 (below_size hs_) (fun k_ h_ => h_)) (Kd.R_lt (kr_ HO_7))) (Kd.R_lt (kr_ HO_8))) (below_size hs_)); have n7_ := Aside0.mk (blk_below (g := gb409) (o := .cells #[.int .i64 a0_0, .slice A0_1 l0_1.length c0_1, .bool a0_2] 46 (0, 0)) (kb_ BK409) hb); have n8_ := Aside0.mk (blk_below (g := gb410) (o := .cells #[.int .i64 0, .slice none 0 0, .bool false] 46 (0, 0)) (kb_ BK410) hb); have n9_ := Aside0.mk (blk_below (g := gb417) (o := .cells #[.int .i64 a0_0, .slice none 0 0, .bool x418002_2] 46 (0, 0)) (kb_ BK417) hb); have n10_ := Aside0.mk (below_step hs_ hb); clear HO_7; clear HO_8; clear HO_410001; clear HO438; clear HO444; clear HO447; clear BK409; clear BK410; clear BK417; clear HB; have HO_7 := n0_; have HO_8 := n1_; have HO_410001 := n2_; have HO438 := n3_; have HO444 := n4_; have HO447 := n5_; have HO450 := n6_; have BK409 := n7_; have BK410 := n8_; have BK417 := n9_; have HB := n10_; clear n0_ n1_ n2_ n3_ n4_ n5_ n6_ n7_ n8_ n9_ n10_; try clear hb; (try clear ho0); obtain ⟨Ao79, co79, eo79⟩ := Kd.R_slice HO450.out; subst eo79; have hnb80 := NB417_410.out; have hnc80 := NB410_417.out; have hcz81_0 : w78.cell? ⟨gb417, 0, none⟩ = some (.int .i64 a0_0) := (blk_cell BK417.out 0).trans rfl; have hcz81_1 : w78.cell? ⟨gb417, 1, none⟩ = some (.slice none 0 0) := (blk_cell BK417.out 1).trans rfl; have hcz81_2 : w78.cell? ⟨gb417, 2, none⟩ = some (.bool x418002_2) := (blk_cell BK417.out 2).trans rfl; have hfz81_0 := blk_frozen BK417.out 0; have hfz81_1 := blk_frozen BK417.out 1; have hfz81_2 := blk_frozen BK417.out 2))
           have n0_ : Aside0 (Kd.R (Kd.int .u8) 5 (w78.setCell ⟨gb417, 1, none⟩ (.slice Ao79 t448.length co79)) w.heap.size (fun k_ => (w.heap.size ≤ k_) ∧ some k_ ≠ (u8 : Value).ownBlock ∧ some k_ ≠ (.slice Ao79 t448.length co79 : Value).ownBlock) (.slice Ao66 t422.length co66) t422) := ⟨by (with_reducible repeat (first | apply Kd.R_alloc | apply Kd.R_drewN | apply Kd.R_drew)); exact Kd.R_mono (Kd.R_far (p := ⟨gb417, 1, none⟩) (Kd.R_types HO_7.out BK417.out (by decide)) (fun _ hk => hk.2) (.slice Ao79 t448.length co79)) (fun _ hk => ⟨hk.1.1.1, ⟨hk.1.1.2, hk.1.2⟩⟩)⟩
           have n1_ : Aside0 (Kd.R (Kd.int .u8) 5 (w78.setCell ⟨gb417, 1, none⟩ (.slice Ao79 t448.length co79)) w.heap.size (fun k_ => (w.heap.size ≤ k_) ∧ some k_ ≠ (.slice Ao66 t422.length co66 : Value).ownBlock ∧ some k_ ≠ (.slice Ao79 t448.length co79 : Value).ownBlock) u8 x8_2) := ⟨by (with_reducible repeat (first | apply Kd.R_alloc | apply Kd.R_drewN | apply Kd.R_drew)); exact Kd.R_mono (Kd.R_far (p := ⟨gb417, 1, none⟩) (Kd.R_types HO_8.out BK417.out (by decide)) (fun _ hk => hk.2) (.slice Ao79 t448.length co79)) (fun _ hk => ⟨hk.1.1.1, ⟨hk.1.1.2, hk.1.2⟩⟩)⟩
           have n2_ : Aside0 (Kd.V (Kd.int .u8) 5 (w78.setCell ⟨gb417, 1, none⟩ (.slice Ao79 t448.length co79)) w.heap.size (fun k_ => ((P0_1_ k_ ∨ P1_ k_) ∨ w.heap.size ≤ k_) ∧ some k_ ≠ (.slice Ao66 t422.length co66 : Value).ownBlock ∧ some k_ ≠ (u8 : Value).ownBlock ∧ some k_ ≠ (.slice Ao77 y445.length co77 : Value).ownBlock ∧ some k_ ≠ (.slice Ao79 t448.length co79 : Value).ownBlock ∧ k_ ≠ gb409 ∧ k_ ≠ gb410 ∧ k_ ≠ gb417) (.slice A0_1 l0_1.length c0_1) l0_1) := ⟨by (with_reducible repeat (first | apply Kd.V_alloc | apply Kd.V_drewN | apply Kd.V_drew)); exact Kd.V_mono (Kd.V_far (p := ⟨gb417, 1, none⟩) (Kd.V_mono HO_410001.out (fun k_ hk => (⟨hk, hk.1.1.2.2.2.2.2⟩ : _ ∧ k_ ≠ gb417))) (fun _ hk => hk.2) (.slice Ao79 t448.length co79)) (fun _ hk => ⟨hk.1.1.1.1, ⟨hk.1.1.1.2.1, ⟨hk.1.1.1.2.2.1, ⟨hk.1.1.2, ⟨hk.1.2, ⟨hk.1.1.1.2.2.2.1, ⟨hk.1.1.1.2.2.2.2.1, hk.1.1.1.2.2.2.2.2⟩⟩⟩⟩⟩⟩⟩)⟩
           have n3_ : Aside0 (Kd.V (Kd.int .u8) 5 (w78.setCell ⟨gb417, 1, none⟩ (.slice Ao79 t448.length co79)) w.heap.size (fun k_ => ((P0_1_ k_ ∨ P1_ k_) ∨ w.heap.size ≤ k_) ∧ some k_ ≠ (u8 : Value).ownBlock ∧ some k_ ≠ (.slice Ao77 y445.length co77 : Value).ownBlock ∧ some k_ ≠ (.slice Ao79 t448.length co79 : Value).ownBlock ∧ k_ ≠ gb409 ∧ k_ ≠ gb410 ∧ k_ ≠ gb417) (.slice A72 y434.length c72) y434) := ⟨by (with_reducible repeat (first | apply Kd.V_alloc | apply Kd.V_drewN | apply Kd.V_drew)); exact Kd.V_mono (Kd.V_far (p := ⟨gb417, 1, none⟩) (Kd.V_mono HO438.out (fun k_ hk => (⟨hk, hk.1.1.2⟩ : _ ∧ k_ ≠ gb417))) (fun _ hk => hk.2) (.slice Ao79 t448.length co79)) (fun _ hk => ⟨hk.1.1.1.1.1.1.1, ⟨hk.1.1.1.1.1.1.2, ⟨hk.1.1.2, ⟨hk.1.2, ⟨hk.1.1.1.1.1.2, ⟨hk.1.1.1.1.2, hk.1.1.1.2⟩⟩⟩⟩⟩⟩)⟩
           have n4_ : Aside0 (Kd.V (Kd.int .u8) 5 (w78.setCell ⟨gb417, 1, none⟩ (.slice Ao79 t448.length co79)) w.heap.size (fun k_ => ((P0_1_ k_ ∨ P1_ k_) ∨ w.heap.size ≤ k_) ∧ some k_ ≠ (u8 : Value).ownBlock ∧ some k_ ≠ (.slice Ao77 y445.length co77 : Value).ownBlock ∧ some k_ ≠ (.slice Ao79 t448.length co79 : Value).ownBlock ∧ k_ ≠ gb409 ∧ k_ ≠ gb410 ∧ k_ ≠ gb417) (.slice A74 y440.length c74) y440) := ⟨by (with_reducible repeat (first | apply Kd.V_alloc | apply Kd.V_drewN | apply Kd.V_drew)); exact Kd.V_mono (Kd.V_far (p := ⟨gb417, 1, none⟩) (Kd.V_mono HO444.out (fun k_ hk => (⟨hk, hk.1.1.2⟩ : _ ∧ k_ ≠ gb417))) (fun _ hk => hk.2) (.slice Ao79 t448.length co79)) (fun _ hk => ⟨hk.1.1.1.1.1.1.1, ⟨hk.1.1.1.1.1.1.2, ⟨hk.1.1.2, ⟨hk.1.2, ⟨hk.1.1.1.1.1.2, ⟨hk.1.1.1.1.2, hk.1.1.1.2⟩⟩⟩⟩⟩⟩)⟩
           have n5_ : Aside0 (Kd.N (Kd.slice 5 (Kd.int .u8)) 23 (w78.setCell ⟨gb417, 1, none⟩ (.slice Ao79 t448.length co79)) w.heap.size (fun k_ => ((P0_1_ k_ ∨ P1_ k_) ∨ w.heap.size ≤ k_) ∧ some k_ ≠ (u8 : Value).ownBlock ∧ some k_ ≠ (.slice Ao79 t448.length co79 : Value).ownBlock ∧ k_ ≠ gb409 ∧ k_ ≠ gb410 ∧ k_ ≠ gb417) (.slice Ao77 y445.length co77) y445) := ⟨by (with_reducible repeat (first | apply Kd.N_alloc | apply Kd.N_drewN | apply Kd.N_drew)); exact Kd.N_mono (Kd.N_far (p := ⟨gb417, 1, none⟩) (Kd.N_mono HO447.out (fun k_ hk => (⟨hk, hk.1.2.2.2.2⟩ : _ ∧ k_ ≠ gb417))) (fun _ hk => hk.2) (.slice Ao79 t448.length co79)) (fun _ hk => ⟨hk.1.1.1, ⟨hk.1.1.2.1, ⟨hk.1.2, ⟨hk.1.1.2.2.1, ⟨hk.1.1.2.2.2.1, hk.1.1.2.2.2.2⟩⟩⟩⟩⟩)⟩
           have n6_ : Aside0 (Kd.R (Kd.int .u8) 5 (w78.setCell ⟨gb417, 1, none⟩ (.slice Ao79 t448.length co79)) w.heap.size (fun k_ => (w.heap.size ≤ k_) ∧ some k_ ≠ (.slice Ao66 t422.length co66 : Value).ownBlock ∧ some k_ ≠ (u8 : Value).ownBlock) (.slice Ao79 t448.length co79) t448) := ⟨by (with_reducible repeat (first | apply Kd.R_alloc | apply Kd.R_drewN | apply Kd.R_drew)); exact Kd.R_mono (Kd.R_far (p := ⟨gb417, 1, none⟩) (Kd.R_types HO450.out BK417.out (by decide)) (fun _ hk => hk.2) (.slice Ao79 t448.length co79)) (fun _ hk => ⟨hk.1.1.1.1, ⟨hk.1.1.2, hk.1.2⟩⟩)⟩
           have n7_ : Aside0 ((w78.setCell ⟨gb417, 1, none⟩ (.slice Ao79 t448.length co79)).heap[gb409]? = some (.cells #[.int .i64 a0_0, .slice A0_1 l0_1.length c0_1, .bool a0_2] 46 (0, 0))) := ⟨by (with_reducible repeat (first | refine blk_drewN ?_ _ | refine blk_drew ?_ | refine blk_alloc ?_ _)); refine blk_far ?_ NB409_417.out _; (with_reducible repeat (first | refine blk_drewN ?_ _ | refine blk_drew ?_ | refine blk_alloc ?_ _)); exact BK409.out⟩
           have n8_ : Aside0 ((w78.setCell ⟨gb417, 1, none⟩ (.slice Ao79 t448.length co79)).heap[gb410]? = some (.cells #[.int .i64 0, .slice none 0 0, .bool false] 46 (0, 0))) := ⟨by (with_reducible repeat (first | refine blk_drewN ?_ _ | refine blk_drew ?_ | refine blk_alloc ?_ _)); refine blk_far ?_ NB410_417.out _; (with_reducible repeat (first | refine blk_drewN ?_ _ | refine blk_drew ?_ | refine blk_alloc ?_ _)); exact BK410.out⟩
           have n9_ : Aside0 ((w78.setCell ⟨gb417, 1, none⟩ (.slice Ao79 t448.length co79)).heap[gb417]? = some (.cells #[.int .i64 a0_0, .slice Ao79 t448.length co79, .bool x418002_2] 46 (0, 0))) := ⟨by (with_reducible repeat (first | refine blk_drewN ?_ _ | refine blk_drew ?_ | refine blk_alloc ?_ _)); refine blk_put (cs := #[.int .i64 a0_0, .slice none 0 0, .bool x418002_2]) ?_ 1 _ rfl; (with_reducible repeat (first | refine blk_drewN ?_ _ | refine blk_drew ?_ | refine blk_alloc ?_ _)); exact BK417.out⟩
           have n10_ : Aside0 (Below w.heap.size w (w78.setCell ⟨gb417, 1, none⟩ (.slice Ao79 t448.length co79))) := ⟨by repeat (first | (with_reducible first | exact HB.out | apply below_alloc | apply pw_below_drewN | apply below_drew1 | refine below_set ?_ GE409.out | refine below_set ?_ GE410.out | refine below_set ?_ GE417.out) | exact HB.out)⟩
           (try clear HO_7)
           (try clear HO_8)
           (try clear HO_410001)
           (try clear HO438)
           (try clear HO444)
           (try clear HO447)
           (try clear HO450)
           (try clear BK409)
           (try clear BK410)
           (try clear BK417)
           (try clear HB)
           generalize (w78.setCell ⟨gb417, 1, none⟩ (.slice Ao79 t448.length co79)) = w82 at n0_ n1_ n2_ n3_ n4_ n5_ n6_ n7_ n8_ n9_ n10_ ⊢
           have HO_7 := n0_
           have HO_8 := n1_
           have HO_410001 := n2_
           have HO438 := n3_
           have HO444 := n4_
           have HO447 := n5_
           have HO450 := n6_
           have BK409 := n7_
           have BK410 := n8_
           have BK417 := n9_
           have HB := n10_
           clear n0_ n1_ n2_ n3_ n4_ n5_ n6_ n7_ n8_ n9_ n10_
           have n0_ := Aside0.mk (Kd.R_drew HO_7.out)
           have n1_ := Aside0.mk (Kd.R_drew HO_8.out)
           have n2_ := Aside0.mk (Kd.V_drew HO_410001.out)
           have n3_ := Aside0.mk (Kd.V_drew HO438.out)
           have n4_ := Aside0.mk (Kd.V_drew HO444.out)
           have n5_ := Aside0.mk (Kd.N_drew HO447.out)
           have n6_ := Aside0.mk (Kd.R_drew HO450.out)
           have n7_ := Aside0.mk (blk_drew BK409.out)
           have n8_ := Aside0.mk (blk_drew BK410.out)
           have n9_ := Aside0.mk (blk_drew BK417.out)
           have n10_ := Aside0.mk (below_drew1 HB.out)
           clear HO_7
           clear HO_8
           clear HO_410001
           clear HO438
           clear HO444
           clear HO447
           clear HO450
           clear BK409
           clear BK410
           clear BK417
           clear HB
           have HO_7 := n0_
           have HO_8 := n1_
           have HO_410001 := n2_
           have HO438 := n3_
           have HO444 := n4_
           have HO447 := n5_
           have HO450 := n6_
           have BK409 := n7_
           have BK410 := n8_
           have BK417 := n9_
           have HB := n10_
           clear n0_ n1_ n2_ n3_ n4_ n5_ n6_ n7_ n8_ n9_ n10_
           refine start_ (n := 5) (S := fun w' => w'.cell? ⟨gb417, 0, none⟩ = some (.int .i64 a0_0) ∧ w'.cell? ⟨gb417, 1, none⟩ = some (.slice Ao79 t448.length co79) ∧ w'.cell? ⟨gb417, 2, none⟩ = some (.bool x418002_2) ∧ (convert 23 9 (u8)).run Tryd.prog w' = .ok (.string (strOfNums x8_2)) w') (ds := []) #[false, false, false, false, false] (by kernel_rfl) rfl rfl ⟨(blk_cell BK417.out 0).trans rfl, (blk_cell BK417.out 1).trans rfl, (blk_cell BK417.out 2).trans rfl, (own_string (P := Tryd.prog) Tryd.underlying23 Tryd.underlying5 Tryd.underlying9 (Kd.own_of_R HO_8.out))⟩ (fun hHeld => ?_)
           generalize w82.drew = w83 at HO_7 HO_8 HO_410001 HO438 HO444 HO447 HO450 BK409 BK410 BK417 HB hHeld ⊢
           refine pure_ (i := 1) (N := some 70) (v := ?_) (a' := ?_) #[false, true, false, false, false] rfl rfl (by kernel_rfl) (fun _ _ _ h => h) (Or.inl ⟨by rfl, ?_⟩) ?_ ?_
           rotate_left
           ·intro w'
            go_simp
            with_reducible rfl
           rotate_left
           ·simp only [Act.put, List.setIfInBounds_toArray, List.set_cons_zero, List.set_cons_succ, i64_w, i32_w]
            rfl
           refine take_ (i := 0) (N := some 69) (v := ?_) (a' := ?_) #[true, true, false, false, false] rfl rfl (by kernel_rfl) (fun _ _ _ h => h) (Or.inl ⟨by rfl, ?_⟩) hHeld ?_ ?_
           rotate_left
           ·rintro w' ⟨s0, s1, s2, s3⟩
            go_simp
            with_reducible rfl
           rotate_left
           ·simp only [Act.put, List.setIfInBounds_toArray, List.set_cons_zero, List.set_cons_succ, i64_w, i32_w]
            rfl
           refine take_ (i := 2) (N := some 71) (v := ?_) (a' := ?_) #[true, true, true, false, false] rfl rfl (by kernel_rfl) (fun _ _ _ h => h) (Or.inl ⟨by rfl, ?_⟩) hHeld ?_ ?_
           rotate_left
           ·rintro w' ⟨s0, s1, s2, s3⟩
            go_simp
            with_reducible rfl
           rotate_left
           ·simp only [Act.put, List.setIfInBounds_toArray, List.set_cons_zero, List.set_cons_succ, i64_w, i32_w]
            rfl
           refine one_ (i := 3) (N := none) #[true, true, true, true, false] rfl rfl (by kernel_rfl) (by decide) (fun K hK => ?_)
           have hs85 : w83.cell? ⟨gb410, 0, none⟩ = some (.int .i64 0) := (blk_cell BK410.out 0).trans rfl
           have hfs85 := blk_frozen BK410.out 0
           have hns85_0 := NB409_410.out
           have hns85_2 := NB417_410.out
           have hms85_0 := NB410_409.out
           have hms85_2 := NB410_417.out
           have hs86 : w83.cell? ⟨gb410, 1, none⟩ = some (.slice none 0 0) := (blk_cell BK410.out 1).trans rfl
           have hfs86 := blk_frozen BK410.out 1
           have hns86_0 := NB409_410.out
           have hns86_2 := NB417_410.out
           have hms86_0 := NB410_409.out
           have hms86_2 := NB410_417.out
           have hs87 : w83.cell? ⟨gb410, 2, none⟩ = some (.bool false) := (blk_cell BK410.out 2).trans rfl
           have hfs87 := blk_frozen BK410.out 2
           have hns87_0 := NB409_410.out
           have hns87_2 := NB417_410.out
           have hms87_0 := NB410_409.out
           have hms87_2 := NB410_417.out
           refine skip_ (w1 := ?_) (by rfl) rfl ?_ ?_
           rotate_left
           ·go_simp
            rfl
           refine hK.out _ _ ⟨((cell_far (p := ⟨gb410, _, none⟩) NB417_410.out _).trans (((cell_far (p := ⟨gb410, _, none⟩) NB417_410.out _).trans (((cell_far (p := ⟨gb410, _, none⟩) NB417_410.out _).trans (hHeld.1)))))), ((cell_far (p := ⟨gb410, _, none⟩) NB417_410.out _).trans (((cell_far (p := ⟨gb410, _, none⟩) NB417_410.out _).trans (((cell_far (p := ⟨gb410, _, none⟩) NB417_410.out _).trans (hHeld.2.1)))))), ((cell_far (p := ⟨gb410, _, none⟩) NB417_410.out _).trans (((cell_far (p := ⟨gb410, _, none⟩) NB417_410.out _).trans (((cell_far (p := ⟨gb410, _, none⟩) NB417_410.out _).trans (hHeld.2.2.1)))))), (own_string (P := Tryd.prog) Tryd.underlying23 Tryd.underlying5 Tryd.underlying9 (Kd.own_of_R (Kd.R_far (Kd.R_far (Kd.R_far (Kd.R_types HO_8.out BK410.out (by decide)) (fun _ h_ => h_.2) _) (fun _ h_ => h_.2) _) (fun _ h_ => h_.2) _)))⟩ (fun hHeld => ?_)
           clear hK K
           refine pure_ (i := 4) (N := some 5) (v := ?_) (a' := ?_) #[true, true, true, true, true] rfl rfl (by kernel_rfl) (fun _ _ _ h => h) (Or.inl ⟨by rfl, ?_⟩) ?_ ?_
           rotate_left
           ·intro w'
            go_simp
            with_reducible rfl
           rotate_left
           ·simp only [Act.put, List.setIfInBounds_toArray, List.set_cons_zero, List.set_cons_succ, i64_w, i32_w]
            rfl
           refine done_ (by kernel_rfl) ?_
           try go_wp2
           refine bodyPost_ret (results_ct rfl _ _ gb410 46 #[.int .i64 a0_0, .slice Ao79 t448.length co79, .bool x418002_2] (0, 0) _ rfl (by (with_reducible repeat (first | refine blk_drewN ?_ _ | refine blk_drew ?_ | refine blk_alloc ?_ _)); refine blk_put (cs := #[.int .i64 a0_0, .slice Ao79 t448.length co79, .bool false]) ?_ 2 _ rfl; (with_reducible repeat (first | refine blk_drewN ?_ _ | refine blk_drew ?_ | refine blk_alloc ?_ _)); refine blk_put (cs := #[.int .i64 a0_0, .slice none 0 0, .bool false]) ?_ 1 _ rfl; (with_reducible repeat (first | refine blk_drewN ?_ _ | refine blk_drew ?_ | refine blk_alloc ?_ _)); refine blk_put (cs := #[.int .i64 0, .slice none 0 0, .bool false]) ?_ 0 _ rfl; (with_reducible repeat (first | refine blk_drewN ?_ _ | refine blk_drew ?_ | refine blk_alloc ?_ _)); exact BK410.out) Tryd.underlying46 rfl (by kernel_rfl)) rfl ?_
           exact ⟨_, by first | rfl | (simp [errW_none, errW_some] <;> rfl) | (simp [*, errW_none, errW_some] <;> rfl), by (with_reducible repeat (first | apply Kd.R_alloc | apply Kd.R_drewN | apply Kd.R_drew)); exact Kd.R_mono (Kd.R_far (p := ⟨gb410, 2, none⟩) (Kd.R_far (p := ⟨gb410, 1, none⟩) (Kd.R_far (p := ⟨gb410, 0, none⟩) (Kd.R_types HO450.out BK410.out (by decide)) (fun _ hk => hk.2) (.int .i64 a0_0)) (fun _ hk => hk.2) (.slice Ao79 t448.length co79)) (fun _ hk => hk.2) (.bool x418002_2)) (fun _ hk => hk.1.1), hs_⟩
          ·replace c62 := Bool.eq_false_iff.mpr c62
           subst c62
           rw [if_neg (show ¬ (false = true) by decide)] at H
           simp only [Option.some.injEq, Prod.mk.injEq] at H
           obtain ⟨rfl, rfl, rfl, rfl⟩ := H
           obtain ⟨Ao88, co88, eo88⟩ := Kd.R_slice HO_7.out
           subst eo88
           have hnb89 := NB409_410.out
           have hnc89 := NB410_409.out
           have hnb90 := NB409_417.out
           have hnc90 := NB417_409.out
           have hcz91_0 : wr.cell? ⟨gb409, 0, none⟩ = some (.int .i64 a0_0) := (blk_cell BK409.out 0).trans rfl
           have hcz91_1 : wr.cell? ⟨gb409, 1, none⟩ = some (.slice A0_1 l0_1.length c0_1) := (blk_cell BK409.out 1).trans rfl
           have hcz91_2 : wr.cell? ⟨gb409, 2, none⟩ = some (.bool a0_2) := (blk_cell BK409.out 2).trans rfl
           have hfz91_0 := blk_frozen BK409.out 0
           have hfz91_1 := blk_frozen BK409.out 1
           have hfz91_2 := blk_frozen BK409.out 2
           try go_wp2_with (first | ((with_reducible refine gate_callee (f := 82) rfl ?_); refine goesL_ (some 46) rfl rfl Tryd.func82 (by kernel_rfl) rfl #[.int .i64 a0_0, .slice Ao88 t422.length co88, .int .i64 x9_2] rfl ka_ ?_; (with_reducible refine (impl_signIn.calls (hT := ?sideT) k2 a0_0 _ _ t422 x9_2 t428 t429 false _ ?side1 ?side2 A49.out).mono ?_); (case sideT => first | exact HT.out | exact HT.out.below hs_ | exact HT.out.drawn (by repeat (first | exact Drawn0.refl _ | apply Drawn0.step | assumption))); (case side1 => exact kc_ (Kd.R_reads' HO_7.out).2.2); (case side2 => exact (Kd.R_reads' HO_7.out).2.1); rintro e w92 ⟨rfl, hb⟩; refine ⟨_, rfl, ?_⟩; have n0_ := Aside0.mk (Kd.R_below (kr_ HO_7) hb); have n1_ := Aside0.mk (Kd.R_below (kr_ HO_8) hb); have n2_ := Aside0.mk (Kd.V_below (by (with_reducible repeat (first | apply Kd.V_alloc | apply Kd.V_drewN | apply Kd.V_drew)); exact HO_410001.out) hb); have n3_ := Aside0.mk (blk_below (g := gb409) (o := .cells #[.int .i64 a0_0, .slice A0_1 l0_1.length c0_1, .bool a0_2] 46 (0, 0)) (kb_ BK409) hb); have n4_ := Aside0.mk (blk_below (g := gb410) (o := .cells #[.int .i64 0, .slice none 0 0, .bool false] 46 (0, 0)) (kb_ BK410) hb); have n5_ := Aside0.mk (blk_below (g := gb417) (o := .cells #[.int .i64 a0_0, .slice none 0 0, .bool x418002_2] 46 (0, 0)) (kb_ BK417) hb); have n6_ := Aside0.mk (below_step hs_ hb); clear HO_7; clear HO_8; clear HO_410001; clear BK409; clear BK410; clear BK417; clear HB; have HO_7 := n0_; have HO_8 := n1_; have HO_410001 := n2_; have BK409 := n3_; have BK410 := n4_; have BK417 := n5_; have HB := n6_; clear n0_ n1_ n2_ n3_ n4_ n5_ n6_; try clear hb))
           have n0_ := Aside0.mk (Kd.R_drew HO_7.out)
           have n1_ := Aside0.mk (Kd.R_drew HO_8.out)
           have n2_ := Aside0.mk (Kd.V_drew HO_410001.out)
           have n3_ := Aside0.mk (blk_drew BK409.out)
           have n4_ := Aside0.mk (blk_drew BK410.out)
           have n5_ := Aside0.mk (blk_drew BK417.out)
           have n6_ := Aside0.mk (below_drew1 HB.out)
           clear HO_7
           clear HO_8
           clear HO_410001
           clear BK409
           clear BK410
           clear BK417
           clear HB
           have HO_7 := n0_
           have HO_8 := n1_
           have HO_410001 := n2_
           have BK409 := n3_
           have BK410 := n4_
           have BK417 := n5_
           have HB := n6_
           clear n0_ n1_ n2_ n3_ n4_ n5_ n6_
           have q94 : (x9_2 : Int) ≤ ((t422.length : Int) : Int) := of_decide_eq_true as_
           obtain ⟨i094, hi094, _, hsz94, _⟩ := info_parts info5
           have hroom94 : t422.length ≤ co88 := (Kd.R_reads' HO_7.out).2.1
           have hC94 : Kd.F (Kd.int .u8) _ _ Ao88 t422.length t422 := (Kd.V_at (base := w.heap.size) (Kd.V_mono (ok' := (fun k_ => ((((((P0_1_ k_ ∨ P1_ k_) ∨ w.heap.size ≤ k_) ∧ some k_ ≠ (u8 : Value).ownBlock) ∧ k_ ≠ gb409) ∧ k_ ≠ gb410) ∧ k_ ≠ gb417))) (Kd.R_V (Kd.R_types (Kd.R_types (Kd.R_types (HO_7.out) BK409.out (by decide)) BK410.out (by decide)) BK417.out (by decide))) (fun k_ hk => ⟨⟨⟨⟨(.inr (hk.1.1.1.1)), hk.1.1.1.2⟩, hk.1.1.2⟩, hk.1.2⟩, hk.2⟩))).2.2
           have q094 : (0 : Int) ≤ (x9_2 : Int) := of_decide_eq_true as_
           have hcut94 := cut_from (P := Tryd.prog) 23 5 .i64 Tryd.underlying23 hi094 1 hsz94 Ao88 t422.length co88 x9_2 q094 q94
           have hr94 := Kd.F_cut (m := (x9_2 : Int).toNat) (c := co88) hC94 (by omega) hroom94
           obtain ⟨A94, hA94⟩ : ∃ A1, A1 = (if co88 = (x9_2 : Int).toNat then Ao88 else (Ao88 : Option Addr).map (·.add ((x9_2 : Int).toNat * 1))) := ⟨_, rfl⟩
           obtain ⟨c94, hc94⟩ : ∃ c1, c1 = co88 - (x9_2 : Int).toNat := ⟨_, rfl⟩
           have hy94 : y434.length = t422.length - (x9_2 : Int).toNat := (by rw [Ny434.out, List.length_drop] <;> omega)
           rw [show (t422).drop (x9_2 : Int).toNat = y434 from Ny434.out.symm] at hr94
           replace hr94 : Kd.F (Kd.int .u8) _ _ A94 y434.length y434 := (by rw [hA94]; exact hr94)
           rw [← hy94, ← hA94, ← hc94] at hcut94
           have HO438 := Aside0.mk (show Kd.V (Kd.int .u8) 5 _ w.heap.size _ (.slice A94 y434.length c94) y434 from Kd.V_mk (by rw [hy94, hc94]; exact Nat.sub_le_sub_right hroom94 _) hr94)
           have HC438 := Aside0.mk (show y434.length ≤ c94 from by rw [hy94, hc94]; exact Nat.sub_le_sub_right hroom94 _)
           clear hr94 hC94 hroom94 hi094 hsz94 hc94
           have KY94 := Aside0.mk hy94
           have KA94 := Aside0.mk hA94
           clear hy94 hA94
           replace q94 := eq_true q94
           refine start_ (n := 6) (S := fun w' => w'.cell? ⟨gb409, 0, none⟩ = some (.int .i64 a0_0) ∧ w'.cell? ⟨gb409, 1, none⟩ = some (.slice A0_1 l0_1.length c0_1) ∧ w'.cell? ⟨gb409, 2, none⟩ = some (.bool a0_2)) (ds := []) #[false, false, false, false, false, false] (by kernel_rfl) rfl rfl ⟨(blk_cell BK409.out 0).trans rfl, (blk_cell BK409.out 1).trans rfl, (blk_cell BK409.out 2).trans rfl⟩ (fun hHeld => ?_)
           generalize w92.drew = w93 at HO_7 HO_8 HO_410001 BK409 BK410 BK417 HB HO438 hHeld ⊢
           refine pure_ (i := 0) (N := some 52) (v := ?_) (a' := ?_) #[true, false, false, false, false, false] rfl rfl (by kernel_rfl) (fun _ _ _ h => h) (Or.inl ⟨by rfl, ?_⟩) ?_ ?_
           rotate_left
           ·intro w'
            go_simp
            with_reducible rfl
           rotate_left
           ·simp only [Act.put, List.setIfInBounds_toArray, List.set_cons_zero, List.set_cons_succ, i64_w, i32_w]
            rfl
           refine pure_ (i := 2) (N := some 54) (v := ?_) (a' := ?_) #[true, false, true, false, false, false] rfl rfl (by kernel_rfl) (fun _ _ _ h => h) (Or.inl ⟨by rfl, ?_⟩) ?_ ?_
           rotate_left
           ·intro w'
            go_simp
            with_reducible rfl
           rotate_left
           ·simp only [Act.put, List.setIfInBounds_toArray, List.set_cons_zero, List.set_cons_succ, i64_w, i32_w]
            rfl
           refine pure_ (i := 3) (N := some 55) (v := ?_) (a' := ?_) #[true, false, true, true, false, false] rfl rfl (by kernel_rfl) (fun _ _ _ h => h) (Or.inl ⟨by rfl, ?_⟩) ?_ ?_
           rotate_left
           ·intro w'
            go_simp
            with_reducible rfl
           rotate_left
           ·simp only [Act.put, List.setIfInBounds_toArray, List.set_cons_zero, List.set_cons_succ, i64_w, i32_w]
            rfl
           refine pure_ (i := 4) (N := some 56) (v := ?_) (a' := ?_) #[true, false, true, true, true, false] rfl rfl (by kernel_rfl) (fun _ _ _ h => h) (Or.inl ⟨by rfl, ?_⟩) ?_ ?_
           rotate_left
           ·intro w'
            go_simp
            with_reducible rfl
           rotate_left
           ·simp only [Act.put, List.setIfInBounds_toArray, List.set_cons_zero, List.set_cons_succ, i64_w, i32_w]
            rfl
           refine take_ (i := 1) (N := some 53) (v := ?_) (a' := ?_) #[true, true, true, true, true, false] rfl rfl (by kernel_rfl) (fun _ _ _ h => h) (Or.inl ⟨by rfl, ?_⟩) hHeld ?_ ?_
           rotate_left
           ·rintro w' ⟨s0, s1, s2⟩
            go_simp
            with_reducible rfl
           rotate_left
           ·simp only [Act.put, List.setIfInBounds_toArray, List.set_cons_zero, List.set_cons_succ, i64_w, i32_w]
            rfl
           refine one_ (i := 5) (N := some 57) #[true, true, true, true, true, true] rfl rfl (by kernel_rfl) (by decide) (fun K hK => ?_)
           refine goes_ Tryd.func83 (by kernel_rfl) rfl #[.int .i64 a0_0, .slice A94 y434.length c94] (by rfl) rfl rfl ka_ ?_
           with_reducible refine (impl_begins.calls (hT := ?sideT) a0_0 _ _ y434 false _ ?side1 ?side2 A61.out).mono ?_; (case sideT => first | exact HT.out | exact HT.out.below hs_ | exact HT.out.drawn (by repeat (first | exact Drawn0.refl _ | apply Drawn0.step | assumption)))
           (case side1 => repeat (first | exact (Kd.V_reads' HO438.out).2.2 | (with_reducible refine Kd.C_alloc ?_ _) | (with_reducible refine Kd.C_drewN ?_ _) | (with_reducible refine Kd.C_drew ?_)))
           (case side2 => exact (Kd.V_reads' HO438.out).2.1)
           rintro e w95 ⟨rfl, hb⟩
           refine ⟨_, rfl, ?_⟩
           have n0_ := Aside0.mk (Kd.R_below (kr_ HO_7) hb)
           have n1_ := Aside0.mk (Kd.R_below (kr_ HO_8) hb)
           have n2_ := Aside0.mk (Kd.V_below (by (with_reducible repeat (first | apply Kd.V_alloc | apply Kd.V_drewN | apply Kd.V_drew)); exact HO_410001.out) hb)
           have n3_ := Aside0.mk (Kd.V_below (by (with_reducible repeat (first | apply Kd.V_alloc | apply Kd.V_drewN | apply Kd.V_drew)); exact HO438.out) hb)
           have n4_ := Aside0.mk (blk_below (g := gb409) (o := .cells #[.int .i64 a0_0, .slice A0_1 l0_1.length c0_1, .bool a0_2] 46 (0, 0)) (kb_ BK409) hb)
           have n5_ := Aside0.mk (blk_below (g := gb410) (o := .cells #[.int .i64 0, .slice none 0 0, .bool false] 46 (0, 0)) (kb_ BK410) hb)
           have n6_ := Aside0.mk (blk_below (g := gb417) (o := .cells #[.int .i64 a0_0, .slice none 0 0, .bool x418002_2] 46 (0, 0)) (kb_ BK417) hb)
           have n7_ := Aside0.mk (below_step hs_ hb)
           clear HO_7
           clear HO_8
           clear HO_410001
           clear HO438
           clear BK409
           clear BK410
           clear BK417
           clear HB
           have HO_7 := n0_
           have HO_8 := n1_
           have HO_410001 := n2_
           have HO438 := n3_
           have BK409 := n4_
           have BK410 := n5_
           have BK417 := n6_
           have HB := n7_
           clear n0_ n1_ n2_ n3_ n4_ n5_ n6_ n7_
           (try clear hb)
           (try clear hb2)
           (try clear hk)
           (try clear hi)
           refine hK.out _ _ ⟨(blk_cell BK409.out 0).trans rfl, (blk_cell BK409.out 1).trans rfl, (blk_cell BK409.out 2).trans rfl⟩ (fun hHeld => ?_)
           clear hK K
           refine norm_ (a' := ?_) ?_ ?_
           rotate_left
           ·show Act.put _ (some 57) _ = _
            simp only [Act.put, List.setIfInBounds_toArray, List.set_cons_zero, List.set_cons_succ, i64_w, i32_w]
            rfl
           refine done_ (by kernel_rfl) ?_
           have hnb96 := NB417_410.out
           have hnc96 := NB410_417.out
           have hcz97_0 : w95.cell? ⟨gb417, 0, none⟩ = some (.int .i64 a0_0) := (blk_cell BK417.out 0).trans rfl
           have hcz97_1 : w95.cell? ⟨gb417, 1, none⟩ = some (.slice none 0 0) := (blk_cell BK417.out 1).trans rfl
           have hcz97_2 : w95.cell? ⟨gb417, 2, none⟩ = some (.bool x418002_2) := (blk_cell BK417.out 2).trans rfl
           have hfz97_0 := blk_frozen BK417.out 0
           have hfz97_1 := blk_frozen BK417.out 1
           have hfz97_2 := blk_frozen BK417.out 2
           try go_wp2
           have n0_ : Aside0 (Kd.R (Kd.int .u8) 5 (w95.setCell ⟨gb417, 2, none⟩ (.bool true)) w.heap.size (fun k_ => (w.heap.size ≤ k_) ∧ some k_ ≠ (u8 : Value).ownBlock) (.slice Ao88 t422.length co88) t422) := ⟨by (with_reducible repeat (first | apply Kd.R_alloc | apply Kd.R_drewN | apply Kd.R_drew)); exact Kd.R_mono (Kd.R_far (p := ⟨gb417, 2, none⟩) (Kd.R_types HO_7.out BK417.out (by decide)) (fun _ hk => hk.2) (.bool true)) (fun _ hk => ⟨hk.1.1, hk.1.2⟩)⟩
           have n1_ : Aside0 (Kd.R (Kd.int .u8) 5 (w95.setCell ⟨gb417, 2, none⟩ (.bool true)) w.heap.size (fun k_ => (w.heap.size ≤ k_) ∧ some k_ ≠ (.slice Ao88 t422.length co88 : Value).ownBlock) u8 x8_2) := ⟨by (with_reducible repeat (first | apply Kd.R_alloc | apply Kd.R_drewN | apply Kd.R_drew)); exact Kd.R_mono (Kd.R_far (p := ⟨gb417, 2, none⟩) (Kd.R_types HO_8.out BK417.out (by decide)) (fun _ hk => hk.2) (.bool true)) (fun _ hk => ⟨hk.1.1, hk.1.2⟩)⟩
           have n2_ : Aside0 (Kd.V (Kd.int .u8) 5 (w95.setCell ⟨gb417, 2, none⟩ (.bool true)) w.heap.size (fun k_ => ((P0_1_ k_ ∨ P1_ k_) ∨ w.heap.size ≤ k_) ∧ some k_ ≠ (.slice Ao88 t422.length co88 : Value).ownBlock ∧ some k_ ≠ (u8 : Value).ownBlock ∧ k_ ≠ gb409 ∧ k_ ≠ gb410 ∧ k_ ≠ gb417) (.slice A0_1 l0_1.length c0_1) l0_1) := ⟨by (with_reducible repeat (first | apply Kd.V_alloc | apply Kd.V_drewN | apply Kd.V_drew)); exact Kd.V_mono (Kd.V_far (p := ⟨gb417, 2, none⟩) (Kd.V_mono HO_410001.out (fun k_ hk => (⟨hk, hk.2.2.2.2.2⟩ : _ ∧ k_ ≠ gb417))) (fun _ hk => hk.2) (.bool true)) (fun _ hk => ⟨hk.1.1, ⟨hk.1.2.1, ⟨hk.1.2.2.1, ⟨hk.1.2.2.2.1, ⟨hk.1.2.2.2.2.1, hk.1.2.2.2.2.2⟩⟩⟩⟩⟩)⟩
           have n3_ : Aside0 (Kd.V (Kd.int .u8) 5 (w95.setCell ⟨gb417, 2, none⟩ (.bool true)) w.heap.size (fun k_ => ((P0_1_ k_ ∨ P1_ k_) ∨ w.heap.size ≤ k_) ∧ some k_ ≠ (u8 : Value).ownBlock ∧ k_ ≠ gb409 ∧ k_ ≠ gb410 ∧ k_ ≠ gb417) (.slice A94 y434.length c94) y434) := ⟨by (with_reducible repeat (first | apply Kd.V_alloc | apply Kd.V_drewN | apply Kd.V_drew)); exact Kd.V_mono (Kd.V_far (p := ⟨gb417, 2, none⟩) (Kd.V_mono HO438.out (fun k_ hk => (⟨hk, hk.2⟩ : _ ∧ k_ ≠ gb417))) (fun _ hk => hk.2) (.bool true)) (fun _ hk => ⟨hk.1.1.1.1.1, ⟨hk.1.1.1.1.2, ⟨hk.1.1.1.2, ⟨hk.1.1.2, hk.1.2⟩⟩⟩⟩)⟩
           have n4_ : Aside0 ((w95.setCell ⟨gb417, 2, none⟩ (.bool true)).heap[gb409]? = some (.cells #[.int .i64 a0_0, .slice A0_1 l0_1.length c0_1, .bool a0_2] 46 (0, 0))) := ⟨by (with_reducible repeat (first | refine blk_drewN ?_ _ | refine blk_drew ?_ | refine blk_alloc ?_ _)); refine blk_far ?_ NB409_417.out _; (with_reducible repeat (first | refine blk_drewN ?_ _ | refine blk_drew ?_ | refine blk_alloc ?_ _)); exact BK409.out⟩
           have n5_ : Aside0 ((w95.setCell ⟨gb417, 2, none⟩ (.bool true)).heap[gb410]? = some (.cells #[.int .i64 0, .slice none 0 0, .bool false] 46 (0, 0))) := ⟨by (with_reducible repeat (first | refine blk_drewN ?_ _ | refine blk_drew ?_ | refine blk_alloc ?_ _)); refine blk_far ?_ NB410_417.out _; (with_reducible repeat (first | refine blk_drewN ?_ _ | refine blk_drew ?_ | refine blk_alloc ?_ _)); exact BK410.out⟩
           have n6_ : Aside0 ((w95.setCell ⟨gb417, 2, none⟩ (.bool true)).heap[gb417]? = some (.cells #[.int .i64 a0_0, .slice none 0 0, .bool true] 46 (0, 0))) := ⟨by (with_reducible repeat (first | refine blk_drewN ?_ _ | refine blk_drew ?_ | refine blk_alloc ?_ _)); refine blk_put (cs := #[.int .i64 a0_0, .slice none 0 0, .bool x418002_2]) ?_ 2 _ rfl; (with_reducible repeat (first | refine blk_drewN ?_ _ | refine blk_drew ?_ | refine blk_alloc ?_ _)); exact BK417.out⟩
           have n7_ : Aside0 (Below w.heap.size w (w95.setCell ⟨gb417, 2, none⟩ (.bool true))) := ⟨by repeat (first | (with_reducible first | exact HB.out | apply below_alloc | apply pw_below_drewN | apply below_drew1 | refine below_set ?_ GE409.out | refine below_set ?_ GE410.out | refine below_set ?_ GE417.out) | exact HB.out)⟩
           (try clear HO_7)
           (try clear HO_8)
           (try clear HO_410001)
           (try clear HO438)
           (try clear BK409)
           (try clear BK410)
           (try clear BK417)
           (try clear HB)
           generalize (w95.setCell ⟨gb417, 2, none⟩ (.bool true)) = w98 at n0_ n1_ n2_ n3_ n4_ n5_ n6_ n7_ ⊢
           have HO_7 := n0_
           have HO_8 := n1_
           have HO_410001 := n2_
           have HO438 := n3_
           have BK409 := n4_
           have BK410 := n5_
           have BK417 := n6_
           have HB := n7_
           clear n0_ n1_ n2_ n3_ n4_ n5_ n6_ n7_
           have n0_ := Aside0.mk (Kd.R_drew HO_7.out)
           have n1_ := Aside0.mk (Kd.R_drew HO_8.out)
           have n2_ := Aside0.mk (Kd.V_drew HO_410001.out)
           have n3_ := Aside0.mk (Kd.V_drew HO438.out)
           have n4_ := Aside0.mk (blk_drew BK409.out)
           have n5_ := Aside0.mk (blk_drew BK410.out)
           have n6_ := Aside0.mk (blk_drew BK417.out)
           have n7_ := Aside0.mk (below_drew1 HB.out)
           clear HO_7
           clear HO_8
           clear HO_410001
           clear HO438
           clear BK409
           clear BK410
           clear BK417
           clear HB
           have HO_7 := n0_
           have HO_8 := n1_
           have HO_410001 := n2_
           have HO438 := n3_
           have BK409 := n4_
           have BK410 := n5_
           have BK417 := n6_
           have HB := n7_
           clear n0_ n1_ n2_ n3_ n4_ n5_ n6_ n7_
           refine start_ (n := 5) (S := fun w' => w'.cell? ⟨gb417, 0, none⟩ = some (.int .i64 a0_0) ∧ w'.cell? ⟨gb417, 1, none⟩ = some (.slice none 0 0) ∧ w'.cell? ⟨gb417, 2, none⟩ = some (.bool true) ∧ (convert 23 9 (u8)).run Tryd.prog w' = .ok (.string (strOfNums x8_2)) w') (ds := []) #[false, false, false, false, false] (by kernel_rfl) rfl rfl ⟨(blk_cell BK417.out 0).trans rfl, (blk_cell BK417.out 1).trans rfl, (blk_cell BK417.out 2).trans rfl, (own_string (P := Tryd.prog) Tryd.underlying23 Tryd.underlying5 Tryd.underlying9 (Kd.own_of_R HO_8.out))⟩ (fun hHeld => ?_)
           generalize w98.drew = w99 at HO_7 HO_8 HO_410001 HO438 BK409 BK410 BK417 HB hHeld ⊢
           refine pure_ (i := 1) (N := some 70) (v := ?_) (a' := ?_) #[false, true, false, false, false] rfl rfl (by kernel_rfl) (fun _ _ _ h => h) (Or.inl ⟨by rfl, ?_⟩) ?_ ?_
           rotate_left
           ·intro w'
            go_simp
            with_reducible rfl
           rotate_left
           ·simp only [Act.put, List.setIfInBounds_toArray, List.set_cons_zero, List.set_cons_succ, i64_w, i32_w]
            rfl
           refine take_ (i := 0) (N := some 69) (v := ?_) (a' := ?_) #[true, true, false, false, false] rfl rfl (by kernel_rfl) (fun _ _ _ h => h) (Or.inl ⟨by rfl, ?_⟩) hHeld ?_ ?_
           rotate_left
           ·rintro w' ⟨s0, s1, s2, s3⟩
            go_simp
            with_reducible rfl
           rotate_left
           ·simp only [Act.put, List.setIfInBounds_toArray, List.set_cons_zero, List.set_cons_succ, i64_w, i32_w]
            rfl
           refine take_ (i := 2) (N := some 71) (v := ?_) (a' := ?_) #[true, true, true, false, false] rfl rfl (by kernel_rfl) (fun _ _ _ h => h) (Or.inl ⟨by rfl, ?_⟩) hHeld ?_ ?_
           rotate_left
           ·rintro w' ⟨s0, s1, s2, s3⟩
            go_simp
            with_reducible rfl
           rotate_left
           ·simp only [Act.put, List.setIfInBounds_toArray, List.set_cons_zero, List.set_cons_succ, i64_w, i32_w]
            rfl
           refine one_ (i := 3) (N := none) #[true, true, true, true, false] rfl rfl (by kernel_rfl) (by decide) (fun K hK => ?_)
           have hs101 : w99.cell? ⟨gb410, 0, none⟩ = some (.int .i64 0) := (blk_cell BK410.out 0).trans rfl
           have hfs101 := blk_frozen BK410.out 0
           have hns101_0 := NB409_410.out
           have hns101_2 := NB417_410.out
           have hms101_0 := NB410_409.out
           have hms101_2 := NB410_417.out
           have hs102 : w99.cell? ⟨gb410, 1, none⟩ = some (.slice none 0 0) := (blk_cell BK410.out 1).trans rfl
           have hfs102 := blk_frozen BK410.out 1
           have hns102_0 := NB409_410.out
           have hns102_2 := NB417_410.out
           have hms102_0 := NB410_409.out
           have hms102_2 := NB410_417.out
           have hs103 : w99.cell? ⟨gb410, 2, none⟩ = some (.bool false) := (blk_cell BK410.out 2).trans rfl
           have hfs103 := blk_frozen BK410.out 2
           have hns103_0 := NB409_410.out
           have hns103_2 := NB417_410.out
           have hms103_0 := NB410_409.out
           have hms103_2 := NB410_417.out
           refine skip_ (w1 := ?_) (by rfl) rfl ?_ ?_
           rotate_left
           ·go_simp
            rfl
           refine hK.out _ _ ⟨((cell_far (p := ⟨gb410, _, none⟩) NB417_410.out _).trans (((cell_far (p := ⟨gb410, _, none⟩) NB417_410.out _).trans (((cell_far (p := ⟨gb410, _, none⟩) NB417_410.out _).trans (hHeld.1)))))), ((cell_far (p := ⟨gb410, _, none⟩) NB417_410.out _).trans (((cell_far (p := ⟨gb410, _, none⟩) NB417_410.out _).trans (((cell_far (p := ⟨gb410, _, none⟩) NB417_410.out _).trans (hHeld.2.1)))))), ((cell_far (p := ⟨gb410, _, none⟩) NB417_410.out _).trans (((cell_far (p := ⟨gb410, _, none⟩) NB417_410.out _).trans (((cell_far (p := ⟨gb410, _, none⟩) NB417_410.out _).trans (hHeld.2.2.1)))))), (own_string (P := Tryd.prog) Tryd.underlying23 Tryd.underlying5 Tryd.underlying9 (Kd.own_of_R (Kd.R_far (Kd.R_far (Kd.R_far (Kd.R_types HO_8.out BK410.out (by decide)) (fun _ h_ => h_.2) _) (fun _ h_ => h_.2) _) (fun _ h_ => h_.2) _)))⟩ (fun hHeld => ?_)
           clear hK K
           refine pure_ (i := 4) (N := some 5) (v := ?_) (a' := ?_) #[true, true, true, true, true] rfl rfl (by kernel_rfl) (fun _ _ _ h => h) (Or.inl ⟨by rfl, ?_⟩) ?_ ?_
           rotate_left
           ·intro w'
            go_simp
            with_reducible rfl
           rotate_left
           ·simp only [Act.put, List.setIfInBounds_toArray, List.set_cons_zero, List.set_cons_succ, i64_w, i32_w]
            rfl
           refine done_ (by kernel_rfl) ?_
           try go_wp2
           refine bodyPost_ret (results_ct rfl _ _ gb410 46 #[.int .i64 a0_0, .slice none 0 0, .bool true] (0, 0) _ rfl (by (with_reducible repeat (first | refine blk_drewN ?_ _ | refine blk_drew ?_ | refine blk_alloc ?_ _)); refine blk_put (cs := #[.int .i64 a0_0, .slice none 0 0, .bool false]) ?_ 2 _ rfl; (with_reducible repeat (first | refine blk_drewN ?_ _ | refine blk_drew ?_ | refine blk_alloc ?_ _)); refine blk_put (cs := #[.int .i64 a0_0, .slice none 0 0, .bool false]) ?_ 1 _ rfl; (with_reducible repeat (first | refine blk_drewN ?_ _ | refine blk_drew ?_ | refine blk_alloc ?_ _)); refine blk_put (cs := #[.int .i64 0, .slice none 0 0, .bool false]) ?_ 0 _ rfl; (with_reducible repeat (first | refine blk_drewN ?_ _ | refine blk_drew ?_ | refine blk_alloc ?_ _)); exact BK410.out) Tryd.underlying46 rfl (by kernel_rfl)) rfl ?_
           exact ⟨_, by first | rfl | (simp [errW_none, errW_some] <;> rfl) | (simp [*, errW_none, errW_some] <;> rfl), by first | exact Kd.R_nil _ _ _ _ _ | exact Kd.N_nil _ _ _ _ _ | exact Kd.V_nil _ _ _ _ _ | exact Kd.Q_nil _ _ _ _ _ | exact Kd.S_nil _ _ _ _ _, hs_⟩
         ·rw [if_neg c60] at H
          exact absurd H (by simp)
        ·rw [if_neg c59] at H
         exact absurd H (by simp)
      ·rw [if_neg c48] at H
       have c48b0 : decide (x9_2 < (t422.length : Int)) = false := decide_eq_false c48
       clear c48
       simp only [Option.some.injEq, Prod.mk.injEq] at H
       obtain ⟨rfl, rfl, rfl, rfl⟩ := H
       obtain ⟨Ao104, co104, eo104⟩ := Kd.R_slice HO_7.out
       subst eo104
       try go_wp2
       have n0_ := Aside0.mk (Kd.R_drew HO_7.out)
       have n1_ := Aside0.mk (Kd.R_drew HO_8.out)
       have n2_ := Aside0.mk (Kd.V_drew HO_410001.out)
       have n3_ := Aside0.mk (blk_drew BK409.out)
       have n4_ := Aside0.mk (blk_drew BK410.out)
       have n5_ := Aside0.mk (blk_drew BK417.out)
       have n6_ := Aside0.mk (below_drew1 HB.out)
       clear HO_7
       clear HO_8
       clear HO_410001
       clear BK409
       clear BK410
       clear BK417
       clear HB
       have HO_7 := n0_
       have HO_8 := n1_
       have HO_410001 := n2_
       have BK409 := n3_
       have BK410 := n4_
       have BK417 := n5_
       have HB := n6_
       clear n0_ n1_ n2_ n3_ n4_ n5_ n6_
       refine start_ (n := 5) (S := fun w' => w'.cell? ⟨gb417, 0, none⟩ = some (.int .i64 a0_0) ∧ w'.cell? ⟨gb417, 1, none⟩ = some (.slice none 0 0) ∧ w'.cell? ⟨gb417, 2, none⟩ = some (.bool x418002_2) ∧ (convert 23 9 (u8)).run Tryd.prog w' = .ok (.string (strOfNums x8_2)) w') (ds := []) #[false, false, false, false, false] (by kernel_rfl) rfl rfl ⟨(blk_cell BK417.out 0).trans rfl, (blk_cell BK417.out 1).trans rfl, (blk_cell BK417.out 2).trans rfl, (own_string (P := Tryd.prog) Tryd.underlying23 Tryd.underlying5 Tryd.underlying9 (Kd.own_of_R HO_8.out))⟩ (fun hHeld => ?_)
       generalize wr.drew = w105 at HO_7 HO_8 HO_410001 BK409 BK410 BK417 HB hHeld ⊢
       refine pure_ (i := 1) (N := some 70) (v := ?_) (a' := ?_) #[false, true, false, false, false] rfl rfl (by kernel_rfl) (fun _ _ _ h => h) (Or.inl ⟨by rfl, ?_⟩) ?_ ?_
       rotate_left
       ·intro w'
        go_simp
        with_reducible rfl
       rotate_left
       ·simp only [Act.put, List.setIfInBounds_toArray, List.set_cons_zero, List.set_cons_succ, i64_w, i32_w]
        rfl
       refine take_ (i := 0) (N := some 69) (v := ?_) (a' := ?_) #[true, true, false, false, false] rfl rfl (by kernel_rfl) (fun _ _ _ h => h) (Or.inl ⟨by rfl, ?_⟩) hHeld ?_ ?_
       rotate_left
       ·rintro w' ⟨s0, s1, s2, s3⟩
        go_simp
        with_reducible rfl
       rotate_left
       ·simp only [Act.put, List.setIfInBounds_toArray, List.set_cons_zero, List.set_cons_succ, i64_w, i32_w]
        rfl
       refine take_ (i := 2) (N := some 71) (v := ?_) (a' := ?_) #[true, true, true, false, false] rfl rfl (by kernel_rfl) (fun _ _ _ h => h) (Or.inl ⟨by rfl, ?_⟩) hHeld ?_ ?_
       rotate_left
       ·rintro w' ⟨s0, s1, s2, s3⟩
        go_simp
        with_reducible rfl
       rotate_left
       ·simp only [Act.put, List.setIfInBounds_toArray, List.set_cons_zero, List.set_cons_succ, i64_w, i32_w]
        rfl
       refine one_ (i := 3) (N := none) #[true, true, true, true, false] rfl rfl (by kernel_rfl) (by decide) (fun K hK => ?_)
       have hs107 : w105.cell? ⟨gb410, 0, none⟩ = some (.int .i64 0) := (blk_cell BK410.out 0).trans rfl
       have hfs107 := blk_frozen BK410.out 0
       have hns107_0 := NB409_410.out
       have hns107_2 := NB417_410.out
       have hms107_0 := NB410_409.out
       have hms107_2 := NB410_417.out
       have hs108 : w105.cell? ⟨gb410, 1, none⟩ = some (.slice none 0 0) := (blk_cell BK410.out 1).trans rfl
       have hfs108 := blk_frozen BK410.out 1
       have hns108_0 := NB409_410.out
       have hns108_2 := NB417_410.out
       have hms108_0 := NB410_409.out
       have hms108_2 := NB410_417.out
       have hs109 : w105.cell? ⟨gb410, 2, none⟩ = some (.bool false) := (blk_cell BK410.out 2).trans rfl
       have hfs109 := blk_frozen BK410.out 2
       have hns109_0 := NB409_410.out
       have hns109_2 := NB417_410.out
       have hms109_0 := NB410_409.out
       have hms109_2 := NB410_417.out
       refine skip_ (w1 := ?_) (by rfl) rfl ?_ ?_
       rotate_left
       ·go_simp
        rfl
       refine hK.out _ _ ⟨((cell_far (p := ⟨gb410, _, none⟩) NB417_410.out _).trans (((cell_far (p := ⟨gb410, _, none⟩) NB417_410.out _).trans (((cell_far (p := ⟨gb410, _, none⟩) NB417_410.out _).trans (hHeld.1)))))), ((cell_far (p := ⟨gb410, _, none⟩) NB417_410.out _).trans (((cell_far (p := ⟨gb410, _, none⟩) NB417_410.out _).trans (((cell_far (p := ⟨gb410, _, none⟩) NB417_410.out _).trans (hHeld.2.1)))))), ((cell_far (p := ⟨gb410, _, none⟩) NB417_410.out _).trans (((cell_far (p := ⟨gb410, _, none⟩) NB417_410.out _).trans (((cell_far (p := ⟨gb410, _, none⟩) NB417_410.out _).trans (hHeld.2.2.1)))))), (own_string (P := Tryd.prog) Tryd.underlying23 Tryd.underlying5 Tryd.underlying9 (Kd.own_of_R (Kd.R_far (Kd.R_far (Kd.R_far (Kd.R_types HO_8.out BK410.out (by decide)) (fun _ h_ => h_.2) _) (fun _ h_ => h_.2) _) (fun _ h_ => h_.2) _)))⟩ (fun hHeld => ?_)
       clear hK K
       refine pure_ (i := 4) (N := some 5) (v := ?_) (a' := ?_) #[true, true, true, true, true] rfl rfl (by kernel_rfl) (fun _ _ _ h => h) (Or.inl ⟨by rfl, ?_⟩) ?_ ?_
       rotate_left
       ·intro w'
        go_simp
        with_reducible rfl
       rotate_left
       ·simp only [Act.put, List.setIfInBounds_toArray, List.set_cons_zero, List.set_cons_succ, i64_w, i32_w]
        rfl
       refine done_ (by kernel_rfl) ?_
       try go_wp2
       refine bodyPost_ret (results_ct rfl _ _ gb410 46 #[.int .i64 a0_0, .slice none 0 0, .bool x418002_2] (0, 0) _ rfl (by (with_reducible repeat (first | refine blk_drewN ?_ _ | refine blk_drew ?_ | refine blk_alloc ?_ _)); refine blk_put (cs := #[.int .i64 a0_0, .slice none 0 0, .bool false]) ?_ 2 _ rfl; (with_reducible repeat (first | refine blk_drewN ?_ _ | refine blk_drew ?_ | refine blk_alloc ?_ _)); refine blk_put (cs := #[.int .i64 a0_0, .slice none 0 0, .bool false]) ?_ 1 _ rfl; (with_reducible repeat (first | refine blk_drewN ?_ _ | refine blk_drew ?_ | refine blk_alloc ?_ _)); refine blk_put (cs := #[.int .i64 0, .slice none 0 0, .bool false]) ?_ 0 _ rfl; (with_reducible repeat (first | refine blk_drewN ?_ _ | refine blk_drew ?_ | refine blk_alloc ?_ _)); exact BK410.out) Tryd.underlying46 rfl (by kernel_rfl)) rfl ?_
       exact ⟨_, by first | rfl | (simp [errW_none, errW_some] <;> rfl) | (simp [*, errW_none, errW_some] <;> rfl), by first | exact Kd.R_nil _ _ _ _ _ | exact Kd.N_nil _ _ _ _ _ | exact Kd.V_nil _ _ _ _ _ | exact Kd.Q_nil _ _ _ _ _ | exact Kd.S_nil _ _ _ _ _, hs_⟩

end Go.Proofs.YtpmimhbnmjffpaaDoor.QFnExactFeed
