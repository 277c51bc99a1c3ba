/- The functions that a law reaches, each as a plain function, and that Go comes to just its answer: written by the session's program pp.py (the kit's print, with a few rows turned). -/
import Derived.Test.YtpmimhbnmjffpaaDoorQFnCodesx0
import Derived.Test.YtpmimhbnmjffpaaDoorQFnCodesx1
import Derived.Test.YtpmimhbnmjffpaaDoorQFnCodesx2
import Derived.Test.YtpmimhbnmjffpaaDoorQFnCodesx3
import Derived.Test.YtpmimhbnmjffpaaDoorQFnCodesx6
import Derived.Test.YtpmimhbnmjffpaaDoorQFnCodesx7
import Derived.Test.YtpmimhbnmjffpaaDoorQFnCodesx8
namespace Go.Proofs.YtpmimhbnmjffpaaDoor.QFnCodes
open Go.RowKit Go.Proofs.YtpmimhbnmjffpaaDoorW.PrintWords Go.Proofs.YtpmimhbnmjffpaaDoorW.PrintLast Go.Proofs.YtpmimhbnmjffpaaDoorW.PrintMore Go.Proofs.YtpmimhbnmjffpaaDoor.Xw Go.Proofs.YtpmimhbnmjffpaaDoor.Xs Go.Proofs.YtpmimhbnmjffpaaDoor.Ext
attribute [local go_sem] max2_int min2_int max_two min_two max_three min_three max_four min_four   -- for this text's walks alone
set_option linter.unusedVariables false
set_option linter.unusedSimpArgs false

/-! ### spec_l2Text: function 118 -/
def spec_l2Text.l0 : Nat → List Int → Int → List Int → Int → Int → Option (ByteArray × Int × Int)
  | 0, _, _, _, _, _ => none
  | k + 1, x5, x6, x1000, x1001, x1002 => if x6 > 0 then ((spec_l2Sign.f x1000 x1001 x1002).bind fun bt540 => ((spec_PutSign.f x5 bt540.1).bind fun t543 => (spec_l2Text.l0 k t543 (wrap64 (x6 - 1)) x1000 bt540.2.1 bt540.2.2))) else (some (strOfNums x5, x1001, x1002))
def spec_l2Text.f (k : Nat) (s0_0 : List Int) (s0_1 : Int) (s0_2 : Int) (a1 : Int) : Option (ByteArray × Int × Int) := (spec_l1Below.f s0_0 s0_1 s0_2 (wrap64 (a1 + 1))).bind fun bt537 => (spec_l2Text.l0 k (([] : List Int)) bt537.1 s0_0 bt537.2.1 bt537.2.2)
theorem spec_l2Text.mono_l : ∀ k, (∀ y0 y1 y2 y3 y4, LeO (spec_l2Text.l0 k y0 y1 y2 y3 y4) (spec_l2Text.l0 (k + 1) y0 y1 y2 y3 y4))
  | 0 => fun _ _ _ _ _ r h => by simp [spec_l2Text.l0] at h
  | k + 1 => by
    have ih0 := spec_l2Text.mono_l k
    · intro y0 y1 y2 y3 y4
      unfold spec_l2Text.l0
      repeat' first
      | (with_reducible exact ih0 _ _ _ _ _)
      | (with_reducible exact LeO.refl _)
      | (with_reducible exact LeO.none _)
      | (with_reducible refine LeO.ite ?_ ?_)
      | (with_reducible refine LeO.bind ?_ (fun _ => ?_))
      | exact ih0 _ _ _ _ _
      | exact LeO.none _
      | refine LeO.ite ?_ ?_
      | refine LeO.bind ?_ (fun _ => ?_)
theorem spec_l2Text.mono : ∀ a0 a1 a2 a3 k, LeO (spec_l2Text.f k a0 a1 a2 a3) (spec_l2Text.f (k + 1) a0 a1 a2 a3) := by
  intro a0 a1 a2 a3 k
  have ih0 := spec_l2Text.mono_l k
  unfold spec_l2Text.f
  repeat' first
      | (with_reducible exact ih0 _ _ _ _ _)
      | (with_reducible exact LeO.refl _)
      | (with_reducible exact LeO.none _)
      | (with_reducible refine LeO.ite ?_ ?_)
      | (with_reducible refine LeO.bind ?_ (fun _ => ?_))
      | exact ih0 _ _ _ _ _
      | exact LeO.none _
      | refine LeO.ite ?_ ?_
      | refine LeO.bind ?_ (fun _ => ?_)
set_option maxHeartbeats 8000000 in
set_option maxRecDepth 100000 in
theorem spec_l2Text.calls (k : Nat) (g : Nat) (s0_0 : List Int) (s0_1 : Int) (s0_2 : Int) (a1 : Int) (r1 : ByteArray) (r2 : Int) (r3 : Int) (w0 w : World) (hI : IsS100 w0 w g s0_0 s0_1 s0_2) (hB : Below w0.heap.size w0 w) (h : spec_l2Text.f k s0_0 s0_1 s0_2 a1 = some (r1, r2, r3)) :
    Calls Tryd.prog 118 #[.pointer (some ⟨g, 0, none⟩), .int .i64 a1] w fun e w' => e = .returned (.string r1) ∧ IsS100 w0 w' g s0_0 r2 r3 ∧ Below w0.heap.size w0 w' ∧ KeepBut w w' g none := by
  have HI0 := Aside0.mk hI
  have HK := Aside0.mk (KeepBut.refl w g none)
  have HL := Aside0.mk hB.size
  clear hI
  have HW0 := Aside0.mk hB.size
  have HB := Aside0.mk hB
  clear hB
  have H : ((spec_l1Below.f s0_0 s0_1 s0_2 (wrap64 (a1 + 1))).bind fun bt537 => (spec_l2Text.l0 k (([] : List Int)) bt537.1 s0_0 bt537.2.1 bt537.2.2)) = some (r1, r2, r3) := h
  clear h
  obtain ⟨y534, hy534⟩ : ∃ y_ : List Int, y_ = (([] : List Int)) := ⟨_, rfl⟩
  replace H : ((spec_l1Below.f s0_0 s0_1 s0_2 (wrap64 (a1 + 1))).bind fun bt537 => (spec_l2Text.l0 k y534 bt537.1 s0_0 bt537.2.1 bt537.2.2)) = some (r1, r2, r3) := by first | (rw [hy534]; with_reducible exact H) | (have H2_ := (Option.bind_some _ _).symm.trans H; rw [hy534]; with_reducible exact H2_) | (have H2_ := (Option.bind_some _ _).symm.trans H; with_reducible exact H2_) | with_reducible exact H | (rw [hy534]; exact H) | exact H
  have Ny534 := Aside0.mk hy534
  clear hy534
  replace H := Option.bind_eq_some_iff.mp H
  obtain ⟨⟨t537, t538, t539⟩, A30, H⟩ := H
  replace H : (spec_l2Text.l0 k y534 t537 s0_0 t538 t539) = some (r1, r2, r3) := H
  have A3 := Aside0.mk A30
  clear A30
  have H' := Aside0.mk H
  clear H
  go_enter Tryd.func118, Tryd.ntmps118
  go_wp2_with (first | ((with_reducible refine gate_dst (N := 7) rfl ?_); refine Kd.R_lit (Kd.int .u8) _ 5 ?hg (N := 7) ?hd (xs := ([] : List Int)) (inner := []) (ok := fun _ => True) (okp := fun _ => True) ?hr ?hp (fun _ hk => hk) trivial (Below.refl _ _) (Nat.le_refl _) (by simp) ?_; (case hd => rfl); (case hg => rfl); (case hr => first | (go_simp; done) | (go_simp; rfl)); (case hp => exact (Reps.none _ _)); intro v535 w4 ho5 hb hg_ hnew_; clear hg_ hnew_; (first | rw [← Ny534.out] at ho5 | (simp only [Int.reduceToNat] at ho5; rw [← Ny534.out] at ho5)); have n0_ := Aside0.mk (Kd.R_lower ho5 (keep_size (w := w) (g := g) (row := none) (by repeat (first | (with_reducible first | exact HK.out | apply KeepBut.set_ | apply keep_drewN | apply keep_drew | apply keep_alloc) | exact HK.out)))); have n1_ := Aside0.mk (IsS100.below (by repeat (first | (with_reducible first | exact HI0.out | apply IsS100.alloc | apply IsS100.drewN | apply IsS100.drew | apply IsS100.set_1 | apply IsS100.set_2) | exact HI0.out)) hb); have n2_ := Aside0.mk (KeepBut.trans (by repeat (first | (with_reducible first | exact HK.out | apply KeepBut.set_ | apply keep_drewN | apply keep_drew | apply keep_alloc) | exact HK.out)) (KeepBut.of_below hb g none) (.inl rfl)); have n3_ := Aside0.mk (below_step (by repeat (first | (with_reducible first | exact HB.out | apply below_alloc | apply pw_below_drewN | apply below_drew1 | refine below_set ?_ (IsS100.ge HI0.out)) | exact HB.out)) hb); clear HI0; clear HK; clear HB; have HO536 := n0_; have HI0 := n1_; have HK := n2_; have HB := n3_; clear n0_ n1_ n2_ n3_; clear hb ho5) | ((with_reducible refine gate_callee (f := 90) rfl ?_); refine goesL_ (some 11) rfl rfl Tryd.func90 (by kernel_rfl) rfl #[.pointer (some ⟨g, 0, none⟩), .int .i64 (wrap64 (a1 + 1))] rfl ka_ ?_; (with_reducible refine (spec_l1Below.calls g s0_0 s0_1 s0_2 (wrap64 (a1 + 1)) t537 t538 t539 w0 _ ?side1 ?side2 A3.out).mono ?_); (case side1 => repeat (first | (with_reducible first | exact HI0.out | apply IsS100.alloc | apply IsS100.drewN | apply IsS100.drew | apply IsS100.set_1 | apply IsS100.set_2) | exact HI0.out)); (case side2 => repeat (first | (with_reducible first | exact HB.out | apply below_alloc | apply pw_below_drewN | apply below_drew1 | refine below_set ?_ (IsS100.ge HI0.out)) | exact HB.out)); rintro e w6 ⟨rfl, hi, hb, hk⟩; refine ⟨_, rfl, ?_⟩; have n0_ := Aside0.mk (Kd.R_mono (Kd.R_keep (IsS100.apart (show IsS100 w0 _ g s0_0 s0_1 s0_2 from by repeat (first | (with_reducible first | exact HI0.out | apply IsS100.alloc | apply IsS100.drewN | apply IsS100.drew | apply IsS100.set_1 | apply IsS100.set_2) | exact HI0.out)) (kr_ HO536) (by decide)) hk (fun _ h => h.2)) (fun _ h => h.1)); have n1_ := Aside0.mk (KeepBut.trans (by repeat (first | (with_reducible first | exact HK.out | apply KeepBut.set_ | apply keep_drewN | apply keep_drew | apply keep_alloc) | exact HK.out)) hk (.inl rfl)); have n2_ := Aside0.mk (hb); have n3_ := Aside0.mk (hi); clear HO536; clear HK; clear HB; clear HI0; have HO536 := n0_; have HK := n1_; have HB := n2_; have HI0 := n3_; clear n0_ n1_ n2_ n3_; (try clear hb); (try clear hb2); (try clear hk); (try clear hi)))
  go_loopg [5, 6] k (fun kq v5 v6 w' => ∃ (x5_1 : List Int) (x6_1 : Int) (x1001_1 : Int) (x1002_1 : Int), v6 = .int .i64 x6_1 ∧ Aside0 (spec_l2Text.l0 kq x5_1 x6_1 s0_0 x1001_1 x1002_1 = some (r1, r2, r3)) ∧ Aside0 (kq ≤ k) ∧ Aside0 (Kd.R (Kd.int .u8) 5 w' w.heap.size (fun _ => True) v5 x5_1) ∧ Aside0 (IsS100 w0 w' g s0_0 x1001_1 x1002_1) ∧ Aside0 (KeepBut w w' g none) ∧ Aside0 (Below w0.heap.size w0 w'))
  case atStart => exact ⟨(y534), (t537), (t538), (t539), (by first | rfl | (simp; done) | (simp [*]; done)), H', ⟨Nat.le_refl _⟩, ⟨by (with_reducible repeat (first | apply Kd.R_alloc | apply Kd.R_drewN | apply Kd.R_drew)); exact HO536.out⟩, ⟨by repeat (first | (with_reducible first | exact HI0.out | apply IsS100.alloc | apply IsS100.drewN | apply IsS100.drew | apply IsS100.set_1 | apply IsS100.set_2) | exact HI0.out)⟩, ⟨by repeat (first | (with_reducible first | exact HK.out | apply KeepBut.set_ | apply keep_drewN | apply keep_drew | apply keep_alloc) | exact HK.out)⟩, ⟨by repeat (first | (with_reducible first | exact HB.out | apply below_alloc | apply pw_below_drewN | apply below_drew1 | refine below_set ?_ (IsS100.ge HI0.out)) | exact HB.out)⟩⟩
  case round =>
    clear H'
    try clear c1
    try clear p2
    try clear p6
    obtain ⟨x5_1, x6_1, x1001_1, x1002_1, rfl, HA, HK1, HO_5, HI0, HK, HB⟩ := hrel
    cases gk with
    | zero => exact absurd HA.out (by simp [spec_l2Text.l0])
    | succ k1 =>
      have H := HA.out
      clear HA
      simp only [spec_l2Text.l0] at H
      by_cases c7 : x6_1 > 0
      · rw [if_pos c7] at H
        have c7b0 : decide (0 < x6_1) = true := decide_eq_true c7
        clear c7
        replace H := Option.bind_eq_some_iff.mp H
        obtain ⟨⟨t540, t541, t542⟩, A80, H⟩ := H
        replace H : ((spec_PutSign.f x5_1 t540).bind fun t543 => (spec_l2Text.l0 k1 t543 (wrap64 (x6_1 - 1)) s0_0 t541 t542)) = some (r1, r2, r3) := H
        have A8 := Aside0.mk A80
        clear A80
        replace H := Option.bind_eq_some_iff.mp H
        obtain ⟨t543, A90, H⟩ := H
        replace H : (spec_l2Text.l0 k1 t543 (wrap64 (x6_1 - 1)) s0_0 t541 t542) = some (r1, r2, r3) := H
        have A9 := Aside0.mk A90
        clear A90
        have H' := Aside0.mk H
        clear H
        go_wp2_with (first | ((with_reducible refine gate_callee (f := 133) rfl ?_); refine goesL_ (some 18) rfl rfl Tryd.func133 (by kernel_rfl) rfl #[.pointer (some ⟨g, 0, none⟩)] rfl ka_ ?_; (with_reducible refine (spec_l2Sign.calls g s0_0 x1001_1 x1002_1 t540 t541 t542 w0 _ ?side1 ?side2 A8.out).mono ?_); (case side1 => repeat (first | (with_reducible first | exact HI0.out | apply IsS100.alloc | apply IsS100.drewN | apply IsS100.drew | apply IsS100.set_1 | apply IsS100.set_2) | exact HI0.out)); (case side2 => repeat (first | (with_reducible first | exact HB.out | apply below_alloc | apply pw_below_drewN | apply below_drew1 | refine below_set ?_ (IsS100.ge HI0.out)) | exact HB.out)); rintro e w10 ⟨rfl, hi, hb, hk⟩; refine ⟨_, rfl, ?_⟩; have n0_ := Aside0.mk (Kd.R_mono (Kd.R_keep (IsS100.apart (show IsS100 w0 _ g s0_0 x1001_1 x1002_1 from by repeat (first | (with_reducible first | exact HI0.out | apply IsS100.alloc | apply IsS100.drewN | apply IsS100.drew | apply IsS100.set_1 | apply IsS100.set_2) | exact HI0.out)) (kr_ HO_5) (by decide)) hk (fun _ h => h.2)) (fun _ h => h.1)); have n1_ := Aside0.mk (KeepBut.trans (by repeat (first | (with_reducible first | exact HK.out | apply KeepBut.set_ | apply keep_drewN | apply keep_drew | apply keep_alloc) | exact HK.out)) hk (.inl rfl)); have n2_ := Aside0.mk (hb); have n3_ := Aside0.mk (hi); clear HO_5; clear HK; clear HB; clear HI0; have HO_5 := n0_; have HK := n1_; have HB := n2_; have HI0 := n3_; clear n0_ n1_ n2_ n3_; (try clear hb); (try clear hb2); (try clear hk); (try clear hi); obtain ⟨Ao11, co11, eo11⟩ := Kd.R_slice HO_5.out; subst eo11) | ((with_reducible refine gate_callee (f := 79) rfl ?_); refine goesL_ (some 19) rfl rfl Tryd.func79 (by kernel_rfl) rfl #[.slice Ao11 x5_1.length co11, .int .i64 t540] rfl ka_ ?_; (with_reducible refine (spec_PutSign.calls _ _ x5_1 t540 t543 _ ?side1 ?side2 A9.out).mono ?_); (case side1 => repeat (first | exact (Kd.R_reads' HO_5.out).2.2 | (with_reducible refine Kd.C_alloc ?_ _) | (with_reducible refine Kd.C_drewN ?_ _) | (with_reducible refine Kd.C_drew ?_))); (case side2 => exact (Kd.R_reads' HO_5.out).2.1); rintro e w12 ⟨v544, rfl, ho0, hb⟩; refine ⟨_, rfl, ?_⟩; have n0_ := Aside0.mk (Kd.R_elder' (kr_ HO_5) (Kd.R_base ho0) hb); have n1_ := Aside0.mk (Kd.R_lower (Kd.R_new' ho0 (Kd.R_lt (kr_ HO_5))) (keep_size (w := w) (g := g) (row := none) (by repeat (first | (with_reducible first | exact HK.out | apply KeepBut.set_ | apply keep_drewN | apply keep_drew | apply keep_alloc) | exact HK.out)))); have n2_ := Aside0.mk (IsS100.below (by repeat (first | (with_reducible first | exact HI0.out | apply IsS100.alloc | apply IsS100.drewN | apply IsS100.drew | apply IsS100.set_1 | apply IsS100.set_2) | exact HI0.out)) hb); have n3_ := Aside0.mk (KeepBut.trans (by repeat (first | (with_reducible first | exact HK.out | apply KeepBut.set_ | apply keep_drewN | apply keep_drew | apply keep_alloc) | exact HK.out)) (KeepBut.of_below hb g none) (.inl rfl)); have n4_ := Aside0.mk (below_step (by repeat (first | (with_reducible first | exact HB.out | apply below_alloc | apply pw_below_drewN | apply below_drew1 | refine below_set ?_ (IsS100.ge HI0.out)) | exact HB.out)) hb); clear HO_5; clear HI0; clear HK; clear HB; have HO_5 := n0_; have HO545 := n1_; have HI0 := n2_; have HK := n3_; have HB := n4_; clear n0_ n1_ n2_ n3_ n4_; (try clear hb); (try clear hb2); (try clear hk); (try clear hi); (try clear ho0)))
        go_roundg k1
        case measure => have := HK1.out; omega
        case rel => exact ⟨(t543), (wrap64 (x6_1 - 1)), (t541), (t542), (by first | rfl | (simp; done) | (simp [*]; done)), H', ⟨by have := HK1.out; omega⟩, ⟨by (with_reducible repeat (first | apply Kd.R_alloc | apply Kd.R_drewN | apply Kd.R_drew)); exact Kd.R_mono HO545.out (fun _ hk => trivial)⟩, ⟨by repeat (first | (with_reducible first | exact HI0.out | apply IsS100.alloc | apply IsS100.drewN | apply IsS100.drew | apply IsS100.set_1 | apply IsS100.set_2) | exact HI0.out)⟩, ⟨by repeat (first | (with_reducible first | exact HK.out | apply KeepBut.set_ | apply keep_drewN | apply keep_drew | apply keep_alloc) | exact HK.out)⟩, ⟨by repeat (first | (with_reducible first | exact HB.out | apply below_alloc | apply pw_below_drewN | apply below_drew1 | refine below_set ?_ (IsS100.ge HI0.out)) | exact HB.out)⟩⟩
      · rw [if_neg c7] at H
        have c7b0 : decide (0 < x6_1) = false := decide_eq_false c7
        clear c7
        simp only [Option.some.injEq, Prod.mk.injEq] at H
        obtain ⟨rfl, rfl, rfl⟩ := H
        have hcv13 := own_string (P := Tryd.prog) Tryd.underlying23 Tryd.underlying5 Tryd.underlying9 (Kd.own_of_R HO_5.out)
        try have hcn13 := fun n_ : Nat => own_string (P := Tryd.prog) Tryd.underlying23 Tryd.underlying5 Tryd.underlying9 (Kd.own_of_R (Kd.R_drewN HO_5.out n_))
        go_wp2
        go_ret
        exact ⟨rf_, by repeat (first | (with_reducible first | exact HI0.out | apply IsS100.alloc | apply IsS100.drewN | apply IsS100.drew | apply IsS100.set_1 | apply IsS100.set_2) | exact HI0.out), by repeat (first | (with_reducible first | exact HB.out | apply below_alloc | apply pw_below_drewN | apply below_drew1 | refine below_set ?_ (IsS100.ge HI0.out)) | exact HB.out), by repeat (first | (with_reducible first | exact HK.out | apply KeepBut.set_ | apply keep_drewN | apply keep_drew | apply keep_alloc) | exact HK.out)⟩

/-! ### spec_l2Bent: function 91 -/
def spec_l2Bent.f (k : Nat) (s0_0 : List Int) (s0_1 : Int) (s0_2 : Int) : Option (ByteArray × Int × Int) := (spec_l2Text.f k s0_0 s0_1 s0_2 6).bind fun bt546 => ((spec_l1Below.f s0_0 bt546.2.1 bt546.2.2 5).bind fun bt549 => (if bt549.1 = 0 then ((spec_l1Str.f s0_0 bt549.2.1 bt549.2.2 (([(⟨#[255]⟩ : ByteArray), (⟨#[192, 128]⟩ : ByteArray), (⟨#[224, 128, 128]⟩ : ByteArray), (⟨#[237, 160, 128]⟩ : ByteArray), (⟨#[244, 144, 128, 128]⟩ : ByteArray), (⟨#[194]⟩ : ByteArray), (⟨#[226, 130]⟩ : ByteArray), (⟨#[128]⟩ : ByteArray)] : List ByteArray))).bind fun bt555 => (if bt546.1.size + bt555.1.size ≤ 9223372036854775807 then (some (bt546.1 ++ bt555.1, bt555.2.1, bt555.2.2)) else (none))) else (if bt549.1 = 1 then (if bt546.1.size ≤ 9223372036854775807 then ((spec_l1Bend.f s0_0 bt549.2.1 bt549.2.2 (numsOf bt546.1)).bind fun bt561 => (some (strOfNums bt561.1, bt561.2.1, bt561.2.2))) else (none)) else (some (bt546.1, bt549.2.1, bt549.2.2)))))
theorem spec_l2Bent.mono : ∀ a0 a1 a2 k, LeO (spec_l2Bent.f k a0 a1 a2) (spec_l2Bent.f (k + 1) a0 a1 a2) := by
  intro a0 a1 a2 k
  unfold spec_l2Bent.f
  repeat' first
      | (with_reducible exact spec_l2Text.mono _ _ _ _ _)
      | (with_reducible exact LeO.refl _)
      | (with_reducible exact LeO.none _)
      | (with_reducible refine LeO.ite ?_ ?_)
      | (with_reducible refine LeO.bind ?_ (fun _ => ?_))
      | exact spec_l2Text.mono _ _ _ _ _
      | exact LeO.none _
      | refine LeO.ite ?_ ?_
      | refine LeO.bind ?_ (fun _ => ?_)
set_option maxHeartbeats 8000000 in
set_option maxRecDepth 100000 in
theorem spec_l2Bent.calls (k : Nat) (g : Nat) (s0_0 : List Int) (s0_1 : Int) (s0_2 : Int) (r1 : ByteArray) (r2 : Int) (r3 : Int) (w0 w : World) (hI : IsS100 w0 w g s0_0 s0_1 s0_2) (hB : Below w0.heap.size w0 w) (h : spec_l2Bent.f k s0_0 s0_1 s0_2 = some (r1, r2, r3)) :
    Calls Tryd.prog 91 #[.pointer (some ⟨g, 0, none⟩)] w fun e w' => e = .returned (.string r1) ∧ IsS100 w0 w' g s0_0 r2 r3 ∧ Below w0.heap.size w0 w' ∧ KeepBut w w' g none := by
  have HI0 := Aside0.mk hI
  have HK := Aside0.mk (KeepBut.refl w g none)
  have HL := Aside0.mk hB.size
  clear hI
  have HW0 := Aside0.mk hB.size
  have HB := Aside0.mk hB
  clear hB
  have H : ((spec_l2Text.f k s0_0 s0_1 s0_2 6).bind fun bt546 => ((spec_l1Below.f s0_0 bt546.2.1 bt546.2.2 5).bind fun bt549 => (if bt549.1 = 0 then ((spec_l1Str.f s0_0 bt549.2.1 bt549.2.2 (([(⟨#[255]⟩ : ByteArray), (⟨#[192, 128]⟩ : ByteArray), (⟨#[224, 128, 128]⟩ : ByteArray), (⟨#[237, 160, 128]⟩ : ByteArray), (⟨#[244, 144, 128, 128]⟩ : ByteArray), (⟨#[194]⟩ : ByteArray), (⟨#[226, 130]⟩ : ByteArray), (⟨#[128]⟩ : ByteArray)] : List ByteArray))).bind fun bt555 => (if bt546.1.size + bt555.1.size ≤ 9223372036854775807 then (some (bt546.1 ++ bt555.1, bt555.2.1, bt555.2.2)) else (none))) else (if bt549.1 = 1 then (if bt546.1.size ≤ 9223372036854775807 then ((spec_l1Bend.f s0_0 bt549.2.1 bt549.2.2 (numsOf bt546.1)).bind fun bt561 => (some (strOfNums bt561.1, bt561.2.1, bt561.2.2))) else (none)) else (some (bt546.1, bt549.2.1, bt549.2.2)))))) = some (r1, r2, r3) := h
  clear h
  replace H := Option.bind_eq_some_iff.mp H
  obtain ⟨⟨t546, t547, t548⟩, A20, H⟩ := H
  replace H : ((spec_l1Below.f s0_0 t547 t548 5).bind fun bt549 => (if bt549.1 = 0 then ((spec_l1Str.f s0_0 bt549.2.1 bt549.2.2 (([(⟨#[255]⟩ : ByteArray), (⟨#[192, 128]⟩ : ByteArray), (⟨#[224, 128, 128]⟩ : ByteArray), (⟨#[237, 160, 128]⟩ : ByteArray), (⟨#[244, 144, 128, 128]⟩ : ByteArray), (⟨#[194]⟩ : ByteArray), (⟨#[226, 130]⟩ : ByteArray), (⟨#[128]⟩ : ByteArray)] : List ByteArray))).bind fun bt555 => (if t546.size + bt555.1.size ≤ 9223372036854775807 then (some (t546 ++ bt555.1, bt555.2.1, bt555.2.2)) else (none))) else (if bt549.1 = 1 then (if t546.size ≤ 9223372036854775807 then ((spec_l1Bend.f s0_0 bt549.2.1 bt549.2.2 (numsOf t546)).bind fun bt561 => (some (strOfNums bt561.1, bt561.2.1, bt561.2.2))) else (none)) else (some (t546, bt549.2.1, bt549.2.2))))) = some (r1, r2, r3) := H
  have A2 := Aside0.mk A20
  clear A20
  replace H := Option.bind_eq_some_iff.mp H
  obtain ⟨⟨t549, t550, t551⟩, A30, H⟩ := H
  replace H : (if t549 = 0 then ((spec_l1Str.f s0_0 t550 t551 (([(⟨#[255]⟩ : ByteArray), (⟨#[192, 128]⟩ : ByteArray), (⟨#[224, 128, 128]⟩ : ByteArray), (⟨#[237, 160, 128]⟩ : ByteArray), (⟨#[244, 144, 128, 128]⟩ : ByteArray), (⟨#[194]⟩ : ByteArray), (⟨#[226, 130]⟩ : ByteArray), (⟨#[128]⟩ : ByteArray)] : List ByteArray))).bind fun bt555 => (if t546.size + bt555.1.size ≤ 9223372036854775807 then (some (t546 ++ bt555.1, bt555.2.1, bt555.2.2)) else (none))) else (if t549 = 1 then (if t546.size ≤ 9223372036854775807 then ((spec_l1Bend.f s0_0 t550 t551 (numsOf t546)).bind fun bt561 => (some (strOfNums bt561.1, bt561.2.1, bt561.2.2))) else (none)) else (some (t546, t550, t551)))) = some (r1, r2, r3) := H
  have A3 := Aside0.mk A30
  clear A30
  by_cases c4 : t549 = 0
  · rw [if_pos c4] at H
    have c4b0 : (t549 == 0) = true := beq_iff_eq.mpr c4
    have c4b1 : (t549 != 0) = false := bne_eq_false_iff_eq.mpr c4
    clear c4
    obtain ⟨y552, hy552⟩ : ∃ y_ : List ByteArray, y_ = (([(⟨#[255]⟩ : ByteArray), (⟨#[192, 128]⟩ : ByteArray), (⟨#[224, 128, 128]⟩ : ByteArray), (⟨#[237, 160, 128]⟩ : ByteArray), (⟨#[244, 144, 128, 128]⟩ : ByteArray), (⟨#[194]⟩ : ByteArray), (⟨#[226, 130]⟩ : ByteArray), (⟨#[128]⟩ : ByteArray)] : List ByteArray)) := ⟨_, rfl⟩
    replace H : ((spec_l1Str.f s0_0 t550 t551 y552).bind fun bt555 => (if t546.size + bt555.1.size ≤ 9223372036854775807 then (some (t546 ++ bt555.1, bt555.2.1, bt555.2.2)) else (none))) = some (r1, r2, r3) := by first | (rw [hy552]; with_reducible exact H) | (have H2_ := (Option.bind_some _ _).symm.trans H; rw [hy552]; with_reducible exact H2_) | (have H2_ := (Option.bind_some _ _).symm.trans H; with_reducible exact H2_) | with_reducible exact H | (rw [hy552]; exact H) | exact H
    have Ny552 := Aside0.mk hy552
    clear hy552
    replace H := Option.bind_eq_some_iff.mp H
    obtain ⟨⟨t555, t556, t557⟩, A50, H⟩ := H
    replace H : (if t546.size + t555.size ≤ 9223372036854775807 then (some (t546 ++ t555, t556, t557)) else (none)) = some (r1, r2, r3) := H
    have A5 := Aside0.mk A50
    clear A50
    by_cases c6 : t546.size + t555.size ≤ 9223372036854775807
    · rw [if_pos c6] at H
      have c6b0 := eq_true c6
      have c6b1 : decide (t546.size + t555.size ≤ 9223372036854775807) = true := decide_eq_true c6
      try have c6b2 : (9223372036854775807 < t546.size + t555.size) = False := eq_false (Nat.not_lt.2 c6)
      simp only [Option.some.injEq, Prod.mk.injEq] at H
      obtain ⟨rfl, rfl, rfl⟩ := H
      go_enter Tryd.func91, Tryd.ntmps91
      go_wp2_with (first | ((with_reducible refine gate_callee (f := 118) rfl ?_); refine goesL_ (some 5) rfl rfl Tryd.func118 (by kernel_rfl) rfl #[.pointer (some ⟨g, 0, none⟩), .int .i64 6] rfl ka_ ?_; (with_reducible refine (spec_l2Text.calls k g s0_0 s0_1 s0_2 6 t546 t547 t548 w0 _ ?side1 ?side2 A2.out).mono ?_); (case side1 => repeat (first | (with_reducible first | exact HI0.out | apply IsS100.alloc | apply IsS100.drewN | apply IsS100.drew | apply IsS100.set_1 | apply IsS100.set_2) | exact HI0.out)); (case side2 => repeat (first | (with_reducible first | exact HB.out | apply below_alloc | apply pw_below_drewN | apply below_drew1 | refine below_set ?_ (IsS100.ge HI0.out)) | exact HB.out)); rintro e w7 ⟨rfl, hi, hb, hk⟩; refine ⟨_, rfl, ?_⟩; have n0_ := Aside0.mk (KeepBut.trans (by repeat (first | (with_reducible first | exact HK.out | apply KeepBut.set_ | apply keep_drewN | apply keep_drew | apply keep_alloc) | exact HK.out)) hk (.inl rfl)); have n1_ := Aside0.mk (hb); have n2_ := Aside0.mk (hi); clear HK; clear HB; clear HI0; have HK := n0_; have HB := n1_; have HI0 := n2_; clear n0_ n1_ n2_; (try clear hb); (try clear hb2); (try clear hk); (try clear hi)) | ((with_reducible refine gate_callee (f := 90) rfl ?_); refine goesL_ (some 7) rfl rfl Tryd.func90 (by kernel_rfl) rfl #[.pointer (some ⟨g, 0, none⟩), .int .i64 5] rfl ka_ ?_; (with_reducible refine (spec_l1Below.calls g s0_0 t547 t548 5 t549 t550 t551 w0 _ ?side1 ?side2 A3.out).mono ?_); (case side1 => repeat (first | (with_reducible first | exact HI0.out | apply IsS100.alloc | apply IsS100.drewN | apply IsS100.drew | apply IsS100.set_1 | apply IsS100.set_2) | exact HI0.out)); (case side2 => repeat (first | (with_reducible first | exact HB.out | apply below_alloc | apply pw_below_drewN | apply below_drew1 | refine below_set ?_ (IsS100.ge HI0.out)) | exact HB.out)); rintro e w8 ⟨rfl, hi, hb, hk⟩; refine ⟨_, rfl, ?_⟩; have n0_ := Aside0.mk (KeepBut.trans (by repeat (first | (with_reducible first | exact HK.out | apply KeepBut.set_ | apply keep_drewN | apply keep_drew | apply keep_alloc) | exact HK.out)) hk (.inl rfl)); have n1_ := Aside0.mk (hb); have n2_ := Aside0.mk (hi); clear HK; clear HB; clear HI0; have HK := n0_; have HB := n1_; have HI0 := n2_; clear n0_ n1_ n2_; (try clear hb); (try clear hb2); (try clear hk); (try clear hi)) | ((with_reducible refine gate_dst (N := 12) rfl ?_); refine Kd.R_lit Kd.string _ 9 ?hg (N := 12) ?hd (xs := ([(⟨#[255]⟩ : ByteArray), (⟨#[192, 128]⟩ : ByteArray), (⟨#[224, 128, 128]⟩ : ByteArray), (⟨#[237, 160, 128]⟩ : ByteArray), (⟨#[244, 144, 128, 128]⟩ : ByteArray), (⟨#[194]⟩ : ByteArray), (⟨#[226, 130]⟩ : ByteArray), (⟨#[128]⟩ : ByteArray)] : List ByteArray)) (inner := [.string (⟨#[255]⟩ : ByteArray), .string (⟨#[192, 128]⟩ : ByteArray), .string (⟨#[224, 128, 128]⟩ : ByteArray), .string (⟨#[237, 160, 128]⟩ : ByteArray), .string (⟨#[244, 144, 128, 128]⟩ : ByteArray), .string (⟨#[194]⟩ : ByteArray), .string (⟨#[226, 130]⟩ : ByteArray), .string (⟨#[128]⟩ : ByteArray)]) (ok := fun _ => True) (okp := fun _ => True) ?hr ?hp (fun _ hk => hk) trivial (Below.refl _ _) (Nat.le_refl _) (by simp) ?_; (case hd => rfl); (case hg => rfl); (case hr => first | (go_simp; done) | (go_simp; rfl)); (case hp => exact (Reps.one (show Kd.M Kd.string _ _ _ (⟨#[255]⟩ : ByteArray) [.string (⟨#[255]⟩ : ByteArray)] from rfl) (Reps.one (show Kd.M Kd.string _ _ _ (⟨#[192, 128]⟩ : ByteArray) [.string (⟨#[192, 128]⟩ : ByteArray)] from rfl) (Reps.one (show Kd.M Kd.string _ _ _ (⟨#[224, 128, 128]⟩ : ByteArray) [.string (⟨#[224, 128, 128]⟩ : ByteArray)] from rfl) (Reps.one (show Kd.M Kd.string _ _ _ (⟨#[237, 160, 128]⟩ : ByteArray) [.string (⟨#[237, 160, 128]⟩ : ByteArray)] from rfl) (Reps.one (show Kd.M Kd.string _ _ _ (⟨#[244, 144, 128, 128]⟩ : ByteArray) [.string (⟨#[244, 144, 128, 128]⟩ : ByteArray)] from rfl) (Reps.one (show Kd.M Kd.string _ _ _ (⟨#[194]⟩ : ByteArray) [.string (⟨#[194]⟩ : ByteArray)] from rfl) (Reps.one (show Kd.M Kd.string _ _ _ (⟨#[226, 130]⟩ : ByteArray) [.string (⟨#[226, 130]⟩ : ByteArray)] from rfl) (Reps.one (show Kd.M Kd.string _ _ _ (⟨#[128]⟩ : ByteArray) [.string (⟨#[128]⟩ : ByteArray)] from rfl) (Reps.none _ _)))))))))); intro v553 w9 ho10 hb hg_ hnew_; clear hg_ hnew_; (first | rw [← Ny552.out] at ho10 | (simp only [Int.reduceToNat] at ho10; rw [← Ny552.out] at ho10)); have n0_ := Aside0.mk (Kd.R_lower ho10 (keep_size (w := w) (g := g) (row := none) (by repeat (first | (with_reducible first | exact HK.out | apply KeepBut.set_ | apply keep_drewN | apply keep_drew | apply keep_alloc) | exact HK.out)))); have n1_ := Aside0.mk (IsS100.below (by repeat (first | (with_reducible first | exact HI0.out | apply IsS100.alloc | apply IsS100.drewN | apply IsS100.drew | apply IsS100.set_1 | apply IsS100.set_2) | exact HI0.out)) hb); have n2_ := Aside0.mk (KeepBut.trans (by repeat (first | (with_reducible first | exact HK.out | apply KeepBut.set_ | apply keep_drewN | apply keep_drew | apply keep_alloc) | exact HK.out)) (KeepBut.of_below hb g none) (.inl rfl)); have n3_ := Aside0.mk (below_step (by repeat (first | (with_reducible first | exact HB.out | apply below_alloc | apply pw_below_drewN | apply below_drew1 | refine below_set ?_ (IsS100.ge HI0.out)) | exact HB.out)) hb); clear HI0; clear HK; clear HB; have HO554 := n0_; have HI0 := n1_; have HK := n2_; have HB := n3_; clear n0_ n1_ n2_ n3_; clear hb ho10; obtain ⟨Ao11, co11, eo11⟩ := Kd.R_slice HO554.out; subst eo11) | ((with_reducible refine gate_callee (f := 92) rfl ?_); refine goesL_ (some 13) rfl rfl Tryd.func92 (by kernel_rfl) rfl #[.pointer (some ⟨g, 0, none⟩), .slice Ao11 y552.length co11] rfl ka_ ?_; (with_reducible refine (spec_l1Str.calls g s0_0 t550 t551 _ _ y552 t555 t556 t557 w0 _ ?side1 ?side2 ?side3 ?side4 ?side5 A5.out).mono ?_); (case side1 => repeat (first | (with_reducible first | exact HI0.out | apply IsS100.alloc | apply IsS100.drewN | apply IsS100.drew | apply IsS100.set_1 | apply IsS100.set_2) | exact HI0.out)); (case side2 => repeat (first | (with_reducible first | exact HB.out | apply below_alloc | apply pw_below_drewN | apply below_drew1 | refine below_set ?_ (IsS100.ge HI0.out)) | exact HB.out)); (case side3 => repeat (first | exact (Kd.R_reads' HO554.out).2.2 | (with_reducible refine Kd.C_alloc ?_ _) | (with_reducible refine Kd.C_drewN ?_ _) | (with_reducible refine Kd.C_drew ?_))); (case side4 => exact (Kd.R_reads' HO554.out).2.1); (case side5 => exact far_slice (IsS100.own_ne HI0.out HO554.out (by decide))); rintro e w12 ⟨rfl, hi, hb, hk⟩; refine ⟨_, rfl, ?_⟩; have n0_ := Aside0.mk (Kd.R_mono (Kd.R_keep (IsS100.apart (show IsS100 w0 _ g s0_0 t550 t551 from by repeat (first | (with_reducible first | exact HI0.out | apply IsS100.alloc | apply IsS100.drewN | apply IsS100.drew | apply IsS100.set_1 | apply IsS100.set_2) | exact HI0.out)) (kr_ HO554) (by decide)) hk (fun _ h => h.2)) (fun _ h => h.1)); have n1_ := Aside0.mk (KeepBut.trans (by repeat (first | (with_reducible first | exact HK.out | apply KeepBut.set_ | apply keep_drewN | apply keep_drew | apply keep_alloc) | exact HK.out)) hk (.inl rfl)); have n2_ := Aside0.mk (hb); have n3_ := Aside0.mk (hi); clear HO554; clear HK; clear HB; clear HI0; have HO554 := n0_; have HK := n1_; have HB := n2_; have HI0 := n3_; clear n0_ n1_ n2_ n3_; (try clear hb); (try clear hb2); (try clear hk); (try clear hi)))
      go_ret
      exact ⟨rf_, by repeat (first | (with_reducible first | exact HI0.out | apply IsS100.alloc | apply IsS100.drewN | apply IsS100.drew | apply IsS100.set_1 | apply IsS100.set_2) | exact HI0.out), by repeat (first | (with_reducible first | exact HB.out | apply below_alloc | apply pw_below_drewN | apply below_drew1 | refine below_set ?_ (IsS100.ge HI0.out)) | exact HB.out), by repeat (first | (with_reducible first | exact HK.out | apply KeepBut.set_ | apply keep_drewN | apply keep_drew | apply keep_alloc) | exact HK.out)⟩
    · rw [if_neg c6] at H
      exact absurd H (by simp)
  · rw [if_neg c4] at H
    have c4b0 : (t549 == 0) = false := beq_eq_false_iff_ne.mpr c4
    have c4b1 : (t549 != 0) = true := bne_iff_ne.mpr c4
    by_cases c13 : t549 = 1
    · rw [if_pos c13] at H
      have c13b0 : (t549 == 1) = true := beq_iff_eq.mpr c13
      have c13b1 : (t549 != 1) = false := bne_eq_false_iff_eq.mpr c13
      clear c13
      by_cases c14 : t546.size ≤ 9223372036854775807
      · rw [if_pos c14] at H
        have c14b0 := eq_true c14
        have c14b1 : decide (t546.size ≤ 9223372036854775807) = true := decide_eq_true c14
        try have c14b2 : (9223372036854775807 < t546.size) = False := eq_false (Nat.not_lt.2 c14)
        clear c14
        obtain ⟨y558, hy558⟩ : ∃ y_ : List Int, y_ = (numsOf t546) := ⟨_, rfl⟩
        replace H : ((spec_l1Bend.f s0_0 t550 t551 y558).bind fun bt561 => (some (strOfNums bt561.1, bt561.2.1, bt561.2.2))) = some (r1, r2, r3) := by first | (rw [hy558]; with_reducible exact H) | (have H2_ := (Option.bind_some _ _).symm.trans H; rw [hy558]; with_reducible exact H2_) | (have H2_ := (Option.bind_some _ _).symm.trans H; with_reducible exact H2_) | with_reducible exact H | (rw [hy558]; exact H) | exact H
        have Ny558 := Aside0.mk hy558
        clear hy558
        replace H := Option.bind_eq_some_iff.mp H
        obtain ⟨⟨t561, t564, t565⟩, A150, H⟩ := H
        replace H : (some (strOfNums t561, t564, t565)) = some (r1, r2, r3) := H
        have A15 := Aside0.mk A150
        clear A150
        simp only [Option.some.injEq, Prod.mk.injEq] at H
        obtain ⟨rfl, rfl, rfl⟩ := H
        go_enter Tryd.func91, Tryd.ntmps91
        go_wp2_with (first | ((with_reducible refine gate_callee (f := 118) rfl ?_); refine goesL_ (some 5) rfl rfl Tryd.func118 (by kernel_rfl) rfl #[.pointer (some ⟨g, 0, none⟩), .int .i64 6] rfl ka_ ?_; (with_reducible refine (spec_l2Text.calls k g s0_0 s0_1 s0_2 6 t546 t547 t548 w0 _ ?side1 ?side2 A2.out).mono ?_); (case side1 => repeat (first | (with_reducible first | exact HI0.out | apply IsS100.alloc | apply IsS100.drewN | apply IsS100.drew | apply IsS100.set_1 | apply IsS100.set_2) | exact HI0.out)); (case side2 => repeat (first | (with_reducible first | exact HB.out | apply below_alloc | apply pw_below_drewN | apply below_drew1 | refine below_set ?_ (IsS100.ge HI0.out)) | exact HB.out)); rintro e w16 ⟨rfl, hi, hb, hk⟩; refine ⟨_, rfl, ?_⟩; have n0_ := Aside0.mk (KeepBut.trans (by repeat (first | (with_reducible first | exact HK.out | apply KeepBut.set_ | apply keep_drewN | apply keep_drew | apply keep_alloc) | exact HK.out)) hk (.inl rfl)); have n1_ := Aside0.mk (hb); have n2_ := Aside0.mk (hi); clear HK; clear HB; clear HI0; have HK := n0_; have HB := n1_; have HI0 := n2_; clear n0_ n1_ n2_; (try clear hb); (try clear hb2); (try clear hk); (try clear hi)) | ((with_reducible refine gate_callee (f := 90) rfl ?_); refine goesL_ (some 7) rfl rfl Tryd.func90 (by kernel_rfl) rfl #[.pointer (some ⟨g, 0, none⟩), .int .i64 5] rfl ka_ ?_; (with_reducible refine (spec_l1Below.calls g s0_0 t547 t548 5 t549 t550 t551 w0 _ ?side1 ?side2 A3.out).mono ?_); (case side1 => repeat (first | (with_reducible first | exact HI0.out | apply IsS100.alloc | apply IsS100.drewN | apply IsS100.drew | apply IsS100.set_1 | apply IsS100.set_2) | exact HI0.out)); (case side2 => repeat (first | (with_reducible first | exact HB.out | apply below_alloc | apply pw_below_drewN | apply below_drew1 | refine below_set ?_ (IsS100.ge HI0.out)) | exact HB.out)); rintro e w17 ⟨rfl, hi, hb, hk⟩; refine ⟨_, rfl, ?_⟩; have n0_ := Aside0.mk (KeepBut.trans (by repeat (first | (with_reducible first | exact HK.out | apply KeepBut.set_ | apply keep_drewN | apply keep_drew | apply keep_alloc) | exact HK.out)) hk (.inl rfl)); have n1_ := Aside0.mk (hb); have n2_ := Aside0.mk (hi); clear HK; clear HB; clear HI0; have HK := n0_; have HB := n1_; have HI0 := n2_; clear n0_ n1_ n2_; (try clear hb); (try clear hb2); (try clear hk); (try clear hi)) | ((with_reducible refine Kd.gate_upon (N := 19) rfl ?_); refine Kd.V_ofstr _ 9 23 5 t546 Tryd.underlying9 Tryd.underlying23 Tryd.underlying5 (by first | exact of_decide_eq_true as_ | assumption | omega) (Below.refl _ _) (Nat.le_refl _) ?_; intro v559 w18 ho19 hb hg_ hnew_; clear hg_ hnew_; (first | rw [← Ny558.out] at ho19 | (simp only [Int.reduceToNat] at ho19; rw [← Ny558.out] at ho19)); have n0_ := Aside0.mk (Kd.V_lower (Kd.V_mono (ok' := fun k_ => k_ ≠ g) ho19 (fun k_ hk_ => (IsS100.fresh (by repeat (first | (with_reducible first | exact HI0.out | apply IsS100.alloc | apply IsS100.drewN | apply IsS100.drew | apply IsS100.set_1 | apply IsS100.set_2) | exact HI0.out)) k_ hk_))) (keep_size (w := w) (g := g) (row := none) (by repeat (first | (with_reducible first | exact HK.out | apply KeepBut.set_ | apply keep_drewN | apply keep_drew | apply keep_alloc) | exact HK.out)))); have n1_ := Aside0.mk (IsS100.below (by repeat (first | (with_reducible first | exact HI0.out | apply IsS100.alloc | apply IsS100.drewN | apply IsS100.drew | apply IsS100.set_1 | apply IsS100.set_2) | exact HI0.out)) hb); have n2_ := Aside0.mk (KeepBut.trans (by repeat (first | (with_reducible first | exact HK.out | apply KeepBut.set_ | apply keep_drewN | apply keep_drew | apply keep_alloc) | exact HK.out)) (KeepBut.of_below hb g none) (.inl rfl)); have n3_ := Aside0.mk (below_step (by repeat (first | (with_reducible first | exact HB.out | apply below_alloc | apply pw_below_drewN | apply below_drew1 | refine below_set ?_ (IsS100.ge HI0.out)) | exact HB.out)) hb); clear HI0; clear HK; clear HB; have HO560 := n0_; have HI0 := n1_; have HK := n2_; have HB := n3_; clear n0_ n1_ n2_ n3_; clear hb ho19; obtain ⟨Ao20, co20, eo20⟩ := Kd.V_slice HO560.out; subst eo20) | ((with_reducible refine gate_callee (f := 113) rfl ?_); refine goesL_ (some 20) rfl rfl Tryd.func113 (by kernel_rfl) rfl #[.pointer (some ⟨g, 0, none⟩), .slice Ao20 y558.length co20] rfl ka_ ?_; (with_reducible refine (spec_l1Bend.calls g s0_0 t550 t551 _ _ y558 t561 t564 t565 w0 _ ?side1 ?side2 ?side3 ?side4 ?side5 A15.out).mono ?_); (case side1 => repeat (first | (with_reducible first | exact HI0.out | apply IsS100.alloc | apply IsS100.drewN | apply IsS100.drew | apply IsS100.set_1 | apply IsS100.set_2) | exact HI0.out)); (case side2 => repeat (first | (with_reducible first | exact HB.out | apply below_alloc | apply pw_below_drewN | apply below_drew1 | refine below_set ?_ (IsS100.ge HI0.out)) | exact HB.out)); (case side3 => repeat (first | exact (Kd.V_reads' HO560.out).2.2 | (with_reducible refine Kd.C_alloc ?_ _) | (with_reducible refine Kd.C_drewN ?_ _) | (with_reducible refine Kd.C_drew ?_))); (case side4 => exact (Kd.V_reads' HO560.out).2.1); (case side5 => exact fun ad he h_ => by cases he; exact Kd.foot_ne (fun W_ hk_ => (Kd.V_reads' (Kd.V_keep HO560.out hk_ (fun k hk => by first | exact hk.2 | exact hk.1.2 | exact hk | (have := IsS100.lt HI0.out; omega)))).2.2) h_ (by decide)); rintro e w21 ⟨v562, rfl, ho0, hi, hb, hk⟩; refine ⟨_, rfl, ?_⟩; have n0_ := Aside0.mk (Kd.V_mono (Kd.V_told (Kd.V_oldK (Kd.V_mono (ok := fun k_ => k_ ≠ g) (by (with_reducible repeat (first | apply Kd.V_alloc | apply Kd.V_drewN | apply Kd.V_drew)); exact HO560.out) (fun k_ hk_ => (⟨hk_, hk_⟩ : _ ∧ k_ ≠ g))) hk) (Kd.R_base ho0)) (fun _ h_ => h_.1)); have n1_ := Aside0.mk (Kd.R_lower ho0 (keep_size (w := w) (g := g) (row := none) (by repeat (first | (with_reducible first | exact HK.out | apply KeepBut.set_ | apply keep_drewN | apply keep_drew | apply keep_alloc) | exact HK.out)))); have n2_ := Aside0.mk (KeepBut.trans (by repeat (first | (with_reducible first | exact HK.out | apply KeepBut.set_ | apply keep_drewN | apply keep_drew | apply keep_alloc) | exact HK.out)) hk (.inl rfl)); have n3_ := Aside0.mk (hb); have n4_ := Aside0.mk (hi); clear HO560; clear HK; clear HB; clear HI0; have HO560 := n0_; have HO563 := n1_; have HK := n2_; have HB := n3_; have HI0 := n4_; clear n0_ n1_ n2_ n3_ n4_; (try clear hb); (try clear hb2); (try clear hk); (try clear hi); (try clear ho0); have hcv22 := own_string (P := Tryd.prog) Tryd.underlying23 Tryd.underlying5 Tryd.underlying9 (Kd.own_of_R HO563.out); try have hcn22 := fun n_ : Nat => own_string (P := Tryd.prog) Tryd.underlying23 Tryd.underlying5 Tryd.underlying9 (Kd.own_of_R (Kd.R_drewN HO563.out n_))))
        go_ret
        exact ⟨rf_, by repeat (first | (with_reducible first | exact HI0.out | apply IsS100.alloc | apply IsS100.drewN | apply IsS100.drew | apply IsS100.set_1 | apply IsS100.set_2) | exact HI0.out), by repeat (first | (with_reducible first | exact HB.out | apply below_alloc | apply pw_below_drewN | apply below_drew1 | refine below_set ?_ (IsS100.ge HI0.out)) | exact HB.out), by repeat (first | (with_reducible first | exact HK.out | apply KeepBut.set_ | apply keep_drewN | apply keep_drew | apply keep_alloc) | exact HK.out)⟩
      · rw [if_neg c14] at H
        exact absurd H (by simp)
    · rw [if_neg c13] at H
      have c13b0 : (t549 == 1) = false := beq_eq_false_iff_ne.mpr c13
      have c13b1 : (t549 != 1) = true := bne_iff_ne.mpr c13
      simp only [Option.some.injEq, Prod.mk.injEq] at H
      obtain ⟨rfl, rfl, rfl⟩ := H
      go_enter Tryd.func91, Tryd.ntmps91
      go_wp2_with (first | ((with_reducible refine gate_callee (f := 118) rfl ?_); refine goesL_ (some 5) rfl rfl Tryd.func118 (by kernel_rfl) rfl #[.pointer (some ⟨g, 0, none⟩), .int .i64 6] rfl ka_ ?_; (with_reducible refine (spec_l2Text.calls k g s0_0 s0_1 s0_2 6 t546 t547 t548 w0 _ ?side1 ?side2 A2.out).mono ?_); (case side1 => repeat (first | (with_reducible first | exact HI0.out | apply IsS100.alloc | apply IsS100.drewN | apply IsS100.drew | apply IsS100.set_1 | apply IsS100.set_2) | exact HI0.out)); (case side2 => repeat (first | (with_reducible first | exact HB.out | apply below_alloc | apply pw_below_drewN | apply below_drew1 | refine below_set ?_ (IsS100.ge HI0.out)) | exact HB.out)); rintro e w23 ⟨rfl, hi, hb, hk⟩; refine ⟨_, rfl, ?_⟩; have n0_ := Aside0.mk (KeepBut.trans (by repeat (first | (with_reducible first | exact HK.out | apply KeepBut.set_ | apply keep_drewN | apply keep_drew | apply keep_alloc) | exact HK.out)) hk (.inl rfl)); have n1_ := Aside0.mk (hb); have n2_ := Aside0.mk (hi); clear HK; clear HB; clear HI0; have HK := n0_; have HB := n1_; have HI0 := n2_; clear n0_ n1_ n2_; (try clear hb); (try clear hb2); (try clear hk); (try clear hi)) | ((with_reducible refine gate_callee (f := 90) rfl ?_); refine goesL_ (some 7) rfl rfl Tryd.func90 (by kernel_rfl) rfl #[.pointer (some ⟨g, 0, none⟩), .int .i64 5] rfl ka_ ?_; (with_reducible refine (spec_l1Below.calls g s0_0 t547 t548 5 t549 t550 t551 w0 _ ?side1 ?side2 A3.out).mono ?_); (case side1 => repeat (first | (with_reducible first | exact HI0.out | apply IsS100.alloc | apply IsS100.drewN | apply IsS100.drew | apply IsS100.set_1 | apply IsS100.set_2) | exact HI0.out)); (case side2 => repeat (first | (with_reducible first | exact HB.out | apply below_alloc | apply pw_below_drewN | apply below_drew1 | refine below_set ?_ (IsS100.ge HI0.out)) | exact HB.out)); rintro e w24 ⟨rfl, hi, hb, hk⟩; refine ⟨_, rfl, ?_⟩; have n0_ := Aside0.mk (KeepBut.trans (by repeat (first | (with_reducible first | exact HK.out | apply KeepBut.set_ | apply keep_drewN | apply keep_drew | apply keep_alloc) | exact HK.out)) hk (.inl rfl)); have n1_ := Aside0.mk (hb); have n2_ := Aside0.mk (hi); clear HK; clear HB; clear HI0; have HK := n0_; have HB := n1_; have HI0 := n2_; clear n0_ n1_ n2_; (try clear hb); (try clear hb2); (try clear hk); (try clear hi)))
      go_ret
      exact ⟨rf_, by repeat (first | (with_reducible first | exact HI0.out | apply IsS100.alloc | apply IsS100.drewN | apply IsS100.drew | apply IsS100.set_1 | apply IsS100.set_2) | exact HI0.out), by repeat (first | (with_reducible first | exact HB.out | apply below_alloc | apply pw_below_drewN | apply below_drew1 | refine below_set ?_ (IsS100.ge HI0.out)) | exact HB.out), by repeat (first | (with_reducible first | exact HK.out | apply KeepBut.set_ | apply keep_drewN | apply keep_drew | apply keep_alloc) | exact HK.out)⟩

/-! ### spec_DrawEncode: function 57 -/
def spec_DrawEncode.f (k : Nat) (l0 : List Int) : Option (Int × ByteArray) := (spec_l1New.f k l0).bind fun bt566 => ((spec_l3Any.f bt566.1 bt566.2.1 bt566.2.2).bind fun bt570 => ((spec_l5Text.f k bt566.1 bt570.2.1 bt570.2.2 bt570.1 5).bind fun bt573 => ((spec_l1Below.f bt566.1 bt573.2.1 bt573.2.2 4).bind fun bt576 => (if bt576.1 = 0 then ((spec_l2Bent.f k bt566.1 bt576.2.1 bt576.2.2).bind fun bt579 => (some (bt570.1, bt579.1))) else (if bt576.1 = 1 then ((spec_l1Str.f bt566.1 bt576.2.1 bt576.2.2 (([(⟨#[195, 169]⟩ : ByteArray), (⟨#[226, 130, 172]⟩ : ByteArray), (⟨#[255]⟩ : ByteArray), (⟨#[208, 176]⟩ : ByteArray)] : List ByteArray))).bind fun bt585 => (if bt573.1.size + bt585.1.size ≤ 9223372036854775807 then (some (bt570.1, bt573.1 ++ bt585.1)) else (none))) else (some (bt570.1, bt573.1)))))))
theorem spec_DrawEncode.mono : ∀ a0 k, LeO (spec_DrawEncode.f k a0) (spec_DrawEncode.f (k + 1) a0) := by
  intro a0 k
  unfold spec_DrawEncode.f
  repeat' first
      | (with_reducible exact spec_l1New.mono _ _)
      | (with_reducible exact spec_l2Bent.mono _ _ _ _)
      | (with_reducible exact spec_l5Text.mono _ _ _ _ _ _)
      | (with_reducible exact LeO.refl _)
      | (with_reducible exact LeO.none _)
      | (with_reducible refine LeO.ite ?_ ?_)
      | (with_reducible refine LeO.bind ?_ (fun _ => ?_))
      | exact spec_l1New.mono _ _
      | exact spec_l2Bent.mono _ _ _ _
      | exact spec_l5Text.mono _ _ _ _ _ _
      | exact LeO.none _
      | refine LeO.ite ?_ ?_
      | refine LeO.bind ?_ (fun _ => ?_)
set_option maxHeartbeats 8000000 in
set_option maxRecDepth 100000 in
theorem spec_DrawEncode.calls (k : Nat) (A0 : Option Addr) (c0 : Nat) (l0 : List Int) (r1 : Int) (r2 : ByteArray) (w : World) (hr0 : Kd.C (Kd.int .u8) w A0 l0.length l0) (hc0 : l0.length ≤ c0) (h : spec_DrawEncode.f k l0 = some (r1, r2)) :
    Calls Tryd.prog 57 #[.slice A0 l0.length c0] w fun e w' => e = .returned (.tuple #[.int .i64 r1, .string r2]) ∧ Below w.heap.size w w' := by
  have HR0 := Aside0.mk hr0
  have HC0 := Aside0.mk hc0
  clear hr0 hc0
  have HB := Aside0.mk (Below.refl w.heap.size w)
  have H : ((spec_l1New.f k l0).bind fun bt566 => ((spec_l3Any.f bt566.1 bt566.2.1 bt566.2.2).bind fun bt570 => ((spec_l5Text.f k bt566.1 bt570.2.1 bt570.2.2 bt570.1 5).bind fun bt573 => ((spec_l1Below.f bt566.1 bt573.2.1 bt573.2.2 4).bind fun bt576 => (if bt576.1 = 0 then ((spec_l2Bent.f k bt566.1 bt576.2.1 bt576.2.2).bind fun bt579 => (some (bt570.1, bt579.1))) else (if bt576.1 = 1 then ((spec_l1Str.f bt566.1 bt576.2.1 bt576.2.2 (([(⟨#[195, 169]⟩ : ByteArray), (⟨#[226, 130, 172]⟩ : ByteArray), (⟨#[255]⟩ : ByteArray), (⟨#[208, 176]⟩ : ByteArray)] : List ByteArray))).bind fun bt585 => (if bt573.1.size + bt585.1.size ≤ 9223372036854775807 then (some (bt570.1, bt573.1 ++ bt585.1)) else (none))) else (some (bt570.1, bt573.1)))))))) = some (r1, r2) := h
  clear h
  replace H := Option.bind_eq_some_iff.mp H
  obtain ⟨⟨t566, t567, t568⟩, A20, H⟩ := H
  replace H : ((spec_l3Any.f t566 t567 t568).bind fun bt570 => ((spec_l5Text.f k t566 bt570.2.1 bt570.2.2 bt570.1 5).bind fun bt573 => ((spec_l1Below.f t566 bt573.2.1 bt573.2.2 4).bind fun bt576 => (if bt576.1 = 0 then ((spec_l2Bent.f k t566 bt576.2.1 bt576.2.2).bind fun bt579 => (some (bt570.1, bt579.1))) else (if bt576.1 = 1 then ((spec_l1Str.f t566 bt576.2.1 bt576.2.2 (([(⟨#[195, 169]⟩ : ByteArray), (⟨#[226, 130, 172]⟩ : ByteArray), (⟨#[255]⟩ : ByteArray), (⟨#[208, 176]⟩ : ByteArray)] : List ByteArray))).bind fun bt585 => (if bt573.1.size + bt585.1.size ≤ 9223372036854775807 then (some (bt570.1, bt573.1 ++ bt585.1)) else (none))) else (some (bt570.1, bt573.1))))))) = some (r1, r2) := H
  have A2 := Aside0.mk A20
  clear A20
  replace H := Option.bind_eq_some_iff.mp H
  obtain ⟨⟨t570, t571, t572⟩, A30, H⟩ := H
  replace H : ((spec_l5Text.f k t566 t571 t572 t570 5).bind fun bt573 => ((spec_l1Below.f t566 bt573.2.1 bt573.2.2 4).bind fun bt576 => (if bt576.1 = 0 then ((spec_l2Bent.f k t566 bt576.2.1 bt576.2.2).bind fun bt579 => (some (t570, bt579.1))) else (if bt576.1 = 1 then ((spec_l1Str.f t566 bt576.2.1 bt576.2.2 (([(⟨#[195, 169]⟩ : ByteArray), (⟨#[226, 130, 172]⟩ : ByteArray), (⟨#[255]⟩ : ByteArray), (⟨#[208, 176]⟩ : ByteArray)] : List ByteArray))).bind fun bt585 => (if bt573.1.size + bt585.1.size ≤ 9223372036854775807 then (some (t570, bt573.1 ++ bt585.1)) else (none))) else (some (t570, bt573.1)))))) = some (r1, r2) := H
  have A3 := Aside0.mk A30
  clear A30
  replace H := Option.bind_eq_some_iff.mp H
  obtain ⟨⟨t573, t574, t575⟩, A40, H⟩ := H
  replace H : ((spec_l1Below.f t566 t574 t575 4).bind fun bt576 => (if bt576.1 = 0 then ((spec_l2Bent.f k t566 bt576.2.1 bt576.2.2).bind fun bt579 => (some (t570, bt579.1))) else (if bt576.1 = 1 then ((spec_l1Str.f t566 bt576.2.1 bt576.2.2 (([(⟨#[195, 169]⟩ : ByteArray), (⟨#[226, 130, 172]⟩ : ByteArray), (⟨#[255]⟩ : ByteArray), (⟨#[208, 176]⟩ : ByteArray)] : List ByteArray))).bind fun bt585 => (if t573.size + bt585.1.size ≤ 9223372036854775807 then (some (t570, t573 ++ bt585.1)) else (none))) else (some (t570, t573))))) = some (r1, r2) := H
  have A4 := Aside0.mk A40
  clear A40
  replace H := Option.bind_eq_some_iff.mp H
  obtain ⟨⟨t576, t577, t578⟩, A50, H⟩ := H
  replace H : (if t576 = 0 then ((spec_l2Bent.f k t566 t577 t578).bind fun bt579 => (some (t570, bt579.1))) else (if t576 = 1 then ((spec_l1Str.f t566 t577 t578 (([(⟨#[195, 169]⟩ : ByteArray), (⟨#[226, 130, 172]⟩ : ByteArray), (⟨#[255]⟩ : ByteArray), (⟨#[208, 176]⟩ : ByteArray)] : List ByteArray))).bind fun bt585 => (if t573.size + bt585.1.size ≤ 9223372036854775807 then (some (t570, t573 ++ bt585.1)) else (none))) else (some (t570, t573)))) = some (r1, r2) := H
  have A5 := Aside0.mk A50
  clear A50
  by_cases c6 : t576 = 0
  · rw [if_pos c6] at H
    have c6b0 : (t576 == 0) = true := beq_iff_eq.mpr c6
    have c6b1 : (t576 != 0) = false := bne_eq_false_iff_eq.mpr c6
    clear c6
    replace H := Option.bind_eq_some_iff.mp H
    obtain ⟨⟨t579, t580, t581⟩, A70, H⟩ := H
    replace H : (some (t570, t579)) = some (r1, r2) := H
    have A7 := Aside0.mk A70
    clear A70
    simp only [Option.some.injEq, Prod.mk.injEq] at H
    obtain ⟨rfl, rfl⟩ := H
    go_enter Tryd.func57, Tryd.ntmps57
    go_wp2_with (first | ((with_reducible refine gate_callee (f := 85) rfl ?_); refine goesL_ (some 8) rfl rfl Tryd.func85 (by kernel_rfl) rfl #[.slice A0 l0.length c0] rfl ka_ ?_; (with_reducible refine (spec_l1New.calls k _ _ l0 t566 t567 t568 w _ ?side1 ?side2 ?side3 A2.out).mono ?_); (case side1 => repeat (first | (with_reducible first | exact HB.out | apply below_alloc | apply pw_below_drewN | apply below_drew1) | exact HB.out)); (case side2 => exact HR0.out); (case side3 => exact HC0.out); rintro e w8 ⟨g569, rfl, hi, hb, hb2⟩; refine ⟨_, rfl, ?_⟩; have n0_ := Aside0.mk (hb); have n1_ := Aside0.mk (hi); clear HB; have HB := n0_; have HI569 := n1_; clear n0_ n1_; (try clear hb); (try clear hb2); (try clear hk); (try clear hi)) | ((with_reducible refine gate_callee (f := 86) rfl ?_); refine goesL_ (some 10) rfl rfl Tryd.func86 (by kernel_rfl) rfl #[.pointer (some ⟨g569, 0, none⟩)] rfl ka_ ?_; (with_reducible refine (spec_l3Any.calls g569 t566 t567 t568 t570 t571 t572 w _ ?side1 ?side2 A3.out).mono ?_); (case side1 => repeat (first | (with_reducible first | exact HI569.out | apply IsS100.alloc | apply IsS100.drewN | apply IsS100.drew | apply IsS100.set_1 | apply IsS100.set_2) | exact HI569.out)); (case side2 => repeat (first | (with_reducible first | exact HB.out | apply below_alloc | apply pw_below_drewN | apply below_drew1 | refine below_set ?_ (IsS100.ge HI569.out)) | exact HB.out)); rintro e w9 ⟨rfl, hi, hb, hk⟩; refine ⟨_, rfl, ?_⟩; have n0_ := Aside0.mk (hb); have n1_ := Aside0.mk (hi); clear HB; clear HI569; have HB := n0_; have HI569 := n1_; clear n0_ n1_; (try clear hb); (try clear hb2); (try clear hk); (try clear hi)) | ((with_reducible refine gate_callee (f := 89) rfl ?_); refine goesL_ (some 13) rfl rfl Tryd.func89 (by kernel_rfl) rfl #[.pointer (some ⟨g569, 0, none⟩), .int .i64 t570, .int .i64 5] rfl ka_ ?_; (with_reducible refine (spec_l5Text.calls k g569 t566 t571 t572 t570 5 t573 t574 t575 w _ ?side1 ?side2 A4.out).mono ?_); (case side1 => repeat (first | (with_reducible first | exact HI569.out | apply IsS100.alloc | apply IsS100.drewN | apply IsS100.drew | apply IsS100.set_1 | apply IsS100.set_2) | exact HI569.out)); (case side2 => repeat (first | (with_reducible first | exact HB.out | apply below_alloc | apply pw_below_drewN | apply below_drew1 | refine below_set ?_ (IsS100.ge HI569.out)) | exact HB.out)); rintro e w10 ⟨rfl, hi, hb, hk⟩; refine ⟨_, rfl, ?_⟩; have n0_ := Aside0.mk (hb); have n1_ := Aside0.mk (hi); clear HB; clear HI569; have HB := n0_; have HI569 := n1_; clear n0_ n1_; (try clear hb); (try clear hb2); (try clear hk); (try clear hi)) | ((with_reducible refine gate_callee (f := 90) rfl ?_); refine goesL_ (some 15) rfl rfl Tryd.func90 (by kernel_rfl) rfl #[.pointer (some ⟨g569, 0, none⟩), .int .i64 4] rfl ka_ ?_; (with_reducible refine (spec_l1Below.calls g569 t566 t574 t575 4 t576 t577 t578 w _ ?side1 ?side2 A5.out).mono ?_); (case side1 => repeat (first | (with_reducible first | exact HI569.out | apply IsS100.alloc | apply IsS100.drewN | apply IsS100.drew | apply IsS100.set_1 | apply IsS100.set_2) | exact HI569.out)); (case side2 => repeat (first | (with_reducible first | exact HB.out | apply below_alloc | apply pw_below_drewN | apply below_drew1 | refine below_set ?_ (IsS100.ge HI569.out)) | exact HB.out)); rintro e w11 ⟨rfl, hi, hb, hk⟩; refine ⟨_, rfl, ?_⟩; have n0_ := Aside0.mk (hb); have n1_ := Aside0.mk (hi); clear HB; clear HI569; have HB := n0_; have HI569 := n1_; clear n0_ n1_; (try clear hb); (try clear hb2); (try clear hk); (try clear hi)) | ((with_reducible refine gate_callee (f := 91) rfl ?_); refine goesL_ (some 20) rfl rfl Tryd.func91 (by kernel_rfl) rfl #[.pointer (some ⟨g569, 0, none⟩)] rfl ka_ ?_; (with_reducible refine (spec_l2Bent.calls k g569 t566 t577 t578 t579 t580 t581 w _ ?side1 ?side2 A7.out).mono ?_); (case side1 => repeat (first | (with_reducible first | exact HI569.out | apply IsS100.alloc | apply IsS100.drewN | apply IsS100.drew | apply IsS100.set_1 | apply IsS100.set_2) | exact HI569.out)); (case side2 => repeat (first | (with_reducible first | exact HB.out | apply below_alloc | apply pw_below_drewN | apply below_drew1 | refine below_set ?_ (IsS100.ge HI569.out)) | exact HB.out)); rintro e w12 ⟨rfl, hi, hb, hk⟩; refine ⟨_, rfl, ?_⟩; have n0_ := Aside0.mk (hb); have n1_ := Aside0.mk (hi); clear HB; clear HI569; have HB := n0_; have HI569 := n1_; clear n0_ n1_; (try clear hb); (try clear hb2); (try clear hk); (try clear hi)))
    go_ret2
    exact ⟨rf_, by repeat (first | (with_reducible first | exact HB.out | apply below_alloc | apply pw_below_drewN | apply below_drew1 | refine below_set ?_ (IsS100.ge HI569.out)) | exact HB.out)⟩
  · rw [if_neg c6] at H
    have c6b0 : (t576 == 0) = false := beq_eq_false_iff_ne.mpr c6
    have c6b1 : (t576 != 0) = true := bne_iff_ne.mpr c6
    by_cases c13 : t576 = 1
    · rw [if_pos c13] at H
      have c13b0 : (t576 == 1) = true := beq_iff_eq.mpr c13
      have c13b1 : (t576 != 1) = false := bne_eq_false_iff_eq.mpr c13
      clear c13
      obtain ⟨y582, hy582⟩ : ∃ y_ : List ByteArray, y_ = (([(⟨#[195, 169]⟩ : ByteArray), (⟨#[226, 130, 172]⟩ : ByteArray), (⟨#[255]⟩ : ByteArray), (⟨#[208, 176]⟩ : ByteArray)] : List ByteArray)) := ⟨_, rfl⟩
      replace H : ((spec_l1Str.f t566 t577 t578 y582).bind fun bt585 => (if t573.size + bt585.1.size ≤ 9223372036854775807 then (some (t570, t573 ++ bt585.1)) else (none))) = some (r1, r2) := by first | (rw [hy582]; with_reducible exact H) | (have H2_ := (Option.bind_some _ _).symm.trans H; rw [hy582]; with_reducible exact H2_) | (have H2_ := (Option.bind_some _ _).symm.trans H; with_reducible exact H2_) | with_reducible exact H | (rw [hy582]; exact H) | exact H
      have Ny582 := Aside0.mk hy582
      clear hy582
      replace H := Option.bind_eq_some_iff.mp H
      obtain ⟨⟨t585, t586, t587⟩, A140, H⟩ := H
      replace H : (if t573.size + t585.size ≤ 9223372036854775807 then (some (t570, t573 ++ t585)) else (none)) = some (r1, r2) := H
      have A14 := Aside0.mk A140
      clear A140
      by_cases c15 : t573.size + t585.size ≤ 9223372036854775807
      · rw [if_pos c15] at H
        have c15b0 := eq_true c15
        have c15b1 : decide (t573.size + t585.size ≤ 9223372036854775807) = true := decide_eq_true c15
        try have c15b2 : (9223372036854775807 < t573.size + t585.size) = False := eq_false (Nat.not_lt.2 c15)
        simp only [Option.some.injEq, Prod.mk.injEq] at H
        obtain ⟨rfl, rfl⟩ := H
        go_enter Tryd.func57, Tryd.ntmps57
        go_wp2_with (first | ((with_reducible refine gate_callee (f := 85) rfl ?_); refine goesL_ (some 8) rfl rfl Tryd.func85 (by kernel_rfl) rfl #[.slice A0 l0.length c0] rfl ka_ ?_; (with_reducible refine (spec_l1New.calls k _ _ l0 t566 t567 t568 w _ ?side1 ?side2 ?side3 A2.out).mono ?_); (case side1 => repeat (first | (with_reducible first | exact HB.out | apply below_alloc | apply pw_below_drewN | apply below_drew1) | exact HB.out)); (case side2 => exact HR0.out); (case side3 => exact HC0.out); rintro e w16 ⟨g569, rfl, hi, hb, hb2⟩; refine ⟨_, rfl, ?_⟩; have n0_ := Aside0.mk (hb); have n1_ := Aside0.mk (hi); clear HB; have HB := n0_; have HI569 := n1_; clear n0_ n1_; (try clear hb); (try clear hb2); (try clear hk); (try clear hi)) | ((with_reducible refine gate_callee (f := 86) rfl ?_); refine goesL_ (some 10) rfl rfl Tryd.func86 (by kernel_rfl) rfl #[.pointer (some ⟨g569, 0, none⟩)] rfl ka_ ?_; (with_reducible refine (spec_l3Any.calls g569 t566 t567 t568 t570 t571 t572 w _ ?side1 ?side2 A3.out).mono ?_); (case side1 => repeat (first | (with_reducible first | exact HI569.out | apply IsS100.alloc | apply IsS100.drewN | apply IsS100.drew | apply IsS100.set_1 | apply IsS100.set_2) | exact HI569.out)); (case side2 => repeat (first | (with_reducible first | exact HB.out | apply below_alloc | apply pw_below_drewN | apply below_drew1 | refine below_set ?_ (IsS100.ge HI569.out)) | exact HB.out)); rintro e w17 ⟨rfl, hi, hb, hk⟩; refine ⟨_, rfl, ?_⟩; have n0_ := Aside0.mk (hb); have n1_ := Aside0.mk (hi); clear HB; clear HI569; have HB := n0_; have HI569 := n1_; clear n0_ n1_; (try clear hb); (try clear hb2); (try clear hk); (try clear hi)) | ((with_reducible refine gate_callee (f := 89) rfl ?_); refine goesL_ (some 13) rfl rfl Tryd.func89 (by kernel_rfl) rfl #[.pointer (some ⟨g569, 0, none⟩), .int .i64 t570, .int .i64 5] rfl ka_ ?_; (with_reducible refine (spec_l5Text.calls k g569 t566 t571 t572 t570 5 t573 t574 t575 w _ ?side1 ?side2 A4.out).mono ?_); (case side1 => repeat (first | (with_reducible first | exact HI569.out | apply IsS100.alloc | apply IsS100.drewN | apply IsS100.drew | apply IsS100.set_1 | apply IsS100.set_2) | exact HI569.out)); (case side2 => repeat (first | (with_reducible first | exact HB.out | apply below_alloc | apply pw_below_drewN | apply below_drew1 | refine below_set ?_ (IsS100.ge HI569.out)) | exact HB.out)); rintro e w18 ⟨rfl, hi, hb, hk⟩; refine ⟨_, rfl, ?_⟩; have n0_ := Aside0.mk (hb); have n1_ := Aside0.mk (hi); clear HB; clear HI569; have HB := n0_; have HI569 := n1_; clear n0_ n1_; (try clear hb); (try clear hb2); (try clear hk); (try clear hi)) | ((with_reducible refine gate_callee (f := 90) rfl ?_); refine goesL_ (some 15) rfl rfl Tryd.func90 (by kernel_rfl) rfl #[.pointer (some ⟨g569, 0, none⟩), .int .i64 4] rfl ka_ ?_; (with_reducible refine (spec_l1Below.calls g569 t566 t574 t575 4 t576 t577 t578 w _ ?side1 ?side2 A5.out).mono ?_); (case side1 => repeat (first | (with_reducible first | exact HI569.out | apply IsS100.alloc | apply IsS100.drewN | apply IsS100.drew | apply IsS100.set_1 | apply IsS100.set_2) | exact HI569.out)); (case side2 => repeat (first | (with_reducible first | exact HB.out | apply below_alloc | apply pw_below_drewN | apply below_drew1 | refine below_set ?_ (IsS100.ge HI569.out)) | exact HB.out)); rintro e w19 ⟨rfl, hi, hb, hk⟩; refine ⟨_, rfl, ?_⟩; have n0_ := Aside0.mk (hb); have n1_ := Aside0.mk (hi); clear HB; clear HI569; have HB := n0_; have HI569 := n1_; clear n0_ n1_; (try clear hb); (try clear hb2); (try clear hk); (try clear hi)) | ((with_reducible refine gate_dst (N := 26) rfl ?_); refine Kd.R_lit Kd.string _ 9 ?hg (N := 26) ?hd (xs := ([(⟨#[195, 169]⟩ : ByteArray), (⟨#[226, 130, 172]⟩ : ByteArray), (⟨#[255]⟩ : ByteArray), (⟨#[208, 176]⟩ : ByteArray)] : List ByteArray)) (inner := [.string (⟨#[195, 169]⟩ : ByteArray), .string (⟨#[226, 130, 172]⟩ : ByteArray), .string (⟨#[255]⟩ : ByteArray), .string (⟨#[208, 176]⟩ : ByteArray)]) (ok := fun _ => True) (okp := fun _ => True) ?hr ?hp (fun _ hk => hk) trivial (Below.refl _ _) (Nat.le_refl _) (by simp) ?_; (case hd => rfl); (case hg => rfl); (case hr => first | (go_simp; done) | (go_simp; rfl)); (case hp => exact (Reps.one (show Kd.M Kd.string _ _ _ (⟨#[195, 169]⟩ : ByteArray) [.string (⟨#[195, 169]⟩ : ByteArray)] from rfl) (Reps.one (show Kd.M Kd.string _ _ _ (⟨#[226, 130, 172]⟩ : ByteArray) [.string (⟨#[226, 130, 172]⟩ : ByteArray)] from rfl) (Reps.one (show Kd.M Kd.string _ _ _ (⟨#[255]⟩ : ByteArray) [.string (⟨#[255]⟩ : ByteArray)] from rfl) (Reps.one (show Kd.M Kd.string _ _ _ (⟨#[208, 176]⟩ : ByteArray) [.string (⟨#[208, 176]⟩ : ByteArray)] from rfl) (Reps.none _ _)))))); intro v583 w20 ho21 hb hg_ hnew_; clear hg_ hnew_; (first | rw [← Ny582.out] at ho21 | (simp only [Int.reduceToNat] at ho21; rw [← Ny582.out] at ho21)); have n0_ := Aside0.mk (Kd.R_lower ho21 (below_size (by repeat (first | (with_reducible first | exact HB.out | apply below_alloc | apply pw_below_drewN | apply below_drew1 | refine below_set ?_ (IsS100.ge HI569.out)) | exact HB.out)))); have n1_ := Aside0.mk (IsS100.below (by repeat (first | (with_reducible first | exact HI569.out | apply IsS100.alloc | apply IsS100.drewN | apply IsS100.drew | apply IsS100.set_1 | apply IsS100.set_2) | exact HI569.out)) hb); have n2_ := Aside0.mk (below_step (by repeat (first | (with_reducible first | exact HB.out | apply below_alloc | apply pw_below_drewN | apply below_drew1 | refine below_set ?_ (IsS100.ge HI569.out)) | exact HB.out)) hb); clear HI569; clear HB; have HO584 := n0_; have HI569 := n1_; have HB := n2_; clear n0_ n1_ n2_; clear hb ho21; obtain ⟨Ao22, co22, eo22⟩ := Kd.R_slice HO584.out; subst eo22) | ((with_reducible refine gate_callee (f := 92) rfl ?_); refine goesL_ (some 27) rfl rfl Tryd.func92 (by kernel_rfl) rfl #[.pointer (some ⟨g569, 0, none⟩), .slice Ao22 y582.length co22] rfl ka_ ?_; (with_reducible refine (spec_l1Str.calls g569 t566 t577 t578 _ _ y582 t585 t586 t587 w _ ?side1 ?side2 ?side3 ?side4 ?side5 A14.out).mono ?_); (case side1 => repeat (first | (with_reducible first | exact HI569.out | apply IsS100.alloc | apply IsS100.drewN | apply IsS100.drew | apply IsS100.set_1 | apply IsS100.set_2) | exact HI569.out)); (case side2 => repeat (first | (with_reducible first | exact HB.out | apply below_alloc | apply pw_below_drewN | apply below_drew1 | refine below_set ?_ (IsS100.ge HI569.out)) | exact HB.out)); (case side3 => repeat (first | exact (Kd.R_reads' HO584.out).2.2 | (with_reducible refine Kd.C_alloc ?_ _) | (with_reducible refine Kd.C_drewN ?_ _) | (with_reducible refine Kd.C_drew ?_))); (case side4 => exact (Kd.R_reads' HO584.out).2.1); (case side5 => exact far_slice (IsS100.own_ne HI569.out HO584.out (by decide))); rintro e w23 ⟨rfl, hi, hb, hk⟩; refine ⟨_, rfl, ?_⟩; have n0_ := Aside0.mk (Kd.R_mono (Kd.R_keep (IsS100.apart (show IsS100 w _ g569 t566 t577 t578 from by repeat (first | (with_reducible first | exact HI569.out | apply IsS100.alloc | apply IsS100.drewN | apply IsS100.drew | apply IsS100.set_1 | apply IsS100.set_2) | exact HI569.out)) (kr_ HO584) (by decide)) hk (fun _ h => h.2)) (fun _ h => h.1)); have n1_ := Aside0.mk (hb); have n2_ := Aside0.mk (hi); clear HO584; clear HB; clear HI569; have HO584 := n0_; have HB := n1_; have HI569 := n2_; clear n0_ n1_ n2_; (try clear hb); (try clear hb2); (try clear hk); (try clear hi)))
        go_ret2
        exact ⟨rf_, by repeat (first | (with_reducible first | exact HB.out | apply below_alloc | apply pw_below_drewN | apply below_drew1 | refine below_set ?_ (IsS100.ge HI569.out)) | exact HB.out)⟩
      · rw [if_neg c15] at H
        exact absurd H (by simp)
    · rw [if_neg c13] at H
      have c13b0 : (t576 == 1) = false := beq_eq_false_iff_ne.mpr c13
      have c13b1 : (t576 != 1) = true := bne_iff_ne.mpr c13
      simp only [Option.some.injEq, Prod.mk.injEq] at H
      obtain ⟨rfl, rfl⟩ := H
      go_enter Tryd.func57, Tryd.ntmps57
      go_wp2_with (first | ((with_reducible refine gate_callee (f := 85) rfl ?_); refine goesL_ (some 8) rfl rfl Tryd.func85 (by kernel_rfl) rfl #[.slice A0 l0.length c0] rfl ka_ ?_; (with_reducible refine (spec_l1New.calls k _ _ l0 t566 t567 t568 w _ ?side1 ?side2 ?side3 A2.out).mono ?_); (case side1 => repeat (first | (with_reducible first | exact HB.out | apply below_alloc | apply pw_below_drewN | apply below_drew1) | exact HB.out)); (case side2 => exact HR0.out); (case side3 => exact HC0.out); rintro e w24 ⟨g569, rfl, hi, hb, hb2⟩; refine ⟨_, rfl, ?_⟩; have n0_ := Aside0.mk (hb); have n1_ := Aside0.mk (hi); clear HB; have HB := n0_; have HI569 := n1_; clear n0_ n1_; (try clear hb); (try clear hb2); (try clear hk); (try clear hi)) | ((with_reducible refine gate_callee (f := 86) rfl ?_); refine goesL_ (some 10) rfl rfl Tryd.func86 (by kernel_rfl) rfl #[.pointer (some ⟨g569, 0, none⟩)] rfl ka_ ?_; (with_reducible refine (spec_l3Any.calls g569 t566 t567 t568 t570 t571 t572 w _ ?side1 ?side2 A3.out).mono ?_); (case side1 => repeat (first | (with_reducible first | exact HI569.out | apply IsS100.alloc | apply IsS100.drewN | apply IsS100.drew | apply IsS100.set_1 | apply IsS100.set_2) | exact HI569.out)); (case side2 => repeat (first | (with_reducible first | exact HB.out | apply below_alloc | apply pw_below_drewN | apply below_drew1 | refine below_set ?_ (IsS100.ge HI569.out)) | exact HB.out)); rintro e w25 ⟨rfl, hi, hb, hk⟩; refine ⟨_, rfl, ?_⟩; have n0_ := Aside0.mk (hb); have n1_ := Aside0.mk (hi); clear HB; clear HI569; have HB := n0_; have HI569 := n1_; clear n0_ n1_; (try clear hb); (try clear hb2); (try clear hk); (try clear hi)) | ((with_reducible refine gate_callee (f := 89) rfl ?_); refine goesL_ (some 13) rfl rfl Tryd.func89 (by kernel_rfl) rfl #[.pointer (some ⟨g569, 0, none⟩), .int .i64 t570, .int .i64 5] rfl ka_ ?_; (with_reducible refine (spec_l5Text.calls k g569 t566 t571 t572 t570 5 t573 t574 t575 w _ ?side1 ?side2 A4.out).mono ?_); (case side1 => repeat (first | (with_reducible first | exact HI569.out | apply IsS100.alloc | apply IsS100.drewN | apply IsS100.drew | apply IsS100.set_1 | apply IsS100.set_2) | exact HI569.out)); (case side2 => repeat (first | (with_reducible first | exact HB.out | apply below_alloc | apply pw_below_drewN | apply below_drew1 | refine below_set ?_ (IsS100.ge HI569.out)) | exact HB.out)); rintro e w26 ⟨rfl, hi, hb, hk⟩; refine ⟨_, rfl, ?_⟩; have n0_ := Aside0.mk (hb); have n1_ := Aside0.mk (hi); clear HB; clear HI569; have HB := n0_; have HI569 := n1_; clear n0_ n1_; (try clear hb); (try clear hb2); (try clear hk); (try clear hi)) | ((with_reducible refine gate_callee (f := 90) rfl ?_); refine goesL_ (some 15) rfl rfl Tryd.func90 (by kernel_rfl) rfl #[.pointer (some ⟨g569, 0, none⟩), .int .i64 4] rfl ka_ ?_; (with_reducible refine (spec_l1Below.calls g569 t566 t574 t575 4 t576 t577 t578 w _ ?side1 ?side2 A5.out).mono ?_); (case side1 => repeat (first | (with_reducible first | exact HI569.out | apply IsS100.alloc | apply IsS100.drewN | apply IsS100.drew | apply IsS100.set_1 | apply IsS100.set_2) | exact HI569.out)); (case side2 => repeat (first | (with_reducible first | exact HB.out | apply below_alloc | apply pw_below_drewN | apply below_drew1 | refine below_set ?_ (IsS100.ge HI569.out)) | exact HB.out)); rintro e w27 ⟨rfl, hi, hb, hk⟩; refine ⟨_, rfl, ?_⟩; have n0_ := Aside0.mk (hb); have n1_ := Aside0.mk (hi); clear HB; clear HI569; have HB := n0_; have HI569 := n1_; clear n0_ n1_; (try clear hb); (try clear hb2); (try clear hk); (try clear hi)))
      go_ret2
      exact ⟨rf_, by repeat (first | (with_reducible first | exact HB.out | apply below_alloc | apply pw_below_drewN | apply below_drew1 | refine below_set ?_ (IsS100.ge HI569.out)) | exact HB.out)⟩

/-! ### spec_PairSign: function 123 -/
def spec_PairSign.j0 : Nat → Int → Int → Bool → Option (Int × Bool)
  | 0, _, _, _ => none
  | k + 1, x0, x1, x6 => if x6 = true then (some (wrap64 ((wrap64 (12353 + x1)) - 161), true)) else (if x0 = 165 then ((spec_l1In.f x1 161 246).bind fun t589 => (if t589 = true then (some (wrap64 ((wrap64 (12449 + x1)) - 161), true)) else (some (0, false)))) else (some (0, false)))
def spec_PairSign.f (k : Nat) (a0 : Int) (a1 : Int) : Option (Int × Bool) := if a0 = 164 then ((spec_l1In.f a1 161 243).bind fun t588 => (spec_PairSign.j0 k a0 a1 t588)) else (spec_PairSign.j0 k a0 a1 false)
theorem spec_PairSign.mono_l : ∀ k, (∀ y0 y1 y2, LeO (spec_PairSign.j0 k y0 y1 y2) (spec_PairSign.j0 (k + 1) y0 y1 y2))
  | 0 => fun _ _ _ r h => by simp [spec_PairSign.j0] at h
  | k + 1 => by
    have ih0 := spec_PairSign.mono_l k
    · intro y0 y1 y2
      unfold spec_PairSign.j0
      repeat' first
      | (with_reducible exact ih0 _ _ _)
      | (with_reducible exact LeO.refl _)
      | (with_reducible exact LeO.none _)
      | (with_reducible refine LeO.ite ?_ ?_)
      | (with_reducible refine LeO.bind ?_ (fun _ => ?_))
      | exact ih0 _ _ _
      | exact LeO.none _
      | refine LeO.ite ?_ ?_
      | refine LeO.bind ?_ (fun _ => ?_)
theorem spec_PairSign.mono : ∀ a0 a1 k, LeO (spec_PairSign.f k a0 a1) (spec_PairSign.f (k + 1) a0 a1) := by
  intro a0 a1 k
  have ih0 := spec_PairSign.mono_l k
  unfold spec_PairSign.f
  repeat' first
      | (with_reducible exact ih0 _ _ _)
      | (with_reducible exact LeO.refl _)
      | (with_reducible exact LeO.none _)
      | (with_reducible refine LeO.ite ?_ ?_)
      | (with_reducible refine LeO.bind ?_ (fun _ => ?_))
      | exact ih0 _ _ _
      | exact LeO.none _
      | refine LeO.ite ?_ ?_
      | refine LeO.bind ?_ (fun _ => ?_)
set_option maxHeartbeats 8000000 in
set_option maxRecDepth 100000 in
theorem spec_PairSign.calls (k : Nat) (a0 : Int) (a1 : Int) (r1 : Int) (r2 : Bool) (w : World) (h : spec_PairSign.f k a0 a1 = some (r1, r2)) :
    Calls Tryd.prog 123 #[.int .i64 a0, .int .i64 a1] w fun e w' => e = .returned (.tuple #[.int .i64 r1, .bool r2]) ∧ Drawn0 w w' := by
  have H : (if a0 = 164 then ((spec_l1In.f a1 161 243).bind fun t588 => (spec_PairSign.j0 k a0 a1 t588)) else (spec_PairSign.j0 k a0 a1 false)) = some (r1, r2) := h
  clear h
  have HC3 := Aside0.mk H
  clear H
  go_enter Tryd.func123, Tryd.ntmps123
  go_upto_region 1 with (fail)
  go_cut [6] (fun v6 wc => ∃ (kq : Nat) (x6_2 : Bool), v6 = .bool x6_2 ∧ Aside0 (spec_PairSign.j0 kq a0 a1 x6_2 = some (r1, r2)) ∧ Aside0 (kq ≤ k) ∧ Drawn0 w wc)
  case first =>
    have H := HC3.out
    clear HC3
    by_cases c4 : a0 = 164
    · rw [if_pos c4] at H
      have c4b0 : (a0 == 164) = true := beq_iff_eq.mpr c4
      have c4b1 : (a0 != 164) = false := bne_eq_false_iff_eq.mpr c4
      clear c4
      (first | rw [c4b0] | (simp only [i64_w, i32_w]; rw [c4b0]) | skip)
      replace H := Option.bind_eq_some_iff.mp H
      obtain ⟨t588, A50, H⟩ := H
      replace H : (spec_PairSign.j0 k a0 a1 t588) = some (r1, r2) := H
      have A5 := Aside0.mk A50
      clear A50
      have H' := Aside0.mk H
      clear H
      go_wp2_with (first | (go_at_call 96; (with_reducible refine (spec_l1In.calls a1 161 243 t588 _ A5.out).mono ?_); rintro e w' ⟨rfl, ⟨nd, rfl⟩⟩))
      go_meet
      case rel => exact ⟨_, (t588), (by first | rfl | (simp; done) | (simp [*]; done)), H', ⟨by first | omega | exact Nat.le_refl _⟩, by repeat (first | exact Drawn0.refl _ | apply Drawn0.step)⟩
    · rw [if_neg c4] at H
      have c4b0 : (a0 == 164) = false := beq_eq_false_iff_ne.mpr c4
      have c4b1 : (a0 != 164) = true := bne_iff_ne.mpr c4
      (first | rw [c4b0] | (simp only [i64_w, i32_w]; rw [c4b0]) | skip)
      have H' := Aside0.mk H
      clear H
      go_wp2
      go_meet
      case rel => exact ⟨_, (false), (by first | rfl | (simp; done) | (simp [*]; done)), H', ⟨by first | omega | exact Nat.le_refl _⟩, by repeat (first | exact Drawn0.refl _ | apply Drawn0.step)⟩
  case rest =>
    clear HC3
    try clear c1
    try clear p2
    try clear c4
    try clear c4b0
    try clear c4b1
    obtain ⟨kq, x6_2, rfl, HA, HJ2, ⟨mc2, rfl⟩⟩ := hcut
    cases kq with
    | zero => exact absurd HA.out (by simp [spec_PairSign.j0])
    | succ kj2 =>
      have H := HA.out
      clear HA
      simp only [spec_PairSign.j0] at H
      by_cases c6 : x6_2 = true
      · subst c6
        have H1 : (some (wrap64 ((wrap64 (12353 + a1)) - 161), true)) = some (r1, r2) := by rw [if_pos rfl] at H; exact H
        clear H
        have H := H1
        clear H1
        simp only [Option.some.injEq, Prod.mk.injEq] at H
        obtain ⟨rfl, rfl⟩ := H
        go_wp2
        go_ret2
        exact ⟨by first | rfl | (simp; done) | (simp [*]; done), by repeat (first | exact Drawn0.refl _ | apply Drawn0.step)⟩
      · replace c6 := Bool.eq_false_iff.mpr c6
        subst c6
        have H1 : (if a0 = 165 then ((spec_l1In.f a1 161 246).bind fun t589 => (if t589 = true then (some (wrap64 ((wrap64 (12449 + a1)) - 161), true)) else (some (0, false)))) else (some (0, false))) = some (r1, r2) := by rw [if_neg (show ¬ (false = true) by decide)] at H; exact H
        clear H
        have H := H1
        clear H1
        by_cases c7 : a0 = 165
        · rw [if_pos c7] at H
          have c7b0 : (a0 == 165) = true := beq_iff_eq.mpr c7
          have c7b1 : (a0 != 165) = false := bne_eq_false_iff_eq.mpr c7
          clear c7
          replace H := Option.bind_eq_some_iff.mp H
          obtain ⟨t589, A80, H⟩ := H
          replace H : (if t589 = true then (some (wrap64 ((wrap64 (12449 + a1)) - 161), true)) else (some (0, false))) = some (r1, r2) := H
          have A8 := Aside0.mk A80
          clear A80
          by_cases c9 : t589 = true
          · subst c9
            have H1 : (some (wrap64 ((wrap64 (12449 + a1)) - 161), true)) = some (r1, r2) := by rw [if_pos rfl] at H; exact H
            clear H
            have H := H1
            clear H1
            simp only [Option.some.injEq, Prod.mk.injEq] at H
            obtain ⟨rfl, rfl⟩ := H
            go_wp2_with (first | (go_at_call 96; (with_reducible refine (spec_l1In.calls a1 161 246 true _ A8.out).mono ?_); rintro e w' ⟨rfl, ⟨nd, rfl⟩⟩))
            go_ret2
            exact ⟨by first | rfl | (simp; done) | (simp [*]; done), by repeat (first | exact Drawn0.refl _ | apply Drawn0.step)⟩
          · replace c9 := Bool.eq_false_iff.mpr c9
            subst c9
            have H1 : (some (0, false)) = some (r1, r2) := by rw [if_neg (show ¬ (false = true) by decide)] at H; exact H
            clear H
            have H := H1
            clear H1
            simp only [Option.some.injEq, Prod.mk.injEq] at H
            obtain ⟨rfl, rfl⟩ := H
            go_wp2_with (first | (go_at_call 96; (with_reducible refine (spec_l1In.calls a1 161 246 false _ A8.out).mono ?_); rintro e w' ⟨rfl, ⟨nd, rfl⟩⟩))
            go_ret2
            exact ⟨by first | rfl | (simp; done) | (simp [*]; done), by repeat (first | exact Drawn0.refl _ | apply Drawn0.step)⟩
        · rw [if_neg c7] at H
          have c7b0 : (a0 == 165) = false := beq_eq_false_iff_ne.mpr c7
          have c7b1 : (a0 != 165) = true := bne_iff_ne.mpr c7
          simp only [Option.some.injEq, Prod.mk.injEq] at H
          obtain ⟨rfl, rfl⟩ := H
          go_wp2
          go_ret2
          exact ⟨by first | rfl | (simp; done) | (simp [*]; done), by repeat (first | exact Drawn0.refl _ | apply Drawn0.step)⟩

/-! ### spec_EucSign: function 104 -/
def spec_EucSign.f (k : Nat) (l0 : List Int) (a1 : Int) : Option (Int × Int × Bool) := (spec_l1In.f a1 0 (wrap64 ((l0.length : Int) - 1))).bind fun t590 => (if t590 = true then (if 0 ≤ a1 then (if a1 < (l0.length : Int) then (if (rd l0 a1) < 128 then (some (wrap64 (rd l0 a1), wrap64 (a1 + 1), true)) else (if (wrap64 (a1 + 1)) ≥ (l0.length : Int) then (some (0, 0, false)) else (if 0 ≤ (wrap64 (a1 + 1)) then (if (wrap64 (a1 + 1)) < (l0.length : Int) then ((spec_PairSign.f k (wrap64 (rd l0 a1)) (wrap64 (rd l0 (wrap64 (a1 + 1))))).bind fun bt595 => (if bt595.2 = true then (some (bt595.1, wrap64 (a1 + 2), true)) else (some (0, 0, false)))) else (none)) else (none)))) else (none)) else (none)) else (some (0, 0, false)))
theorem spec_EucSign.mono : ∀ a0 a1 k, LeO (spec_EucSign.f k a0 a1) (spec_EucSign.f (k + 1) a0 a1) := by
  intro a0 a1 k
  unfold spec_EucSign.f
  repeat' first
      | (with_reducible exact spec_PairSign.mono _ _ _)
      | (with_reducible exact LeO.refl _)
      | (with_reducible exact LeO.none _)
      | (with_reducible refine LeO.ite ?_ ?_)
      | (with_reducible refine LeO.bind ?_ (fun _ => ?_))
      | exact spec_PairSign.mono _ _ _
      | exact LeO.none _
      | refine LeO.ite ?_ ?_
      | refine LeO.bind ?_ (fun _ => ?_)
set_option maxHeartbeats 8000000 in
set_option maxRecDepth 100000 in
theorem spec_EucSign.calls (k : Nat) (A0 : Option Addr) (c0 : Nat) (l0 : List Int) (a1 : Int) (r1 : Int) (r2 : Int) (r3 : Bool) (w : World) (hr0 : Kd.C (Kd.int .u8) w A0 l0.length l0) (hc0 : l0.length ≤ c0) (h : spec_EucSign.f k l0 a1 = some (r1, r2, r3)) :
    Calls Tryd.prog 104 #[.slice A0 l0.length c0, .int .i64 a1] w fun e w' => e = .returned (.tuple #[.int .i64 r1, .int .i64 r2, .bool r3]) ∧ Drawn0 w w' := by
  have HR0 := Aside0.mk hr0
  have HC0 := Aside0.mk hc0
  clear hr0 hc0
  have H : ((spec_l1In.f a1 0 (wrap64 ((l0.length : Int) - 1))).bind fun t590 => (if t590 = true then (if 0 ≤ a1 then (if a1 < (l0.length : Int) then (if (rd l0 a1) < 128 then (some (wrap64 (rd l0 a1), wrap64 (a1 + 1), true)) else (if (wrap64 (a1 + 1)) ≥ (l0.length : Int) then (some (0, 0, false)) else (if 0 ≤ (wrap64 (a1 + 1)) then (if (wrap64 (a1 + 1)) < (l0.length : Int) then ((spec_PairSign.f k (wrap64 (rd l0 a1)) (wrap64 (rd l0 (wrap64 (a1 + 1))))).bind fun bt595 => (if bt595.2 = true then (some (bt595.1, wrap64 (a1 + 2), true)) else (some (0, 0, false)))) else (none)) else (none)))) else (none)) else (none)) else (some (0, 0, false)))) = some (r1, r2, r3) := h
  clear h
  replace H := Option.bind_eq_some_iff.mp H
  obtain ⟨t590, A30, H⟩ := H
  replace H : (if t590 = true then (if 0 ≤ a1 then (if a1 < (l0.length : Int) then (if (rd l0 a1) < 128 then (some (wrap64 (rd l0 a1), wrap64 (a1 + 1), true)) else (if (wrap64 (a1 + 1)) ≥ (l0.length : Int) then (some (0, 0, false)) else (if 0 ≤ (wrap64 (a1 + 1)) then (if (wrap64 (a1 + 1)) < (l0.length : Int) then ((spec_PairSign.f k (wrap64 (rd l0 a1)) (wrap64 (rd l0 (wrap64 (a1 + 1))))).bind fun bt595 => (if bt595.2 = true then (some (bt595.1, wrap64 (a1 + 2), true)) else (some (0, 0, false)))) else (none)) else (none)))) else (none)) else (none)) else (some (0, 0, false))) = some (r1, r2, r3) := H
  have A3 := Aside0.mk A30
  clear A30
  by_cases c4 : t590 = true
  · subst c4
    have H1 : (if 0 ≤ a1 then (if a1 < (l0.length : Int) then (if (rd l0 a1) < 128 then (some (wrap64 (rd l0 a1), wrap64 (a1 + 1), true)) else (if (wrap64 (a1 + 1)) ≥ (l0.length : Int) then (some (0, 0, false)) else (if 0 ≤ (wrap64 (a1 + 1)) then (if (wrap64 (a1 + 1)) < (l0.length : Int) then ((spec_PairSign.f k (wrap64 (rd l0 a1)) (wrap64 (rd l0 (wrap64 (a1 + 1))))).bind fun bt595 => (if bt595.2 = true then (some (bt595.1, wrap64 (a1 + 2), true)) else (some (0, 0, false)))) else (none)) else (none)))) else (none)) else (none)) = some (r1, r2, r3) := by rw [if_pos rfl] at H; exact H
    clear H
    have H := H1
    clear H1
    by_cases c5 : 0 ≤ a1
    · rw [if_pos c5] at H
      have c5b0 : decide (0 ≤ a1) = true := decide_eq_true c5
      clear c5
      by_cases c6 : a1 < (l0.length : Int)
      · rw [if_pos c6] at H
        have c6b0 : decide (a1 < (l0.length : Int)) = true := decide_eq_true c6
        clear c6
        by_cases c7 : (rd l0 a1) < 128
        · rw [if_pos c7] at H
          have c7b0 : decide ((rd l0 a1) < 128) = true := decide_eq_true c7
          clear c7
          simp only [Option.some.injEq, Prod.mk.injEq] at H
          obtain ⟨rfl, rfl, rfl⟩ := H
          go_enter Tryd.func104, Tryd.ntmps104
          go_wp2_with (first | (go_at_call 96; (with_reducible refine (spec_l1In.calls a1 0 (wrap64 ((l0.length : Int) - 1)) true _ A3.out).mono ?_); rintro e w' ⟨rfl, ⟨nd, rfl⟩⟩; (try first | exact ⟨rfl, _, World.drewN_drewN _ _ _⟩ | exact ⟨rfl, _, Eq.trans (World.drewN_drewN _ _ _) (congrArg (World.drewN _) (Nat.add_assoc _ _ _))⟩); have p591 : 0 ≤ (a1 : Int) := of_decide_eq_true as_; have q591 : a1 < (l0.length : Int) := of_decide_eq_true as_; obtain ⟨ad591, e591, hx591_0⟩ := Kd.at_int HR0.out a1 p591 q591; cases e591; replace p591 := eq_true p591; replace q591 := eq_true q591; have p592 : 0 ≤ (a1 : Int) := of_decide_eq_true as_; have q592 : a1 < (l0.length : Int) := of_decide_eq_true as_; obtain ⟨ad592, e592, hx592_0⟩ := Kd.at_int HR0.out a1 p592 q592; obtain rfl : ad591 = ad592 := (by injection e592); replace p592 := eq_true p592; replace q592 := eq_true q592))
          repeat (go_quiet (first | (go_at_call 96; (with_reducible refine (spec_l1In.calls a1 0 (wrap64 ((l0.length : Int) - 1)) true _ A3.out).mono ?_); rintro e w' ⟨rfl, ⟨nd, rfl⟩⟩; (try first | exact ⟨rfl, _, World.drewN_drewN _ _ _⟩ | exact ⟨rfl, _, Eq.trans (World.drewN_drewN _ _ _) (congrArg (World.drewN _) (Nat.add_assoc _ _ _))⟩); have p591 : 0 ≤ (a1 : Int) := of_decide_eq_true as_; have q591 : a1 < (l0.length : Int) := of_decide_eq_true as_; obtain ⟨ad591, e591, hx591_0⟩ := Kd.at_int HR0.out a1 p591 q591; cases e591; replace p591 := eq_true p591; replace q591 := eq_true q591; have p592 : 0 ≤ (a1 : Int) := of_decide_eq_true as_; have q592 : a1 < (l0.length : Int) := of_decide_eq_true as_; obtain ⟨ad592, e592, hx592_0⟩ := Kd.at_int HR0.out a1 p592 q592; obtain rfl : ad591 = ad592 := (by injection e592); replace p592 := eq_true p592; replace q592 := eq_true q592)); try go_wp2_with (first | (go_at_call 96; (with_reducible refine (spec_l1In.calls a1 0 (wrap64 ((l0.length : Int) - 1)) true _ A3.out).mono ?_); rintro e w' ⟨rfl, ⟨nd, rfl⟩⟩; (try first | exact ⟨rfl, _, World.drewN_drewN _ _ _⟩ | exact ⟨rfl, _, Eq.trans (World.drewN_drewN _ _ _) (congrArg (World.drewN _) (Nat.add_assoc _ _ _))⟩); have p591 : 0 ≤ (a1 : Int) := of_decide_eq_true as_; have q591 : a1 < (l0.length : Int) := of_decide_eq_true as_; obtain ⟨ad591, e591, hx591_0⟩ := Kd.at_int HR0.out a1 p591 q591; cases e591; replace p591 := eq_true p591; replace q591 := eq_true q591; have p592 : 0 ≤ (a1 : Int) := of_decide_eq_true as_; have q592 : a1 < (l0.length : Int) := of_decide_eq_true as_; obtain ⟨ad592, e592, hx592_0⟩ := Kd.at_int HR0.out a1 p592 q592; obtain rfl : ad591 = ad592 := (by injection e592); replace p592 := eq_true p592; replace q592 := eq_true q592)))
          go_ret3
          exact ⟨by first | rfl | (simp; done) | (simp [*]; done), by repeat (first | exact Drawn0.refl _ | apply Drawn0.step)⟩
        · rw [if_neg c7] at H
          have c7b0 : decide ((rd l0 a1) < 128) = false := decide_eq_false c7
          clear c7
          by_cases c8 : (wrap64 (a1 + 1)) ≥ (l0.length : Int)
          · rw [if_pos c8] at H
            have c8b0 : decide ((l0.length : Int) ≤ (wrap64 (a1 + 1))) = true := decide_eq_true c8
            clear c8
            simp only [Option.some.injEq, Prod.mk.injEq] at H
            obtain ⟨rfl, rfl, rfl⟩ := H
            go_enter Tryd.func104, Tryd.ntmps104
            go_wp2_with (first | (go_at_call 96; (with_reducible refine (spec_l1In.calls a1 0 (wrap64 ((l0.length : Int) - 1)) true _ A3.out).mono ?_); rintro e w' ⟨rfl, ⟨nd, rfl⟩⟩; (try first | exact ⟨rfl, _, World.drewN_drewN _ _ _⟩ | exact ⟨rfl, _, Eq.trans (World.drewN_drewN _ _ _) (congrArg (World.drewN _) (Nat.add_assoc _ _ _))⟩); have p591 : 0 ≤ (a1 : Int) := of_decide_eq_true as_; have q591 : a1 < (l0.length : Int) := of_decide_eq_true as_; obtain ⟨ad591, e591, hx591_0⟩ := Kd.at_int HR0.out a1 p591 q591; cases e591; replace p591 := eq_true p591; replace q591 := eq_true q591))
            repeat (go_quiet (first | (go_at_call 96; (with_reducible refine (spec_l1In.calls a1 0 (wrap64 ((l0.length : Int) - 1)) true _ A3.out).mono ?_); rintro e w' ⟨rfl, ⟨nd, rfl⟩⟩; (try first | exact ⟨rfl, _, World.drewN_drewN _ _ _⟩ | exact ⟨rfl, _, Eq.trans (World.drewN_drewN _ _ _) (congrArg (World.drewN _) (Nat.add_assoc _ _ _))⟩); have p591 : 0 ≤ (a1 : Int) := of_decide_eq_true as_; have q591 : a1 < (l0.length : Int) := of_decide_eq_true as_; obtain ⟨ad591, e591, hx591_0⟩ := Kd.at_int HR0.out a1 p591 q591; cases e591; replace p591 := eq_true p591; replace q591 := eq_true q591)); try go_wp2_with (first | (go_at_call 96; (with_reducible refine (spec_l1In.calls a1 0 (wrap64 ((l0.length : Int) - 1)) true _ A3.out).mono ?_); rintro e w' ⟨rfl, ⟨nd, rfl⟩⟩; (try first | exact ⟨rfl, _, World.drewN_drewN _ _ _⟩ | exact ⟨rfl, _, Eq.trans (World.drewN_drewN _ _ _) (congrArg (World.drewN _) (Nat.add_assoc _ _ _))⟩); have p591 : 0 ≤ (a1 : Int) := of_decide_eq_true as_; have q591 : a1 < (l0.length : Int) := of_decide_eq_true as_; obtain ⟨ad591, e591, hx591_0⟩ := Kd.at_int HR0.out a1 p591 q591; cases e591; replace p591 := eq_true p591; replace q591 := eq_true q591)))
            go_ret3
            exact ⟨by first | rfl | (simp; done) | (simp [*]; done), by repeat (first | exact Drawn0.refl _ | apply Drawn0.step)⟩
          · rw [if_neg c8] at H
            have c8b0 : decide ((l0.length : Int) ≤ (wrap64 (a1 + 1))) = false := decide_eq_false c8
            clear c8
            obtain ⟨ji9, hji9⟩ : ∃ j_ : Int, (wrap64 (a1 + 1)) = j_ := ⟨_, rfl⟩
            replace H : (if 0 ≤ (ji9) then (if (ji9) < (l0.length : Int) then ((spec_PairSign.f k (wrap64 (rd l0 a1)) (wrap64 (rd l0 (ji9)))).bind fun bt595 => (if bt595.2 = true then (some (bt595.1, wrap64 (a1 + 2), true)) else (some (0, 0, false)))) else (none)) else (none)) = some (r1, r2, r3) := by first | (rw [hji9] at H; exact H) | (simp only [hji9] at H ⊢; exact H)
            (try rw [hji9] at c8b0)
            (try rw [hji9] at A3)
            have hji9w : (IntKind.i64.wrap (a1 + 1)) = ji9 := (i64_w _).trans hji9
            by_cases c10 : 0 ≤ (ji9)
            · rw [if_pos c10] at H
              have c10b0 : decide (0 ≤ (ji9)) = true := decide_eq_true c10
              clear c10
              by_cases c11 : (ji9) < (l0.length : Int)
              · rw [if_pos c11] at H
                have c11b0 : decide ((ji9) < (l0.length : Int)) = true := decide_eq_true c11
                clear c11
                replace H := Option.bind_eq_some_iff.mp H
                obtain ⟨⟨t595, t596⟩, A120, H⟩ := H
                replace H : (if t596 = true then (some (t595, wrap64 (a1 + 2), true)) else (some (0, 0, false))) = some (r1, r2, r3) := H
                have A12 := Aside0.mk A120
                clear A120
                by_cases c13 : t596 = true
                · subst c13
                  have H1 : (some (t595, wrap64 (a1 + 2), true)) = some (r1, r2, r3) := by rw [if_pos rfl] at H; exact H
                  clear H
                  have H := H1
                  clear H1
                  simp only [Option.some.injEq, Prod.mk.injEq] at H
                  obtain ⟨rfl, rfl, rfl⟩ := H
                  go_enter Tryd.func104, Tryd.ntmps104
                  go_wp2_with (first | (go_at_call 96; (with_reducible refine (spec_l1In.calls a1 0 (wrap64 ((l0.length : Int) - 1)) true _ A3.out).mono ?_); rintro e w' ⟨rfl, ⟨nd, rfl⟩⟩; (try first | exact ⟨rfl, _, World.drewN_drewN _ _ _⟩ | exact ⟨rfl, _, Eq.trans (World.drewN_drewN _ _ _) (congrArg (World.drewN _) (Nat.add_assoc _ _ _))⟩); have p591 : 0 ≤ (a1 : Int) := of_decide_eq_true as_; have q591 : a1 < (l0.length : Int) := of_decide_eq_true as_; obtain ⟨ad591, e591, hx591_0⟩ := Kd.at_int HR0.out a1 p591 q591; cases e591; replace p591 := eq_true p591; replace q591 := eq_true q591; have p593 : 0 ≤ (a1 : Int) := of_decide_eq_true as_; have q593 : a1 < (l0.length : Int) := of_decide_eq_true as_; obtain ⟨ad593, e593, hx593_0⟩ := Kd.at_int HR0.out a1 p593 q593; obtain rfl : ad591 = ad593 := (by injection e593); replace p593 := eq_true p593; replace q593 := eq_true q593; have p594 : 0 ≤ ((ji9) : Int) := of_decide_eq_true as_; have q594 : (ji9) < (l0.length : Int) := of_decide_eq_true as_; obtain ⟨ad594, e594, hx594_0⟩ := Kd.at_int HR0.out (ji9) p594 q594; obtain rfl : ad591 = ad594 := (by injection e594); replace p594 := eq_true p594; replace q594 := eq_true q594) | (go_at_call 123; (with_reducible refine (spec_PairSign.calls k (wrap64 (rd l0 a1)) (wrap64 (rd l0 (ji9))) t595 true _ A12.out).mono ?_); rintro e w' ⟨rfl, ⟨nd, rfl⟩⟩; (try first | exact ⟨rfl, _, World.drewN_drewN _ _ _⟩ | exact ⟨rfl, _, Eq.trans (World.drewN_drewN _ _ _) (congrArg (World.drewN _) (Nat.add_assoc _ _ _))⟩)))
                  repeat (go_quiet (first | (go_at_call 96; (with_reducible refine (spec_l1In.calls a1 0 (wrap64 ((l0.length : Int) - 1)) true _ A3.out).mono ?_); rintro e w' ⟨rfl, ⟨nd, rfl⟩⟩; (try first | exact ⟨rfl, _, World.drewN_drewN _ _ _⟩ | exact ⟨rfl, _, Eq.trans (World.drewN_drewN _ _ _) (congrArg (World.drewN _) (Nat.add_assoc _ _ _))⟩); have p591 : 0 ≤ (a1 : Int) := of_decide_eq_true as_; have q591 : a1 < (l0.length : Int) := of_decide_eq_true as_; obtain ⟨ad591, e591, hx591_0⟩ := Kd.at_int HR0.out a1 p591 q591; cases e591; replace p591 := eq_true p591; replace q591 := eq_true q591; have p593 : 0 ≤ (a1 : Int) := of_decide_eq_true as_; have q593 : a1 < (l0.length : Int) := of_decide_eq_true as_; obtain ⟨ad593, e593, hx593_0⟩ := Kd.at_int HR0.out a1 p593 q593; obtain rfl : ad591 = ad593 := (by injection e593); replace p593 := eq_true p593; replace q593 := eq_true q593; have p594 : 0 ≤ ((ji9) : Int) := of_decide_eq_true as_; have q594 : (ji9) < (l0.length : Int) := of_decide_eq_true as_; obtain ⟨ad594, e594, hx594_0⟩ := Kd.at_int HR0.out (ji9) p594 q594; obtain rfl : ad591 = ad594 := (by injection e594); replace p594 := eq_true p594; replace q594 := eq_true q594) | (go_at_call 123; (with_reducible refine (spec_PairSign.calls k (wrap64 (rd l0 a1)) (wrap64 (rd l0 (ji9))) t595 true _ A12.out).mono ?_); rintro e w' ⟨rfl, ⟨nd, rfl⟩⟩; (try first | exact ⟨rfl, _, World.drewN_drewN _ _ _⟩ | exact ⟨rfl, _, Eq.trans (World.drewN_drewN _ _ _) (congrArg (World.drewN _) (Nat.add_assoc _ _ _))⟩))); try go_wp2_with (first | (go_at_call 96; (with_reducible refine (spec_l1In.calls a1 0 (wrap64 ((l0.length : Int) - 1)) true _ A3.out).mono ?_); rintro e w' ⟨rfl, ⟨nd, rfl⟩⟩; (try first | exact ⟨rfl, _, World.drewN_drewN _ _ _⟩ | exact ⟨rfl, _, Eq.trans (World.drewN_drewN _ _ _) (congrArg (World.drewN _) (Nat.add_assoc _ _ _))⟩); have p591 : 0 ≤ (a1 : Int) := of_decide_eq_true as_; have q591 : a1 < (l0.length : Int) := of_decide_eq_true as_; obtain ⟨ad591, e591, hx591_0⟩ := Kd.at_int HR0.out a1 p591 q591; cases e591; replace p591 := eq_true p591; replace q591 := eq_true q591; have p593 : 0 ≤ (a1 : Int) := of_decide_eq_true as_; have q593 : a1 < (l0.length : Int) := of_decide_eq_true as_; obtain ⟨ad593, e593, hx593_0⟩ := Kd.at_int HR0.out a1 p593 q593; obtain rfl : ad591 = ad593 := (by injection e593); replace p593 := eq_true p593; replace q593 := eq_true q593; have p594 : 0 ≤ ((ji9) : Int) := of_decide_eq_true as_; have q594 : (ji9) < (l0.length : Int) := of_decide_eq_true as_; obtain ⟨ad594, e594, hx594_0⟩ := Kd.at_int HR0.out (ji9) p594 q594; obtain rfl : ad591 = ad594 := (by injection e594); replace p594 := eq_true p594; replace q594 := eq_true q594) | (go_at_call 123; (with_reducible refine (spec_PairSign.calls k (wrap64 (rd l0 a1)) (wrap64 (rd l0 (ji9))) t595 true _ A12.out).mono ?_); rintro e w' ⟨rfl, ⟨nd, rfl⟩⟩; (try first | exact ⟨rfl, _, World.drewN_drewN _ _ _⟩ | exact ⟨rfl, _, Eq.trans (World.drewN_drewN _ _ _) (congrArg (World.drewN _) (Nat.add_assoc _ _ _))⟩))))
                  go_ret3
                  exact ⟨by first | rfl | (simp; done) | (simp only [← hji9] <;> (first | rfl | simp)) | (simp [*]; done), by repeat (first | exact Drawn0.refl _ | apply Drawn0.step)⟩
                · replace c13 := Bool.eq_false_iff.mpr c13
                  subst c13
                  have H1 : (some (0, 0, false)) = some (r1, r2, r3) := by rw [if_neg (show ¬ (false = true) by decide)] at H; exact H
                  clear H
                  have H := H1
                  clear H1
                  simp only [Option.some.injEq, Prod.mk.injEq] at H
                  obtain ⟨rfl, rfl, rfl⟩ := H
                  go_enter Tryd.func104, Tryd.ntmps104
                  go_wp2_with (first | (go_at_call 96; (with_reducible refine (spec_l1In.calls a1 0 (wrap64 ((l0.length : Int) - 1)) true _ A3.out).mono ?_); rintro e w' ⟨rfl, ⟨nd, rfl⟩⟩; (try first | exact ⟨rfl, _, World.drewN_drewN _ _ _⟩ | exact ⟨rfl, _, Eq.trans (World.drewN_drewN _ _ _) (congrArg (World.drewN _) (Nat.add_assoc _ _ _))⟩); have p591 : 0 ≤ (a1 : Int) := of_decide_eq_true as_; have q591 : a1 < (l0.length : Int) := of_decide_eq_true as_; obtain ⟨ad591, e591, hx591_0⟩ := Kd.at_int HR0.out a1 p591 q591; cases e591; replace p591 := eq_true p591; replace q591 := eq_true q591; have p593 : 0 ≤ (a1 : Int) := of_decide_eq_true as_; have q593 : a1 < (l0.length : Int) := of_decide_eq_true as_; obtain ⟨ad593, e593, hx593_0⟩ := Kd.at_int HR0.out a1 p593 q593; obtain rfl : ad591 = ad593 := (by injection e593); replace p593 := eq_true p593; replace q593 := eq_true q593; have p594 : 0 ≤ ((ji9) : Int) := of_decide_eq_true as_; have q594 : (ji9) < (l0.length : Int) := of_decide_eq_true as_; obtain ⟨ad594, e594, hx594_0⟩ := Kd.at_int HR0.out (ji9) p594 q594; obtain rfl : ad591 = ad594 := (by injection e594); replace p594 := eq_true p594; replace q594 := eq_true q594) | (go_at_call 123; (with_reducible refine (spec_PairSign.calls k (wrap64 (rd l0 a1)) (wrap64 (rd l0 (ji9))) t595 false _ A12.out).mono ?_); rintro e w' ⟨rfl, ⟨nd, rfl⟩⟩; (try first | exact ⟨rfl, _, World.drewN_drewN _ _ _⟩ | exact ⟨rfl, _, Eq.trans (World.drewN_drewN _ _ _) (congrArg (World.drewN _) (Nat.add_assoc _ _ _))⟩)))
                  repeat (go_quiet (first | (go_at_call 96; (with_reducible refine (spec_l1In.calls a1 0 (wrap64 ((l0.length : Int) - 1)) true _ A3.out).mono ?_); rintro e w' ⟨rfl, ⟨nd, rfl⟩⟩; (try first | exact ⟨rfl, _, World.drewN_drewN _ _ _⟩ | exact ⟨rfl, _, Eq.trans (World.drewN_drewN _ _ _) (congrArg (World.drewN _) (Nat.add_assoc _ _ _))⟩); have p591 : 0 ≤ (a1 : Int) := of_decide_eq_true as_; have q591 : a1 < (l0.length : Int) := of_decide_eq_true as_; obtain ⟨ad591, e591, hx591_0⟩ := Kd.at_int HR0.out a1 p591 q591; cases e591; replace p591 := eq_true p591; replace q591 := eq_true q591; have p593 : 0 ≤ (a1 : Int) := of_decide_eq_true as_; have q593 : a1 < (l0.length : Int) := of_decide_eq_true as_; obtain ⟨ad593, e593, hx593_0⟩ := Kd.at_int HR0.out a1 p593 q593; obtain rfl : ad591 = ad593 := (by injection e593); replace p593 := eq_true p593; replace q593 := eq_true q593; have p594 : 0 ≤ ((ji9) : Int) := of_decide_eq_true as_; have q594 : (ji9) < (l0.length : Int) := of_decide_eq_true as_; obtain ⟨ad594, e594, hx594_0⟩ := Kd.at_int HR0.out (ji9) p594 q594; obtain rfl : ad591 = ad594 := (by injection e594); replace p594 := eq_true p594; replace q594 := eq_true q594) | (go_at_call 123; (with_reducible refine (spec_PairSign.calls k (wrap64 (rd l0 a1)) (wrap64 (rd l0 (ji9))) t595 false _ A12.out).mono ?_); rintro e w' ⟨rfl, ⟨nd, rfl⟩⟩; (try first | exact ⟨rfl, _, World.drewN_drewN _ _ _⟩ | exact ⟨rfl, _, Eq.trans (World.drewN_drewN _ _ _) (congrArg (World.drewN _) (Nat.add_assoc _ _ _))⟩))); try go_wp2_with (first | (go_at_call 96; (with_reducible refine (spec_l1In.calls a1 0 (wrap64 ((l0.length : Int) - 1)) true _ A3.out).mono ?_); rintro e w' ⟨rfl, ⟨nd, rfl⟩⟩; (try first | exact ⟨rfl, _, World.drewN_drewN _ _ _⟩ | exact ⟨rfl, _, Eq.trans (World.drewN_drewN _ _ _) (congrArg (World.drewN _) (Nat.add_assoc _ _ _))⟩); have p591 : 0 ≤ (a1 : Int) := of_decide_eq_true as_; have q591 : a1 < (l0.length : Int) := of_decide_eq_true as_; obtain ⟨ad591, e591, hx591_0⟩ := Kd.at_int HR0.out a1 p591 q591; cases e591; replace p591 := eq_true p591; replace q591 := eq_true q591; have p593 : 0 ≤ (a1 : Int) := of_decide_eq_true as_; have q593 : a1 < (l0.length : Int) := of_decide_eq_true as_; obtain ⟨ad593, e593, hx593_0⟩ := Kd.at_int HR0.out a1 p593 q593; obtain rfl : ad591 = ad593 := (by injection e593); replace p593 := eq_true p593; replace q593 := eq_true q593; have p594 : 0 ≤ ((ji9) : Int) := of_decide_eq_true as_; have q594 : (ji9) < (l0.length : Int) := of_decide_eq_true as_; obtain ⟨ad594, e594, hx594_0⟩ := Kd.at_int HR0.out (ji9) p594 q594; obtain rfl : ad591 = ad594 := (by injection e594); replace p594 := eq_true p594; replace q594 := eq_true q594) | (go_at_call 123; (with_reducible refine (spec_PairSign.calls k (wrap64 (rd l0 a1)) (wrap64 (rd l0 (ji9))) t595 false _ A12.out).mono ?_); rintro e w' ⟨rfl, ⟨nd, rfl⟩⟩; (try first | exact ⟨rfl, _, World.drewN_drewN _ _ _⟩ | exact ⟨rfl, _, Eq.trans (World.drewN_drewN _ _ _) (congrArg (World.drewN _) (Nat.add_assoc _ _ _))⟩))))
                  go_ret3
                  exact ⟨by first | rfl | (simp; done) | (simp only [← hji9] <;> (first | rfl | simp)) | (simp [*]; done), by repeat (first | exact Drawn0.refl _ | apply Drawn0.step)⟩
              · rw [if_neg c11] at H
                exact absurd H (by simp)
            · rw [if_neg c10] at H
              exact absurd H (by simp)
      · rw [if_neg c6] at H
        exact absurd H (by simp)
    · rw [if_neg c5] at H
      exact absurd H (by simp)
  · replace c4 := Bool.eq_false_iff.mpr c4
    subst c4
    have H1 : (some (0, 0, false)) = some (r1, r2, r3) := by rw [if_neg (show ¬ (false = true) by decide)] at H; exact H
    clear H
    have H := H1
    clear H1
    simp only [Option.some.injEq, Prod.mk.injEq] at H
    obtain ⟨rfl, rfl, rfl⟩ := H
    go_enter Tryd.func104, Tryd.ntmps104
    go_wp2_with (first | (go_at_call 96; (with_reducible refine (spec_l1In.calls a1 0 (wrap64 ((l0.length : Int) - 1)) false _ A3.out).mono ?_); rintro e w' ⟨rfl, ⟨nd, rfl⟩⟩; (try first | exact ⟨rfl, _, World.drewN_drewN _ _ _⟩ | exact ⟨rfl, _, Eq.trans (World.drewN_drewN _ _ _) (congrArg (World.drewN _) (Nat.add_assoc _ _ _))⟩)))
    repeat (go_quiet (first | (go_at_call 96; (with_reducible refine (spec_l1In.calls a1 0 (wrap64 ((l0.length : Int) - 1)) false _ A3.out).mono ?_); rintro e w' ⟨rfl, ⟨nd, rfl⟩⟩; (try first | exact ⟨rfl, _, World.drewN_drewN _ _ _⟩ | exact ⟨rfl, _, Eq.trans (World.drewN_drewN _ _ _) (congrArg (World.drewN _) (Nat.add_assoc _ _ _))⟩))); try go_wp2_with (first | (go_at_call 96; (with_reducible refine (spec_l1In.calls a1 0 (wrap64 ((l0.length : Int) - 1)) false _ A3.out).mono ?_); rintro e w' ⟨rfl, ⟨nd, rfl⟩⟩; (try first | exact ⟨rfl, _, World.drewN_drewN _ _ _⟩ | exact ⟨rfl, _, Eq.trans (World.drewN_drewN _ _ _) (congrArg (World.drewN _) (Nat.add_assoc _ _ _))⟩))))
    go_ret3
    exact ⟨by first | rfl | (simp; done) | (simp [*]; done), by repeat (first | exact Drawn0.refl _ | apply Drawn0.step)⟩

/-! ### spec_l5Get: function 78 -/
def spec_l5Get.f (k : Nat) (a0 : Int) (l1 : List Int) (a2 : Int) : Option (Int × Int × Bool) := if a0 = 0 then ((spec_GetSign.f k l1 a2).bind fun bt597 => (some (bt597.1, bt597.2.1, bt597.2.2))) else (if a0 = 5 then ((spec_EucSign.f k l1 a2).bind fun bt600 => (some (bt600.1, bt600.2.1, bt600.2.2))) else (if 0 ≤ a2 then (if a2 < (l1.length : Int) then ((spec_ByteSign.f k a0 (wrap64 (rd l1 a2))).bind fun bt604 => (some (bt604.1, wrap64 (a2 + 1), bt604.2))) else (none)) else (none)))
theorem spec_l5Get.mono : ∀ a0 a1 a2 k, LeO (spec_l5Get.f k a0 a1 a2) (spec_l5Get.f (k + 1) a0 a1 a2) := by
  intro a0 a1 a2 k
  unfold spec_l5Get.f
  repeat' first
      | (with_reducible exact spec_ByteSign.mono _ _ _)
      | (with_reducible exact spec_EucSign.mono _ _ _)
      | (with_reducible exact spec_GetSign.mono _ _ _)
      | (with_reducible exact LeO.refl _)
      | (with_reducible exact LeO.none _)
      | (with_reducible refine LeO.ite ?_ ?_)
      | (with_reducible refine LeO.bind ?_ (fun _ => ?_))
      | exact spec_ByteSign.mono _ _ _
      | exact spec_EucSign.mono _ _ _
      | exact spec_GetSign.mono _ _ _
      | exact LeO.none _
      | refine LeO.ite ?_ ?_
      | refine LeO.bind ?_ (fun _ => ?_)
set_option maxHeartbeats 8000000 in
set_option maxRecDepth 100000 in
theorem spec_l5Get.calls (k : Nat) (a0 : Int) (A1 : Option Addr) (c1 : Nat) (l1 : List Int) (a2 : Int) (r1 : Int) (r2 : Int) (r3 : Bool) (w : World) (hr1 : Kd.C (Kd.int .u8) w A1 l1.length l1) (hc1 : l1.length ≤ c1) (h : spec_l5Get.f k a0 l1 a2 = some (r1, r2, r3)) :
    Calls Tryd.prog 78 #[.int .i64 a0, .slice A1 l1.length c1, .int .i64 a2] w fun e w' => e = .returned (.tuple #[.int .i64 r1, .int .i64 r2, .bool r3]) ∧ Below w.heap.size w w' := by
  have HR1 := Aside0.mk hr1
  have HC1 := Aside0.mk hc1
  clear hr1 hc1
  have HB := Aside0.mk (Below.refl w.heap.size w)
  have H : (if a0 = 0 then ((spec_GetSign.f k l1 a2).bind fun bt597 => (some (bt597.1, bt597.2.1, bt597.2.2))) else (if a0 = 5 then ((spec_EucSign.f k l1 a2).bind fun bt600 => (some (bt600.1, bt600.2.1, bt600.2.2))) else (if 0 ≤ a2 then (if a2 < (l1.length : Int) then ((spec_ByteSign.f k a0 (wrap64 (rd l1 a2))).bind fun bt604 => (some (bt604.1, wrap64 (a2 + 1), bt604.2))) else (none)) else (none)))) = some (r1, r2, r3) := h
  clear h
  by_cases c4 : a0 = 0
  · rw [if_pos c4] at H
    have c4b0 : (a0 == 0) = true := beq_iff_eq.mpr c4
    have c4b1 : (a0 != 0) = false := bne_eq_false_iff_eq.mpr c4
    clear c4
    replace H := Option.bind_eq_some_iff.mp H
    obtain ⟨⟨t597, t598, t599⟩, A50, H⟩ := H
    replace H : (some (t597, t598, t599)) = some (r1, r2, r3) := H
    have A5 := Aside0.mk A50
    clear A50
    simp only [Option.some.injEq, Prod.mk.injEq] at H
    obtain ⟨rfl, rfl, rfl⟩ := H
    go_enter Tryd.func78, Tryd.ntmps78
    go_wp2_with (first | ((with_reducible refine gate_callee (f := 98) rfl ?_); refine goesL_ (some 16) rfl rfl Tryd.func98 (by kernel_rfl) rfl #[.slice A1 l1.length c1, .int .i64 a2] rfl ka_ ?_; (with_reducible refine (spec_GetSign.calls k _ _ l1 a2 t597 t598 t599 _ ?side1 ?side2 A5.out).mono ?_); (case side1 => repeat (first | exact HR1.out | (with_reducible refine Kd.C_alloc ?_ _) | (with_reducible refine Kd.C_drewN ?_ _) | (with_reducible refine Kd.C_drew ?_))); (case side2 => exact HC1.out); rintro e w6 ⟨rfl, hb⟩; refine ⟨_, rfl, ?_⟩; have n0_ := Aside0.mk (below_step hb_ hb); clear HB; have HB := n0_; clear n0_; (try clear hb); (try clear hb2); (try clear hk); (try clear hi)))
    go_ret3
    exact ⟨rf_, hb_⟩
  · rw [if_neg c4] at H
    have c4b0 : (a0 == 0) = false := beq_eq_false_iff_ne.mpr c4
    have c4b1 : (a0 != 0) = true := bne_iff_ne.mpr c4
    by_cases c7 : a0 = 5
    · rw [if_pos c7] at H
      have c7b0 : (a0 == 5) = true := beq_iff_eq.mpr c7
      have c7b1 : (a0 != 5) = false := bne_eq_false_iff_eq.mpr c7
      clear c7
      replace H := Option.bind_eq_some_iff.mp H
      obtain ⟨⟨t600, t601, t602⟩, A80, H⟩ := H
      replace H : (some (t600, t601, t602)) = some (r1, r2, r3) := H
      have A8 := Aside0.mk A80
      clear A80
      simp only [Option.some.injEq, Prod.mk.injEq] at H
      obtain ⟨rfl, rfl, rfl⟩ := H
      go_enter Tryd.func78, Tryd.ntmps78
      go_wp2_with (first | ((with_reducible refine gate_callee (f := 104) rfl ?_); refine goesL_ (some 24) rfl rfl Tryd.func104 (by kernel_rfl) rfl #[.slice A1 l1.length c1, .int .i64 a2] rfl ka_ ?_; (with_reducible refine (spec_EucSign.calls k _ _ l1 a2 t600 t601 t602 _ ?side1 ?side2 A8.out).mono ?_); (case side1 => repeat (first | exact HR1.out | (with_reducible refine Kd.C_alloc ?_ _) | (with_reducible refine Kd.C_drewN ?_ _) | (with_reducible refine Kd.C_drew ?_))); (case side2 => exact HC1.out); rintro e w' ⟨rfl, ⟨nd, rfl⟩⟩; refine ⟨_, rfl, ?_⟩))
      go_ret3
      exact ⟨rf_, hb_⟩
    · rw [if_neg c7] at H
      have c7b0 : (a0 == 5) = false := beq_eq_false_iff_ne.mpr c7
      have c7b1 : (a0 != 5) = true := bne_iff_ne.mpr c7
      by_cases c9 : 0 ≤ a2
      · rw [if_pos c9] at H
        have c9b0 : decide (0 ≤ a2) = true := decide_eq_true c9
        clear c9
        by_cases c10 : a2 < (l1.length : Int)
        · rw [if_pos c10] at H
          have c10b0 : decide (a2 < (l1.length : Int)) = true := decide_eq_true c10
          clear c10
          replace H := Option.bind_eq_some_iff.mp H
          obtain ⟨⟨t604, t605⟩, A110, H⟩ := H
          replace H : (some (t604, wrap64 (a2 + 1), t605)) = some (r1, r2, r3) := H
          have A11 := Aside0.mk A110
          clear A110
          simp only [Option.some.injEq, Prod.mk.injEq] at H
          obtain ⟨rfl, rfl, rfl⟩ := H
          have p603 : 0 ≤ (a2 : Int) := of_decide_eq_true as_
          have q603 : a2 < (l1.length : Int) := of_decide_eq_true as_
          obtain ⟨ad603, e603, hx603_0⟩ := Kd.at_int HR1.out a2 p603 q603
          cases e603
          replace p603 := eq_true p603
          replace q603 := eq_true q603
          go_enter Tryd.func78, Tryd.ntmps78
          go_wp2_with (first | ((with_reducible refine gate_callee (f := 105) rfl ?_); refine goesL_ (some 35) rfl rfl Tryd.func105 (by kernel_rfl) rfl #[.int .i64 a0, .int .i64 (wrap64 (rd l1 a2))] rfl ka_ ?_; (with_reducible refine (spec_ByteSign.calls k a0 (wrap64 (rd l1 a2)) t604 t605 _ A11.out).mono ?_); rintro e w12 ⟨rfl, hb⟩; refine ⟨_, rfl, ?_⟩; have n0_ := Aside0.mk (below_step hb_ hb); clear HB; have HB := n0_; clear n0_; (try clear hb); (try clear hb2); (try clear hk); (try clear hi)))
          go_ret3
          exact ⟨rf_, hb_⟩
        · rw [if_neg c10] at H
          exact absurd H (by simp)
      · rw [if_neg c9] at H
        exact absurd H (by simp)

/-! ### spec_Decode: function 58 -/
def spec_Decode.l0 : Nat → Int → List Int → List Int → Int → Option (ByteArray × Bool)
  | 0, _, _, _, _ => none
  | k + 1, x0, x1, x6, x7 => if x7 < (x1.length : Int) then ((spec_l5Get.f k x0 x1 x7).bind fun bt610 => (if bt610.2.2 = true then ((spec_PutSign.f x6 bt610.1).bind fun t613 => (spec_Decode.l0 k x0 x1 t613 bt610.2.1)) else (some ((⟨#[]⟩ : ByteArray), false)))) else (some (strOfNums x6, true))
def spec_Decode.f (k : Nat) (a0 : Int) (l1 : List Int) : Option (ByteArray × Bool) := (spec_l5Cs.f a0).bind fun t609 => (if t609 = true then (spec_Decode.l0 k a0 l1 (([] : List Int)) 0) else (some ((⟨#[]⟩ : ByteArray), false)))
theorem spec_Decode.mono_l : ∀ k, (∀ y0 y1 y2 y3, LeO (spec_Decode.l0 k y0 y1 y2 y3) (spec_Decode.l0 (k + 1) y0 y1 y2 y3))
  | 0 => fun _ _ _ _ r h => by simp [spec_Decode.l0] at h
  | k + 1 => by
    have ih0 := spec_Decode.mono_l k
    · intro y0 y1 y2 y3
      unfold spec_Decode.l0
      repeat' first
      | (with_reducible exact ih0 _ _ _ _)
      | (with_reducible exact spec_l5Get.mono _ _ _ _)
      | (with_reducible exact LeO.refl _)
      | (with_reducible exact LeO.none _)
      | (with_reducible refine LeO.ite ?_ ?_)
      | (with_reducible refine LeO.bind ?_ (fun _ => ?_))
      | exact ih0 _ _ _ _
      | exact spec_l5Get.mono _ _ _ _
      | exact LeO.none _
      | refine LeO.ite ?_ ?_
      | refine LeO.bind ?_ (fun _ => ?_)
theorem spec_Decode.mono : ∀ a0 a1 k, LeO (spec_Decode.f k a0 a1) (spec_Decode.f (k + 1) a0 a1) := by
  intro a0 a1 k
  have ih0 := spec_Decode.mono_l k
  unfold spec_Decode.f
  repeat' first
      | (with_reducible exact ih0 _ _ _ _)
      | (with_reducible exact spec_l5Get.mono _ _ _ _)
      | (with_reducible exact LeO.refl _)
      | (with_reducible exact LeO.none _)
      | (with_reducible refine LeO.ite ?_ ?_)
      | (with_reducible refine LeO.bind ?_ (fun _ => ?_))
      | exact ih0 _ _ _ _
      | exact spec_l5Get.mono _ _ _ _
      | exact LeO.none _
      | refine LeO.ite ?_ ?_
      | refine LeO.bind ?_ (fun _ => ?_)
set_option maxHeartbeats 8000000 in
set_option maxRecDepth 100000 in
theorem spec_Decode.calls (k : Nat) (a0 : Int) (A1 : Option Addr) (c1 : Nat) (l1 : List Int) (r1 : ByteArray) (r2 : Bool) (w : World) (hr1 : Kd.C (Kd.int .u8) w A1 l1.length l1) (hc1 : l1.length ≤ c1) (h : spec_Decode.f k a0 l1 = some (r1, r2)) :
    Calls Tryd.prog 58 #[.int .i64 a0, .slice A1 l1.length c1] w fun e w' => e = .returned (.tuple #[.string r1, .bool r2]) ∧ Below w.heap.size w w' := by
  have HR1 := Aside0.mk hr1
  have HC1 := Aside0.mk hc1
  clear hr1 hc1
  have HB := Aside0.mk (Below.refl w.heap.size w)
  have H : ((spec_l5Cs.f a0).bind fun t609 => (if t609 = true then (spec_Decode.l0 k a0 l1 (([] : List Int)) 0) else (some ((⟨#[]⟩ : ByteArray), false)))) = some (r1, r2) := h
  clear h
  obtain ⟨y606, hy606⟩ : ∃ y_ : List Int, y_ = (([] : List Int)) := ⟨_, rfl⟩
  replace H : ((spec_l5Cs.f a0).bind fun t609 => (if t609 = true then (spec_Decode.l0 k a0 l1 y606 0) else (some ((⟨#[]⟩ : ByteArray), false)))) = some (r1, r2) := by first | (rw [hy606]; with_reducible exact H) | (have H2_ := (Option.bind_some _ _).symm.trans H; rw [hy606]; with_reducible exact H2_) | (have H2_ := (Option.bind_some _ _).symm.trans H; with_reducible exact H2_) | with_reducible exact H | (rw [hy606]; exact H) | exact H
  have Ny606 := Aside0.mk hy606
  clear hy606
  replace H := Option.bind_eq_some_iff.mp H
  obtain ⟨t609, A30, H⟩ := H
  replace H : (if t609 = true then (spec_Decode.l0 k a0 l1 y606 0) else (some ((⟨#[]⟩ : ByteArray), false))) = some (r1, r2) := H
  have A3 := Aside0.mk A30
  clear A30
  by_cases c4 : t609 = true
  · subst c4
    have H1 : (spec_Decode.l0 k a0 l1 y606 0) = some (r1, r2) := by rw [if_pos rfl] at H; exact H
    clear H
    have H := H1
    clear H1
    have H' := Aside0.mk H
    clear H
    go_enter Tryd.func58, Tryd.ntmps58
    go_wp2_with (first | ((with_reducible refine gate_dst (N := 11) rfl ?_); refine Kd.R_lit (Kd.int .u8) _ 5 ?hg (N := 11) ?hd (xs := ([] : List Int)) (inner := []) (ok := fun _ => True) (okp := fun _ => True) ?hr ?hp (fun _ hk => hk) trivial (Below.refl _ _) (Nat.le_refl _) (by simp) ?_; (case hd => rfl); (case hg => rfl); (case hr => first | (go_simp; done) | (go_simp; rfl)); (case hp => exact (Reps.none _ _)); intro v607 w5 ho6 hb hg_ hnew_; clear hg_ hnew_; (first | rw [← Ny606.out] at ho6 | (simp only [Int.reduceToNat] at ho6; rw [← Ny606.out] at ho6)); have n0_ := Aside0.mk (Kd.R_lower ho6 (below_size hb_)); have n1_ := Aside0.mk (below_step hb_ hb); clear HB; have HO608 := n0_; have HB := n1_; clear n0_ n1_; clear hb ho6) | ((with_reducible refine gate_callee (f := 70) rfl ?_); refine goesL_ (some 13) rfl rfl Tryd.func70 (by kernel_rfl) rfl #[.int .i64 a0] rfl ka_ ?_; (with_reducible refine (spec_l5Cs.calls a0 true _ A3.out).mono ?_); rintro e w' ⟨rfl, ⟨nd, rfl⟩⟩; refine ⟨_, rfl, ?_⟩))
    go_loopg [6, 7] k (fun kq v6 v7 w' => ∃ (x6_1 : List Int) (x7_1 : Int), v7 = .int .i64 x7_1 ∧ Aside0 (spec_Decode.l0 kq a0 l1 x6_1 x7_1 = some (r1, r2)) ∧ Aside0 (kq ≤ k) ∧ Aside0 (Kd.R (Kd.int .u8) 5 w' w.heap.size (fun _ => True) v6 x6_1) ∧ Aside0 (Below w.heap.size w w'))
    case atStart => exact ⟨(y606), (0), (by first | rfl | (simp; done) | (simp [*]; done)), H', ⟨Nat.le_refl _⟩, ⟨by (with_reducible repeat (first | apply Kd.R_alloc | apply Kd.R_drewN | apply Kd.R_drew)); exact HO608.out⟩, ⟨by repeat (first | (with_reducible first | exact HB.out | apply below_alloc | apply pw_below_drewN | apply below_drew1) | exact HB.out)⟩⟩
    case round =>
      clear H'
      try clear c1
      try clear p2
      try clear c4
      try clear c5
      obtain ⟨x6_1, x7_1, rfl, HA, HK1, HO_6, HB⟩ := hrel
      cases gk with
      | zero => exact absurd HA.out (by simp [spec_Decode.l0])
      | succ k1 =>
        have H := HA.out
        clear HA
        simp only [spec_Decode.l0] at H
        by_cases c7 : x7_1 < (l1.length : Int)
        · rw [if_pos c7] at H
          have c7b0 : decide (x7_1 < (l1.length : Int)) = true := decide_eq_true c7
          clear c7
          replace H := Option.bind_eq_some_iff.mp H
          obtain ⟨⟨t610, t611, t612⟩, A80, H⟩ := H
          replace H : (if t612 = true then ((spec_PutSign.f x6_1 t610).bind fun t613 => (spec_Decode.l0 k1 a0 l1 t613 t611)) else (some ((⟨#[]⟩ : ByteArray), false))) = some (r1, r2) := H
          have A8 := Aside0.mk A80
          clear A80
          by_cases c9 : t612 = true
          · subst c9
            have H1 : ((spec_PutSign.f x6_1 t610).bind fun t613 => (spec_Decode.l0 k1 a0 l1 t613 t611)) = some (r1, r2) := by rw [if_pos rfl] at H; exact H
            clear H
            have H := H1
            clear H1
            replace H := Option.bind_eq_some_iff.mp H
            obtain ⟨t613, A100, H⟩ := H
            replace H : (spec_Decode.l0 k1 a0 l1 t613 t611) = some (r1, r2) := H
            have A10 := Aside0.mk A100
            clear A100
            have H' := Aside0.mk H
            clear H
            go_wp2_with (first | ((with_reducible refine gate_callee (f := 78) rfl ?_); refine goesL_ (some 23) rfl rfl Tryd.func78 (by kernel_rfl) rfl #[.int .i64 a0, .slice A1 l1.length c1, .int .i64 x7_1] rfl ka_ ?_; (with_reducible refine (spec_l5Get.calls k1 a0 _ _ l1 x7_1 t610 t611 true _ ?side1 ?side2 A8.out).mono ?_); (case side1 => repeat (first | exact (Kd.C_below HR1.out HB.out) | (with_reducible refine Kd.C_alloc ?_ _) | (with_reducible refine Kd.C_drewN ?_ _) | (with_reducible refine Kd.C_drew ?_))); (case side2 => exact HC1.out); rintro e w11 ⟨rfl, hb⟩; refine ⟨_, rfl, ?_⟩; have n0_ := Aside0.mk (Kd.R_below (kr_ HO_6) hb); have n1_ := Aside0.mk (below_step hb_ hb); clear HO_6; clear HB; have HO_6 := n0_; have HB := n1_; clear n0_ n1_; (try clear hb); (try clear hb2); (try clear hk); (try clear hi); obtain ⟨Ao12, co12, eo12⟩ := Kd.R_slice HO_6.out; subst eo12) | ((with_reducible refine gate_callee (f := 79) rfl ?_); refine goesL_ (some 31) rfl rfl Tryd.func79 (by kernel_rfl) rfl #[.slice Ao12 x6_1.length co12, .int .i64 t610] rfl ka_ ?_; (with_reducible refine (spec_PutSign.calls _ _ x6_1 t610 t613 _ ?side1 ?side2 A10.out).mono ?_); (case side1 => repeat (first | exact (Kd.R_reads' HO_6.out).2.2 | (with_reducible refine Kd.C_alloc ?_ _) | (with_reducible refine Kd.C_drewN ?_ _) | (with_reducible refine Kd.C_drew ?_))); (case side2 => exact (Kd.R_reads' HO_6.out).2.1); rintro e w13 ⟨v614, rfl, ho0, hb⟩; refine ⟨_, rfl, ?_⟩; have n0_ := Aside0.mk (Kd.R_elder' (kr_ HO_6) (Kd.R_base ho0) hb); have n1_ := Aside0.mk (Kd.R_lower (Kd.R_new' ho0 (Kd.R_lt (kr_ HO_6))) (below_size hb_)); have n2_ := Aside0.mk (below_step hb_ hb); clear HO_6; clear HB; have HO_6 := n0_; have HO615 := n1_; have HB := n2_; clear n0_ n1_ n2_; (try clear hb); (try clear hb2); (try clear hk); (try clear hi); (try clear ho0)))
            go_roundg k1
            case measure => have := HK1.out; omega
            case rel => exact ⟨(t613), (t611), (by first | rfl | (simp; done) | (simp [*]; done)), H', ⟨by have := HK1.out; omega⟩, ⟨by (with_reducible repeat (first | apply Kd.R_alloc | apply Kd.R_drewN | apply Kd.R_drew)); exact Kd.R_mono HO615.out (fun _ hk => trivial)⟩, ⟨by repeat (first | (with_reducible first | exact HB.out | apply below_alloc | apply pw_below_drewN | apply below_drew1) | exact HB.out)⟩⟩
          · replace c9 := Bool.eq_false_iff.mpr c9
            subst c9
            have H1 : (some ((⟨#[]⟩ : ByteArray), false)) = some (r1, r2) := by rw [if_neg (show ¬ (false = true) by decide)] at H; exact H
            clear H
            have H := H1
            clear H1
            simp only [Option.some.injEq, Prod.mk.injEq] at H
            obtain ⟨rfl, rfl⟩ := H
            go_wp2_with (first | ((with_reducible refine gate_callee (f := 78) rfl ?_); refine goesL_ (some 23) rfl rfl Tryd.func78 (by kernel_rfl) rfl #[.int .i64 a0, .slice A1 l1.length c1, .int .i64 x7_1] rfl ka_ ?_; (with_reducible refine (spec_l5Get.calls k1 a0 _ _ l1 x7_1 t610 t611 false _ ?side1 ?side2 A8.out).mono ?_); (case side1 => repeat (first | exact (Kd.C_below HR1.out HB.out) | (with_reducible refine Kd.C_alloc ?_ _) | (with_reducible refine Kd.C_drewN ?_ _) | (with_reducible refine Kd.C_drew ?_))); (case side2 => exact HC1.out); rintro e w14 ⟨rfl, hb⟩; refine ⟨_, rfl, ?_⟩; have n0_ := Aside0.mk (Kd.R_below (kr_ HO_6) hb); have n1_ := Aside0.mk (below_step hb_ hb); clear HO_6; clear HB; have HO_6 := n0_; have HB := n1_; clear n0_ n1_; (try clear hb); (try clear hb2); (try clear hk); (try clear hi)))
            go_ret2
            exact ⟨rf_, hb_⟩
        · rw [if_neg c7] at H
          have c7b0 : decide (x7_1 < (l1.length : Int)) = false := decide_eq_false c7
          clear c7
          simp only [Option.some.injEq, Prod.mk.injEq] at H
          obtain ⟨rfl, rfl⟩ := H
          have hcv15 := own_string (P := Tryd.prog) Tryd.underlying23 Tryd.underlying5 Tryd.underlying9 (Kd.own_of_R HO_6.out)
          try have hcn15 := fun n_ : Nat => own_string (P := Tryd.prog) Tryd.underlying23 Tryd.underlying5 Tryd.underlying9 (Kd.own_of_R (Kd.R_drewN HO_6.out n_))
          go_wp2
          go_ret2
          exact ⟨rf_, hb_⟩
  · replace c4 := Bool.eq_false_iff.mpr c4
    subst c4
    have H1 : (some ((⟨#[]⟩ : ByteArray), false)) = some (r1, r2) := by rw [if_neg (show ¬ (false = true) by decide)] at H; exact H
    clear H
    have H := H1
    clear H1
    simp only [Option.some.injEq, Prod.mk.injEq] at H
    obtain ⟨rfl, rfl⟩ := H
    go_enter Tryd.func58, Tryd.ntmps58
    go_wp2_with (first | ((with_reducible refine gate_dst (N := 11) rfl ?_); refine Kd.R_lit (Kd.int .u8) _ 5 ?hg (N := 11) ?hd (xs := ([] : List Int)) (inner := []) (ok := fun _ => True) (okp := fun _ => True) ?hr ?hp (fun _ hk => hk) trivial (Below.refl _ _) (Nat.le_refl _) (by simp) ?_; (case hd => rfl); (case hg => rfl); (case hr => first | (go_simp; done) | (go_simp; rfl)); (case hp => exact (Reps.none _ _)); intro v607 w16 ho17 hb hg_ hnew_; clear hg_ hnew_; (first | rw [← Ny606.out] at ho17 | (simp only [Int.reduceToNat] at ho17; rw [← Ny606.out] at ho17)); have n0_ := Aside0.mk (Kd.R_lower ho17 (below_size hb_)); have n1_ := Aside0.mk (below_step hb_ hb); clear HB; have HO608 := n0_; have HB := n1_; clear n0_ n1_; clear hb ho17) | ((with_reducible refine gate_callee (f := 70) rfl ?_); refine goesL_ (some 13) rfl rfl Tryd.func70 (by kernel_rfl) rfl #[.int .i64 a0] rfl ka_ ?_; (with_reducible refine (spec_l5Cs.calls a0 false _ A3.out).mono ?_); rintro e w' ⟨rfl, ⟨nd, rfl⟩⟩; refine ⟨_, rfl, ?_⟩))
    go_ret2
    exact ⟨rf_, hb_⟩

/-! ### spec_DrawFits: function 64 -/
def spec_DrawFits.f (k : Nat) (l0 : List Int) : Option (Int × ByteArray) := (spec_DrawEncode.f k l0).bind fun bt616 => (some (bt616.1, bt616.2))
theorem spec_DrawFits.mono : ∀ a0 k, LeO (spec_DrawFits.f k a0) (spec_DrawFits.f (k + 1) a0) := by
  intro a0 k
  unfold spec_DrawFits.f
  repeat' first
      | (with_reducible exact spec_DrawEncode.mono _ _)
      | (with_reducible exact LeO.refl _)
      | (with_reducible exact LeO.none _)
      | (with_reducible refine LeO.ite ?_ ?_)
      | (with_reducible refine LeO.bind ?_ (fun _ => ?_))
      | exact spec_DrawEncode.mono _ _
      | exact LeO.none _
      | refine LeO.ite ?_ ?_
      | refine LeO.bind ?_ (fun _ => ?_)
set_option maxHeartbeats 8000000 in
set_option maxRecDepth 100000 in
theorem spec_DrawFits.calls (k : Nat) (A0 : Option Addr) (c0 : Nat) (l0 : List Int) (r1 : Int) (r2 : ByteArray) (w : World) (hr0 : Kd.C (Kd.int .u8) w A0 l0.length l0) (hc0 : l0.length ≤ c0) (h : spec_DrawFits.f k l0 = some (r1, r2)) :
    Calls Tryd.prog 64 #[.slice A0 l0.length c0] w fun e w' => e = .returned (.tuple #[.int .i64 r1, .string r2]) ∧ Below w.heap.size w w' := by
  have HR0 := Aside0.mk hr0
  have HC0 := Aside0.mk hc0
  clear hr0 hc0
  have HB := Aside0.mk (Below.refl w.heap.size w)
  have H : ((spec_DrawEncode.f k l0).bind fun bt616 => (some (bt616.1, bt616.2))) = some (r1, r2) := h
  clear h
  replace H := Option.bind_eq_some_iff.mp H
  obtain ⟨⟨t616, t617⟩, A20, H⟩ := H
  replace H : (some (t616, t617)) = some (r1, r2) := H
  have A2 := Aside0.mk A20
  clear A20
  simp only [Option.some.injEq, Prod.mk.injEq] at H
  obtain ⟨rfl, rfl⟩ := H
  go_enter Tryd.func64, Tryd.ntmps64
  go_wp2_with (first | ((with_reducible refine gate_callee (f := 57) rfl ?_); refine goesL_ (some 5) rfl rfl Tryd.func57 (by kernel_rfl) rfl #[.slice A0 l0.length c0] rfl ka_ ?_; (with_reducible refine (spec_DrawEncode.calls k _ _ l0 t616 t617 _ ?side1 ?side2 A2.out).mono ?_); (case side1 => repeat (first | exact HR0.out | (with_reducible refine Kd.C_alloc ?_ _) | (with_reducible refine Kd.C_drewN ?_ _) | (with_reducible refine Kd.C_drew ?_))); (case side2 => exact HC0.out); rintro e w3 ⟨rfl, hb⟩; refine ⟨_, rfl, ?_⟩; have n0_ := Aside0.mk (below_step hb_ hb); clear HB; have HB := n0_; clear n0_; (try clear hb); (try clear hb2); (try clear hk); (try clear hi)))
  go_ret2
  exact ⟨rf_, hb_⟩



end Go.Proofs.YtpmimhbnmjffpaaDoor.QFnCodes
