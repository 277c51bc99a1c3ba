/- The functions that a law reaches, each as a plain function, and that Go comes to just its answer: written by the session's program pp.py (the kit's print, with a few rows turned). -/
import Derived.Test.YtjadcnkelffdgaaDoorQFnStreamsBentx0
import Derived.Test.YtjadcnkelffdgaaDoorQFnStreamsBentx2
import Derived.Test.YtjadcnkelffdgaaDoorQFnStreamsBentx4
namespace Go.Proofs.YtjadcnkelffdgaaDoor.QFnStreamsBent
open Go.RowKit Go.Proofs.YtjadcnkelffdgaaDoorW.PrintWords Go.Proofs.YtjadcnkelffdgaaDoorW.PrintLast Go.Proofs.YtjadcnkelffdgaaDoorW.PrintMore Go.Proofs.YtjadcnkelffdgaaDoor.Xw Go.Proofs.YtjadcnkelffdgaaDoor.Xs Go.Proofs.YtjadcnkelffdgaaDoor.Xr Go.Proofs.YtjadcnkelffdgaaDoor.Ext
attribute [local go_sem] max2_int min2_int max_two min_two max_three min_three max_four min_four
set_option linter.unusedVariables false
set_option linter.unusedSimpArgs false
def spec_l5Get.f (k:Nat) (a0:Int) (l1:List Int) (a2:Int):Option (Int×Int×Bool):=if a0=0 then((spec_GetSign.f k l1 a2).bind fun bt265=>(some (bt265.1,bt265.2.1,bt265.2.2)))else(if a0=5 then((spec_EucSign.f k l1 a2).bind fun bt268=>(some (bt268.1,bt268.2.1,bt268.2.2)))else(if 0≤a2 then(if a2<(l1.length:Int)then((spec_ByteSign.f k a0 (wrap64 (rd l1 a2))).bind fun bt272=>(some (bt272.1,wrap64 (a2+1),bt272.2)))else(none))else(none)))
theorem spec_l5Get.mono:∀a0 a1 a2 k,LeO (spec_l5Get.f k a0 a1 a2) (spec_l5Get.f (k+1) a0 a1 a2):=by
 intro a0 a1 a2 k;unfold spec_l5Get.f
 repeat' first
   |(with_reducible exact spec_ByteSign.mono _ _ _)
   |(with_reducible exact spec_EucSign.mono _ _ _)
   |(with_reducible exact spec_GetSign.mono _ _ _)
   |(with_reducible exact LeO.refl _)
   |(with_reducible exact LeO.none _)
   |(with_reducible refine LeO.ite ?_ ?_)
   |(with_reducible refine LeO.bind ?_ (fun _=>?_))
   |exact spec_ByteSign.mono _ _ _
   |exact spec_EucSign.mono _ _ _
   |exact spec_GetSign.mono _ _ _
   |exact LeO.none _
   |refine LeO.ite ?_ ?_
   |refine LeO.bind ?_ (fun _=>?_)
set_option maxHeartbeats 8000000 in
set_option maxRecDepth 100000 in
theorem spec_l5Get.calls (k:Nat) (a0:Int) (A1:Option Addr) (c1:Nat) (l1:List Int) (a2:Int) (r1:Int) (r2:Int) (r3:Bool) (w:World) (hr1:Kd.C (Kd.int .u8) w A1 l1.length l1) (hc1:l1.length≤c1) (h:spec_l5Get.f k a0 l1 a2=some (r1,r2,r3)):
  Calls Tryd.prog 23 #[.int .i64 a0,.slice A1 l1.length c1,.int .i64 a2] w fun e w'=>e= .returned (.tuple #[.int .i64 r1,.int .i64 r2,.bool r3])∧Below w.heap.size w w':=by
 have HR1:=Aside0.mk hr1;have HC1:=Aside0.mk hc1;clear hr1 hc1;have HB:=Aside0.mk (Below.refl w.heap.size w);have H:(if a0=0 then((spec_GetSign.f k l1 a2).bind fun bt265=>(some (bt265.1,bt265.2.1,bt265.2.2)))else(if a0=5 then((spec_EucSign.f k l1 a2).bind fun bt268=>(some (bt268.1,bt268.2.1,bt268.2.2)))else(if 0≤a2 then(if a2<(l1.length:Int)then((spec_ByteSign.f k a0 (wrap64 (rd l1 a2))).bind fun bt272=>(some (bt272.1,wrap64 (a2+1),bt272.2)))else(none))else(none))))=some (r1,r2,r3):=h;clear h;by_cases c4:a0=0
 ·rw[if_pos c4]at H;have c4b0:(a0==0)=true:=beq_iff_eq.mpr c4;have c4b1:(a0 != 0)=false:=bne_eq_false_iff_eq.mpr c4;clear c4;replace H:=Option.bind_eq_some_iff.mp H;obtain⟨⟨t265,t266,t267⟩,A50,H⟩:=H;try dsimp only at H
  have A5:=Aside0.mk A50;clear A50;simp only[Option.some.injEq,Prod.mk.injEq]at H;obtain⟨rfl,rfl,rfl⟩:=H;go_enter Tryd.func23,Tryd.ntmps23
  go_wp2_with (first|((with_reducible refine gate_callee (f:=44) rfl ?_);refine goesL_ (some 16) rfl rfl Tryd.func44 (by kernel_rfl) rfl #[.slice A1 l1.length c1,.int .i64 a2] rfl ka_ ?_;(with_reducible refine(spec_GetSign.calls k _ _ l1 a2 t265 t266 t267 _ ?side1 ?side2 A5.out).mono ?_);(case side1=>exact kc_ HR1.out);(case side2=>exact HC1.out);rintro e w6 ⟨rfl,hb⟩;refine⟨_,rfl,?_⟩;replace HB:=Aside0.mk (below_step hb_ hb);try clear hb))
  go_ret3
  exact⟨rf_,hb_⟩
 ·rw[if_neg c4]at H;have c4b0:(a0==0)=false:=beq_eq_false_iff_ne.mpr c4;have c4b1:(a0 != 0)=true:=bne_iff_ne.mpr c4;by_cases c7:a0=5
  ·rw[if_pos c7]at H;have c7b0:(a0==5)=true:=beq_iff_eq.mpr c7;have c7b1:(a0 != 5)=false:=bne_eq_false_iff_eq.mpr c7;clear c7;replace H:=Option.bind_eq_some_iff.mp H;obtain⟨⟨t268,t269,t270⟩,A80,H⟩:=H;try dsimp only at H
   have A8:=Aside0.mk A80;clear A80;simp only[Option.some.injEq,Prod.mk.injEq]at H;obtain⟨rfl,rfl,rfl⟩:=H;go_enter Tryd.func23,Tryd.ntmps23
   go_wp2_with (first|((with_reducible refine gate_callee (f:=45) rfl ?_);refine goesL_ (some 24) rfl rfl Tryd.func45 (by kernel_rfl) rfl #[.slice A1 l1.length c1,.int .i64 a2] rfl ka_ ?_;(with_reducible refine(spec_EucSign.calls k _ _ l1 a2 t268 t269 t270 _ ?side1 ?side2 A8.out).mono ?_);(case side1=>exact kc_ HR1.out);(case side2=>exact HC1.out);rintro e w' ⟨rfl,⟨nd,rfl⟩⟩;refine⟨_,rfl,?_⟩))
   go_ret3
   exact⟨rf_,hb_⟩
  ·rw[if_neg c7]at H;have c7b0:(a0==5)=false:=beq_eq_false_iff_ne.mpr c7;have c7b1:(a0 != 5)=true:=bne_iff_ne.mpr c7;by_cases c9:0≤a2
   ·rw[if_pos c9]at H;have c9b0:decide (0≤a2)=true:=decide_eq_true c9;clear c9;by_cases c10:a2<(l1.length:Int)
    ·rw[if_pos c10]at H;have c10b0:decide (a2<(l1.length:Int))=true:=decide_eq_true c10;clear c10;replace H:=Option.bind_eq_some_iff.mp H;obtain⟨⟨t272,t273⟩,A110,H⟩:=H;try dsimp only at H
     have A11:=Aside0.mk A110;clear A110;simp only[Option.some.injEq,Prod.mk.injEq]at H;obtain⟨rfl,rfl,rfl⟩:=H;have p271:0≤(a2:Int):=of_decide_eq_true as_;have q271:a2<(l1.length:Int):=of_decide_eq_true as_;obtain⟨ad271,e271,hx271_0⟩:=Kd.at_int HR1.out a2 p271 q271;cases e271;replace p271:=eq_true p271;replace q271:=eq_true q271;go_enter Tryd.func23,Tryd.ntmps23
     go_wp2_with (first|((with_reducible refine gate_callee (f:=46) rfl ?_);refine goesL_ (some 35) rfl rfl Tryd.func46 (by kernel_rfl) rfl #[.int .i64 a0,.int .i64 (wrap64 (rd l1 a2))] rfl ka_ ?_;(with_reducible refine(spec_ByteSign.calls k a0 (wrap64 (rd l1 a2)) t272 t273 _ A11.out).mono ?_);rintro e w12 ⟨rfl,hb⟩;refine⟨_,rfl,?_⟩;replace HB:=Aside0.mk (below_step hb_ hb);try clear hb))
     go_ret3
     exact⟨rf_,hb_⟩
    ·rw[if_neg c10]at H;exact absurd H (by simp)
   ·rw[if_neg c9]at H;exact absurd H (by simp)
end Go.Proofs.YtjadcnkelffdgaaDoor.QFnStreamsBent
