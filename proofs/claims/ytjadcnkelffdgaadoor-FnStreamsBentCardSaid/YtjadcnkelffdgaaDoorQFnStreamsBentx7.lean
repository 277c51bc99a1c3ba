/- The functions that a law reaches, each as a plain function, and that Go comes to just its answer: written by the session's program pp.py (the kit's print, with a few rows turned). -/
import Derived.Test.YtjadcnkelffdgaaDoorQFnStreamsBentx0
import Derived.Test.YtjadcnkelffdgaaDoorQFnStreamsBentx1
import Derived.Test.YtjadcnkelffdgaaDoorQFnStreamsBentx2
import Derived.Test.YtjadcnkelffdgaaDoorQFnStreamsBentx3
import Derived.Test.YtjadcnkelffdgaaDoorQFnStreamsBentx4
namespace Go.Proofs.YtjadcnkelffdgaaDoor.QFnStreamsBent
open Go.RowKit Go.Proofs.YtjadcnkelffdgaaDoorW.PrintWords Go.Proofs.YtjadcnkelffdgaaDoorW.PrintLast Go.Proofs.YtjadcnkelffdgaaDoorW.PrintMore Go.Proofs.YtjadcnkelffdgaaDoor.Xw Go.Proofs.YtjadcnkelffdgaaDoor.Xs Go.Proofs.YtjadcnkelffdgaaDoor.Xr Go.Proofs.YtjadcnkelffdgaaDoor.Ext
attribute [local go_sem] max2_int min2_int max_two min_two max_three min_three max_four min_four
set_option linter.unusedVariables false
set_option linter.unusedSimpArgs false
def spec_Signs.l0:Nat→List Int→List Int→Int→Option (List Int×Bool)
 |0,_,_,_=>none
 |k+1,x4,x5,x6=>if x6<(x5.length:Int)then((spec_GetSign.f k x5 x6).bind fun bt326=>(if bt326.2.2=true then(if x4.length<17592186044416 then(spec_Signs.l0 k (x4++[bt326.1]) x5 bt326.2.1)else(none))else(some ((([]:List Int)),false))))else(some (x4,true))
def spec_Signs.f (k:Nat) (a0:ByteArray):Option (List Int×Bool):=if a0.size≤9223372036854775807 then(spec_Signs.l0 k (([]:List Int)) (numsOf a0) 0)else(none)
theorem spec_Signs.mono_l:∀k,(∀y0 y1 y2,LeO (spec_Signs.l0 k y0 y1 y2) (spec_Signs.l0 (k+1) y0 y1 y2))
 |0=>fun _ _ _ r h=>by simp[spec_Signs.l0]at h
 |k+1=>by
  have ih0:=spec_Signs.mono_l k
  ·intro y0 y1 y2;unfold spec_Signs.l0
   repeat' first
   |(with_reducible exact ih0 _ _ _)
   |(with_reducible exact spec_GetSign.mono _ _ _)
   |(with_reducible exact LeO.refl _)
   |(with_reducible exact LeO.none _)
   |(with_reducible refine LeO.ite ?_ ?_)
   |(with_reducible refine LeO.bind ?_ (fun _=>?_))
   |exact ih0 _ _ _
   |exact spec_GetSign.mono _ _ _
   |exact LeO.none _
   |refine LeO.ite ?_ ?_
   |refine LeO.bind ?_ (fun _=>?_)
theorem spec_Signs.mono:∀a0 k,LeO (spec_Signs.f k a0) (spec_Signs.f (k+1) a0):=by
 intro a0 k;have ih0:=spec_Signs.mono_l k;unfold spec_Signs.f
 repeat' first
   |(with_reducible exact ih0 _ _ _)
   |(with_reducible exact spec_GetSign.mono _ _ _)
   |(with_reducible exact LeO.refl _)
   |(with_reducible exact LeO.none _)
   |(with_reducible refine LeO.ite ?_ ?_)
   |(with_reducible refine LeO.bind ?_ (fun _=>?_))
   |exact ih0 _ _ _
   |exact spec_GetSign.mono _ _ _
   |exact LeO.none _
   |refine LeO.ite ?_ ?_
   |refine LeO.bind ?_ (fun _=>?_)
set_option maxHeartbeats 8000000 in
set_option maxRecDepth 100000 in
theorem spec_Signs.calls (k:Nat) (a0:ByteArray) (r1:List Int) (r2:Bool) (w:World) (h:spec_Signs.f k a0=some (r1,r2)):
  Calls Tryd.prog 53 #[.string a0] w fun e w'=>∃v0_:Value,e= .returned (.tuple #[v0_,.bool r2])∧Kd.R (Kd.int .i64) 3 w' w.heap.size (fun _=>True) v0_ r1∧Below w.heap.size w w':=by
 have HB:=Aside0.mk (Below.refl w.heap.size w);have H:(if a0.size≤9223372036854775807 then(spec_Signs.l0 k (([]:List Int)) (numsOf a0) 0)else(none))=some (r1,r2):=h;clear h;obtain⟨y320,hy320⟩:∃y_:List Int,y_=(([]:List Int)):=⟨_,rfl⟩;replace H:(if a0.size≤9223372036854775807 then(spec_Signs.l0 k y320 (numsOf a0) 0)else(none))=some (r1,r2):=by first|(rw[hy320];with_reducible exact H)|(have H2_:=(Option.bind_some _ _).symm.trans H;rw[hy320];with_reducible exact H2_)|(have H2_:=(Option.bind_some _ _).symm.trans H;with_reducible exact H2_)|with_reducible exact H|(rw[hy320];exact H)|exact H
 have Ny320:=Aside0.mk hy320;clear hy320;by_cases c2:a0.size≤9223372036854775807
 ·rw[if_pos c2]at H;have c2b0:=eq_true c2;have c2b1:decide (a0.size≤9223372036854775807)=true:=decide_eq_true c2;try have c2b2:(9223372036854775807<a0.size)=False:=eq_false (Nat.not_lt.2 c2)
  clear c2;obtain⟨y323,hy323⟩:∃y_:List Int,y_=(numsOf a0):=⟨_,rfl⟩;replace H:(spec_Signs.l0 k y320 y323 0)=some (r1,r2):=by first|(rw[hy323];with_reducible exact H)|(have H2_:=(Option.bind_some _ _).symm.trans H;rw[hy323];with_reducible exact H2_)|(have H2_:=(Option.bind_some _ _).symm.trans H;with_reducible exact H2_)|with_reducible exact H|(rw[hy323];exact H)|exact H
  have Ny323:=Aside0.mk hy323;clear hy323;have H':=Aside0.mk H;clear H;go_enter Tryd.func53,Tryd.ntmps53
  go_wp2_with (first|((with_reducible refine gate_dst (N:=10) rfl ?_);refine Kd.R_lit (Kd.int .i64) _ 3 ?hg (N:=10) ?hd (xs:=([]:List Int)) (inner:=[]) (ok:=fun _=>True) (okp:=fun _=>True) ?hr ?hp (fun _ hk=>hk) trivial (Below.refl _ _) (Nat.le_refl _) (by simp) ?_;(case hd=>rfl);(case hg=>rfl);(case hr=>first|(go_simp;done)|(go_simp;rfl));(case hp=>exact(Reps.none _ _));intro v321 w3 ho4 hb hg_ hnew_;clear hg_ hnew_;(first|rw[←Ny320.out]at ho4|(simp only[Int.reduceToNat]at ho4;rw[←Ny320.out]at ho4));have HO322:=Aside0.mk (Kd.R_lower ho4 (below_size hb_));replace HB:=Aside0.mk (below_step hb_ hb);clear hb ho4)|((with_reducible refine Kd.gate_upon (N:=12) rfl ?_);refine Kd.V_ofstr _ 9 22 5 a0 Tryd.underlying9 Tryd.underlying22 Tryd.underlying5 (by first|exact of_decide_eq_true as_|assumption|omega) (Below.refl _ _) (Nat.le_refl _) ?_;intro v324 w5 ho6 hb hg_ hnew_;clear hg_ hnew_;(first|rw[←Ny323.out]at ho6|(simp only[Int.reduceToNat]at ho6;rw[←Ny323.out]at ho6));have HO325:=Aside0.mk (Kd.V_lower (Kd.V_mono (ok':=fun k_=>some k_≠(v321:Value).ownBlock) ho6 (fun k_ hk_=>(Kd.fresh' (Kd.R_lt (kr_ HO322)) k_ hk_))) (below_size hb_));replace HO322:=Aside0.mk (Kd.R_below (kr_ HO322) hb);replace HB:=Aside0.mk (below_step hb_ hb);clear hb ho6))
  go_loopg [4,6] k (fun kq v4 v6 w'=>∃(x4_1:List Int) (x6_1:Int),v6= .int .i64 x6_1∧Aside0 (spec_Signs.l0 kq x4_1 y323 x6_1=some (r1,r2))∧Aside0 (kq≤k)∧Aside0 (Kd.R (Kd.int .i64) 3 w' w.heap.size (fun _=>True) v4 x4_1)∧Aside0 (Kd.V (Kd.int .u8) 5 w' w.heap.size (fun k_=>some k_≠(v4:Value).ownBlock) v324 y323)∧Aside0 (Below w.heap.size w w'))
  case atStart=>exact⟨(y320),(0),(by first|rfl|(simp;done)|(simp[*];done)),H',⟨Nat.le_refl _⟩,⟨by(with_reducible repeat(first|apply Kd.R_alloc|apply Kd.R_drewN|apply Kd.R_drew));exact HO322.out⟩,⟨by(with_reducible repeat(first|apply Kd.V_alloc|apply Kd.V_drewN|apply Kd.V_drew));exact HO325.out⟩,⟨by repeat(first|(with_reducible first|exact HB.out|apply below_alloc|apply pw_below_drewN|apply below_drew1)|exact HB.out)⟩⟩
  case round=>
   clear H';try clear c2
   try clear c2b0
   try clear c2b1
   try clear c2b2
   try clear p2
   try clear c5
   obtain⟨x4_1,x6_1,rfl,HA,HK1,HO_4,HO_5,HB⟩:=hrel
   cases gk with
   |zero=>exact absurd HA.out (by simp[spec_Signs.l0])
   |succ k1=>
    have H:=HA.out;clear HA;simp only[spec_Signs.l0]at H;by_cases c7:x6_1<(y323.length:Int)
    ·rw[if_pos c7]at H;have c7b0:decide (x6_1<(y323.length:Int))=true:=decide_eq_true c7;clear c7;replace H:=Option.bind_eq_some_iff.mp H;obtain⟨⟨t326,t327,t328⟩,A80,H⟩:=H;try dsimp only at H
     have A8:=Aside0.mk A80;clear A80;by_cases c9:t328=true
     ·subst c9;rw[if_pos rfl]at H;by_cases c10:x4_1.length<17592186044416
      ·rw[if_pos c10]at H;have LMc10:=Aside0.mk c10;clear c10;obtain⟨y329,hy329⟩:∃y_:List Int,y_=(x4_1++[t326]):=⟨_,rfl⟩;replace H:(spec_Signs.l0 k1 y329 y323 t327)=some (r1,r2):=by first|(rw[hy329];with_reducible exact H)|(have H2_:=(Option.bind_some _ _).symm.trans H;rw[hy329];with_reducible exact H2_)|(have H2_:=(Option.bind_some _ _).symm.trans H;with_reducible exact H2_)|with_reducible exact H|(rw[hy329];exact H)|exact H
       have Ny329:=Aside0.mk hy329;clear hy329;have H':=Aside0.mk H;clear H;obtain⟨Ao11,co11,eo11⟩:=Kd.V_slice HO_5.out;subst eo11;go_wp2_with (first|((with_reducible refine gate_callee (f:=44) rfl ?_);refine goesL_ (some 20) rfl rfl Tryd.func44 (by kernel_rfl) rfl #[.slice Ao11 y323.length co11,.int .i64 x6_1] rfl ka_ ?_;(with_reducible refine(spec_GetSign.calls k1 _ _ y323 x6_1 t326 t327 true _ ?side1 ?side2 A8.out).mono ?_);(case side1=>exact kc_ (Kd.V_reads' HO_5.out).2.2);(case side2=>exact(Kd.V_reads' HO_5.out).2.1);rintro e w12 ⟨rfl,hb⟩;refine⟨_,rfl,?_⟩;replace HO_4:=Aside0.mk (Kd.R_below (kr_ HO_4) hb);replace HO_5:=Aside0.mk (Kd.V_below (kv_ HO_5) hb);replace HB:=Aside0.mk (below_step hb_ hb);try clear hb)|((with_reducible refine gate_builtin (b:=.append) (xs:=#[.tmp 27,.tmp 29]) rfl ?_);at_builtin;refine Kd.R_append (Kd.int .i64) (w0:=w) w.heap.size rfl (.tmp 27) (.tmp 29) 55 3 (.int .i64 0) 8 rfl Tryd.underlying55 info3 rfl (by decide) (by omega) u4 x4_1 t326 [.int .i64 t326] (fun _=>True) (fun _=>False) rfl rfl ?aP (fun _ hk=>hk.elim) ?aF ?aO ?aB ?aS ?aL ?_;(case aP=>exact rfl);(case aB=>exact hb_);(case aF=>exact(fun _ _=>trivial));(case aO=>exact(kr_ HO_4));(case aS=>exact(below_size hb_));(case aL=>have:=LMc10.out;omega);intro v330 w13 ho hb hg hat;rw[←Ny329.out]at ho;replace HO_5:=Aside0.mk (Kd.V_afterv (ok:=(fun _=>True)) (by(with_reducible repeat(first|apply Kd.V_alloc|apply Kd.V_drewN|apply Kd.V_drew));exact Kd.V_mono HO_5.out (fun _ hk=>⟨trivial,hk⟩)) hg hat);replace HB:=Aside0.mk (hb);have HO331:=Aside0.mk (ho);clear HO_4;clear ho hb hg hat))
       go_roundg k1
       case measure=>have:=HK1.out;omega
       case rel=>exact⟨(y329),(t327),(by first|rfl|(simp;done)|(simp[*];done)),H',⟨by have:=HK1.out;omega⟩,⟨by(with_reducible repeat(first|apply Kd.R_alloc|apply Kd.R_drewN|apply Kd.R_drew));exact HO331.out⟩,⟨by(with_reducible repeat(first|apply Kd.V_alloc|apply Kd.V_drewN|apply Kd.V_drew));exact Kd.V_mono HO_5.out (fun _ hk=>hk.2)⟩,⟨by repeat(first|(with_reducible first|exact HB.out|apply below_alloc|apply pw_below_drewN|apply below_drew1)|exact HB.out)⟩⟩
      ·rw[if_neg c10]at H;exact absurd H (by simp)
     ·replace c9:=Bool.eq_false_iff.mpr c9;subst c9;rw[if_neg (show ¬(false=true) by decide)]at H;obtain⟨y332,hy332⟩:∃y_:List Int,y_=(([]:List Int)):=⟨_,rfl⟩;replace H:(some (y332,false))=some (r1,r2):=by first|(rw[hy332];with_reducible exact H)|(have H2_:=(Option.bind_some _ _).symm.trans H;rw[hy332];with_reducible exact H2_)|(have H2_:=(Option.bind_some _ _).symm.trans H;with_reducible exact H2_)|with_reducible exact H|(rw[hy332];exact H)|exact H
      have Ny332:=Aside0.mk hy332;clear hy332;simp only[Option.some.injEq,Prod.mk.injEq]at H;obtain⟨rfl,rfl⟩:=H;obtain⟨Ao14,co14,eo14⟩:=Kd.V_slice HO_5.out;subst eo14;go_wp2_with (first|((with_reducible refine gate_callee (f:=44) rfl ?_);refine goesL_ (some 20) rfl rfl Tryd.func44 (by kernel_rfl) rfl #[.slice Ao14 y323.length co14,.int .i64 x6_1] rfl ka_ ?_;(with_reducible refine(spec_GetSign.calls k1 _ _ y323 x6_1 t326 t327 false _ ?side1 ?side2 A8.out).mono ?_);(case side1=>exact kc_ (Kd.V_reads' HO_5.out).2.2);(case side2=>exact(Kd.V_reads' HO_5.out).2.1);rintro e w15 ⟨rfl,hb⟩;refine⟨_,rfl,?_⟩;replace HO_4:=Aside0.mk (Kd.R_below (kr_ HO_4) hb);replace HO_5:=Aside0.mk (Kd.V_below (kv_ HO_5) hb);replace HB:=Aside0.mk (below_step hb_ hb);try clear hb)|((with_reducible refine gate_dst (N:=26) rfl ?_);refine Kd.R_lit (Kd.int .i64) _ 3 ?hg (N:=26) ?hd (xs:=([]:List Int)) (inner:=[]) (ok:=fun _=>True) (okp:=fun _=>True) ?hr ?hp (fun _ hk=>hk) trivial (Below.refl _ _) (Nat.le_refl _) (by simp) ?_;(case hd=>rfl);(case hg=>rfl);(case hr=>first|(go_simp;done)|(go_simp;rfl));(case hp=>exact(Reps.none _ _));intro v333 w16 ho17 hb hg_ hnew_;clear hg_ hnew_;(first|rw[←Ny332.out]at ho17|(simp only[Int.reduceToNat]at ho17;rw[←Ny332.out]at ho17));replace HO_5:=Aside0.mk (Kd.V_elder' (kv_ HO_5) (Kd.R_base ho17) hb);have HO334:=Aside0.mk (Kd.R_lower (Kd.R_new' ho17 (Kd.R_lt (kr_ HO_4))) (below_size hb_));replace HO_4:=Aside0.mk (Kd.R_elder' (kr_ HO_4) (Kd.R_base ho17) hb);replace HB:=Aside0.mk (below_step hb_ hb);clear hb ho17))
      go_ret2
      exact⟨_,by first|rfl|(simp[errW_none,errW_some]<;>rfl)|(simp[*,errW_none,errW_some]<;>rfl),by(with_reducible repeat(first|apply Kd.R_alloc|apply Kd.R_drewN|apply Kd.R_drew));exact Kd.R_mono HO334.out (fun _ hk=>trivial),hb_⟩
    ·rw[if_neg c7]at H;have c7b0:decide (x6_1<(y323.length:Int))=false:=decide_eq_false c7;clear c7;simp only[Option.some.injEq,Prod.mk.injEq]at H;obtain⟨rfl,rfl⟩:=H;obtain⟨Ao18,co18,eo18⟩:=Kd.V_slice HO_5.out;subst eo18;go_wp2
     go_ret2
     exact⟨_,by first|rfl|(simp[errW_none,errW_some]<;>rfl)|(simp[*,errW_none,errW_some]<;>rfl),by(with_reducible repeat(first|apply Kd.R_alloc|apply Kd.R_drewN|apply Kd.R_drew));exact HO_4.out,hb_⟩
 ·rw[if_neg c2]at H;exact absurd H (by simp)
def spec_SignPair.f (a0:Int):Option (Int×Int×Bool):=(spec_l1In.f a0 12353 12435).bind fun t335=>(if t335=true then(some (164,wrap64 ((wrap64 (a0-12353))+161),true))else((spec_l1In.f a0 12449 12534).bind fun t336=>(if t336=true then(some (165,wrap64 ((wrap64 (a0-12449))+161),true))else(some (0,0,false)))))
set_option maxHeartbeats 8000000 in
set_option maxRecDepth 100000 in
theorem spec_SignPair.calls (a0:Int) (r1:Int) (r2:Int) (r3:Bool) (w:World) (h:spec_SignPair.f a0=some (r1,r2,r3)):
  Calls Tryd.prog 71 #[.int .i64 a0] w fun e w'=>e= .returned (.tuple #[.int .i64 r1,.int .i64 r2,.bool r3])∧Drawn0 w w':=by
 have H:((spec_l1In.f a0 12353 12435).bind fun t335=>(if t335=true then(some (164,wrap64 ((wrap64 (a0-12353))+161),true))else((spec_l1In.f a0 12449 12534).bind fun t336=>(if t336=true then(some (165,wrap64 ((wrap64 (a0-12449))+161),true))else(some (0,0,false))))))=some (r1,r2,r3):=h;clear h;replace H:=Option.bind_eq_some_iff.mp H;obtain⟨t335,A20,H⟩:=H;try dsimp only at H
 have A2:=Aside0.mk A20;clear A20;by_cases c3:t335=true
 ·subst c3;rw[if_pos rfl]at H;simp only[Option.some.injEq,Prod.mk.injEq]at H;obtain⟨rfl,rfl,rfl⟩:=H;go_enter Tryd.func71,Tryd.ntmps71
  go_wp2_with (first|((with_reducible refine gate_callee (f:=49) rfl ?_);refine goesL_ (some 7) rfl rfl Tryd.func49 (by kernel_rfl) rfl #[.int .i64 a0,.int .i64 12353,.int .i64 12435] rfl ka_ ?_;(with_reducible refine(spec_l1In.calls a0 12353 12435 true _ A2.out).mono ?_);rintro e w' ⟨rfl,⟨nd,rfl⟩⟩;refine⟨_,rfl,?_⟩))
  go_ret3
  exact⟨by first|rfl|(simp;done)|(simp[*];done),dn_⟩
 ·replace c3:=Bool.eq_false_iff.mpr c3;subst c3;rw[if_neg (show ¬(false=true) by decide)]at H;replace H:=Option.bind_eq_some_iff.mp H;obtain⟨t336,A40,H⟩:=H;try dsimp only at H
  have A4:=Aside0.mk A40;clear A40;by_cases c5:t336=true
  ·subst c5;rw[if_pos rfl]at H;simp only[Option.some.injEq,Prod.mk.injEq]at H;obtain⟨rfl,rfl,rfl⟩:=H;go_enter Tryd.func71,Tryd.ntmps71
   go_wp2_with (first|((with_reducible refine gate_callee (f:=49) rfl ?_);refine goesL_ (some 7) rfl rfl Tryd.func49 (by kernel_rfl) rfl #[.int .i64 a0,.int .i64 12353,.int .i64 12435] rfl ka_ ?_;(with_reducible refine(spec_l1In.calls a0 12353 12435 false _ A2.out).mono ?_);rintro e w' ⟨rfl,⟨nd,rfl⟩⟩;refine⟨_,rfl,?_⟩)|((with_reducible refine gate_callee (f:=49) rfl ?_);refine goesL_ (some 13) rfl rfl Tryd.func49 (by kernel_rfl) rfl #[.int .i64 a0,.int .i64 12449,.int .i64 12534] rfl ka_ ?_;(with_reducible refine(spec_l1In.calls a0 12449 12534 true _ A4.out).mono ?_);rintro e w' ⟨rfl,⟨nd,rfl⟩⟩;refine⟨_,rfl,?_⟩))
   go_ret3
   exact⟨by first|rfl|(simp;done)|(simp[*];done),dn_⟩
  ·replace c5:=Bool.eq_false_iff.mpr c5;subst c5;rw[if_neg (show ¬(false=true) by decide)]at H;simp only[Option.some.injEq,Prod.mk.injEq]at H;obtain⟨rfl,rfl,rfl⟩:=H;go_enter Tryd.func71,Tryd.ntmps71
   go_wp2_with (first|((with_reducible refine gate_callee (f:=49) rfl ?_);refine goesL_ (some 7) rfl rfl Tryd.func49 (by kernel_rfl) rfl #[.int .i64 a0,.int .i64 12353,.int .i64 12435] rfl ka_ ?_;(with_reducible refine(spec_l1In.calls a0 12353 12435 false _ A2.out).mono ?_);rintro e w' ⟨rfl,⟨nd,rfl⟩⟩;refine⟨_,rfl,?_⟩)|((with_reducible refine gate_callee (f:=49) rfl ?_);refine goesL_ (some 13) rfl rfl Tryd.func49 (by kernel_rfl) rfl #[.int .i64 a0,.int .i64 12449,.int .i64 12534] rfl ka_ ?_;(with_reducible refine(spec_l1In.calls a0 12449 12534 false _ A4.out).mono ?_);rintro e w' ⟨rfl,⟨nd,rfl⟩⟩;refine⟨_,rfl,?_⟩))
   go_ret3
   exact⟨by first|rfl|(simp;done)|(simp[*];done),dn_⟩
def spec_PutEuc.f (l0:List Int) (a1:Int):Option (List Int×Bool):=(some (([]:List Int):List Int)).bind fun y337=>(if y337.length+l0.length<140737488355328 then((some (y337++l0:List Int)).bind fun y340=>((spec_l1In.f a1 0 127).bind fun t343=>(if t343=true then(if y340.length<140737488355328 then(some ((y340++[(a1)%256]),true))else(none))else((spec_SignPair.f a1).bind fun bt347=>(if bt347.2.2=true then((some (([(bt347.1)%256,(bt347.2.1)%256]:List Int):List Int)).bind fun y350=>(if y340.length+y350.length<140737488355328 then(some ((y340++y350),true))else(none)))else(some (y340,false)))))))else(none))
set_option maxHeartbeats 8000000 in
set_option maxRecDepth 100000 in
theorem spec_PutEuc.calls (A0:Option Addr) (c0:Nat) (l0:List Int) (a1:Int) (r1:List Int) (r2:Bool) (w:World) (hr0:Kd.C (Kd.int .u8) w A0 l0.length l0) (hc0:l0.length≤c0) (h:spec_PutEuc.f l0 a1=some (r1,r2)):
  Calls Tryd.prog 67 #[.slice A0 l0.length c0,.int .i64 a1] w fun e w'=>∃v0_:Value,e= .returned (.tuple #[v0_,.bool r2])∧Kd.R (Kd.int .u8) 5 w' w.heap.size (fun _=>True) v0_ r1∧Below w.heap.size w w':=by
 have HR0:=Aside0.mk hr0;have HC0:=Aside0.mk hc0;clear hr0 hc0;have HB:=Aside0.mk (Below.refl w.heap.size w);have H:((some (([]:List Int):List Int)).bind fun y337=>(if y337.length+l0.length<140737488355328 then((some (y337++l0:List Int)).bind fun y340=>((spec_l1In.f a1 0 127).bind fun t343=>(if t343=true then(if y340.length<140737488355328 then(some ((y340++[(a1)%256]),true))else(none))else((spec_SignPair.f a1).bind fun bt347=>(if bt347.2.2=true then((some (([(bt347.1)%256,(bt347.2.1)%256]:List Int):List Int)).bind fun y350=>(if y340.length+y350.length<140737488355328 then(some ((y340++y350),true))else(none)))else(some (y340,false)))))))else(none)))=some (r1,r2):=h;clear h;obtain⟨y337,hy337⟩:∃y_:List Int,y_=(([]:List Int)):=⟨_,rfl⟩;replace H:(if y337.length+l0.length<140737488355328 then((some (y337++l0:List Int)).bind fun y340=>((spec_l1In.f a1 0 127).bind fun t343=>(if t343=true then(if y340.length<140737488355328 then(some ((y340++[(a1)%256]),true))else(none))else((spec_SignPair.f a1).bind fun bt347=>(if bt347.2.2=true then((some (([(bt347.1)%256,(bt347.2.1)%256]:List Int):List Int)).bind fun y350=>(if y340.length+y350.length<140737488355328 then(some ((y340++y350),true))else(none)))else(some (y340,false)))))))else(none))=some (r1,r2):=by first|(rw[hy337];with_reducible exact H)|(have H2_:=(Option.bind_some _ _).symm.trans H;rw[hy337];with_reducible exact H2_)|(have H2_:=(Option.bind_some _ _).symm.trans H;with_reducible exact H2_)|with_reducible exact H|(rw[hy337];exact H)|exact H
 have Ny337:=Aside0.mk hy337;clear hy337;by_cases c3:y337.length+l0.length<140737488355328
 ·rw[if_pos c3]at H;have LMc3:=Aside0.mk c3;clear c3;obtain⟨y340,hy340⟩:∃y_:List Int,y_=(y337++l0):=⟨_,rfl⟩;replace H:((spec_l1In.f a1 0 127).bind fun t343=>(if t343=true then(if y340.length<140737488355328 then(some ((y340++[(a1)%256]),true))else(none))else((spec_SignPair.f a1).bind fun bt347=>(if bt347.2.2=true then((some (([(bt347.1)%256,(bt347.2.1)%256]:List Int):List Int)).bind fun y350=>(if y340.length+y350.length<140737488355328 then(some ((y340++y350),true))else(none)))else(some (y340,false))))))=some (r1,r2):=by first|(rw[hy340];with_reducible exact H)|(have H2_:=(Option.bind_some _ _).symm.trans H;rw[hy340];with_reducible exact H2_)|(have H2_:=(Option.bind_some _ _).symm.trans H;with_reducible exact H2_)|with_reducible exact H|(rw[hy340];exact H)|exact H
  have Ny340:=Aside0.mk hy340;clear hy340;replace H:=Option.bind_eq_some_iff.mp H;obtain⟨t343,A40,H⟩:=H;try dsimp only at H
  have A4:=Aside0.mk A40;clear A40;by_cases c5:t343=true
  ·subst c5;rw[if_pos rfl]at H;by_cases c6:y340.length<140737488355328
   ·rw[if_pos c6]at H;have LMc6:=Aside0.mk c6;clear c6;obtain⟨y344,hy344⟩:∃y_:List Int,y_=(y340++[(a1)%256]):=⟨_,rfl⟩;replace H:(some (y344,true))=some (r1,r2):=by first|(rw[hy344];with_reducible exact H)|(have H2_:=(Option.bind_some _ _).symm.trans H;rw[hy344];with_reducible exact H2_)|(have H2_:=(Option.bind_some _ _).symm.trans H;with_reducible exact H2_)|with_reducible exact H|(rw[hy344];exact H)|exact H
    have Ny344:=Aside0.mk hy344;clear hy344;simp only[Option.some.injEq,Prod.mk.injEq]at H;obtain⟨rfl,rfl⟩:=H;go_enter Tryd.func67,Tryd.ntmps67
    go_wp2_with (first|((with_reducible refine gate_dst (N:=10) rfl ?_);refine Kd.R_lit (Kd.int .u8) _ 5 ?hg (N:=10) ?hd (xs:=([]:List Int)) (inner:=[]) (ok:=fun _=>True) (okp:=fun _=>True) ?hr ?hp (fun _ hk=>hk) trivial (Below.refl _ _) (Nat.le_refl _) (by simp) ?_;(case hd=>rfl);(case hg=>rfl);(case hr=>first|(go_simp;done)|(go_simp;rfl));(case hp=>exact(Reps.none _ _));intro v338 w7 ho8 hb hg_ hnew_;clear hg_ hnew_;(first|rw[←Ny337.out]at ho8|(simp only[Int.reduceToNat]at ho8;rw[←Ny337.out]at ho8));have HO339:=Aside0.mk (Kd.R_lower ho8 (below_size hb_));replace HB:=Aside0.mk (below_step hb_ hb);clear hb ho8)|((with_reducible refine gate_builtin (b:=.append) (xs:=#[.tmp 10,.tmp 11]) rfl ?_);at_builtin;refine Kd.R_append_rows (Kd.int .u8) (w0:=w) w.heap.size rfl (.tmp 10) (.tmp 11) 22 5 (.int .u8 0) 1 rfl Tryd.underlying22 info5 rfl (by decide) (by omega) v338 y337 l0 _ _ _ (fun _=>True) (fun _=>False) rfl rfl ?aO ?aR (fun _ _ h=>h) (fun _ h=>h.elim) ?aF ?aB ?aS ?aL ?_;(case aR=>exact kc_ (Kd.C_below HR0.out HB.out));(case aB=>exact hb_);(case aF=>exact(fun _ _=>trivial));(case aO=>exact(kr_ HO339));(case aS=>exact(below_size hb_));(case aL=>have:=LMc3.out;omega);intro v341 w9 ho hb hg hat;rw[←Ny340.out]at ho;replace HB:=Aside0.mk (hb);have HO342:=Aside0.mk (ho);clear HO339;clear ho hb hg hat)|((with_reducible refine gate_callee (f:=49) rfl ?_);refine goesL_ (some 14) rfl rfl Tryd.func49 (by kernel_rfl) rfl #[.int .i64 a1,.int .i64 0,.int .i64 127] rfl ka_ ?_;(with_reducible refine(spec_l1In.calls a1 0 127 true _ A4.out).mono ?_);rintro e w' ⟨rfl,⟨nd,rfl⟩⟩;refine⟨_,rfl,?_⟩)|((with_reducible refine gate_builtin (b:=.append) (xs:=#[.tmp 15,.tmp 18]) rfl ?_);at_builtin;refine Kd.R_append (Kd.int .u8) (w0:=w) w.heap.size rfl (.tmp 15) (.tmp 18) 22 5 (.int .u8 0) 1 rfl Tryd.underlying22 info5 rfl (by decide) (by omega) v341 y340 ((a1)%256) [.int .u8 ((a1)%256)] (fun _=>True) (fun _=>False) rfl rfl ?aP (fun _ hk=>hk.elim) ?aF ?aO ?aB ?aS ?aL ?_;(case aP=>exact rfl);(case aB=>exact hb_);(case aF=>exact(fun _ _=>trivial));(case aO=>exact(kr_ HO342));(case aS=>exact(below_size hb_));(case aL=>have:=LMc6.out;omega);intro v345 w10 ho hb hg hat;rw[←Ny344.out]at ho;replace HB:=Aside0.mk (hb);have HO346:=Aside0.mk (ho);clear HO342;clear ho hb hg hat))
    go_ret2
    exact⟨_,by first|rfl|(simp[errW_none,errW_some]<;>rfl)|(simp[*,errW_none,errW_some]<;>rfl),by(with_reducible repeat(first|apply Kd.R_alloc|apply Kd.R_drewN|apply Kd.R_drew));exact HO346.out,hb_⟩
   ·rw[if_neg c6]at H;exact absurd H (by simp)
  ·replace c5:=Bool.eq_false_iff.mpr c5;subst c5;rw[if_neg (show ¬(false=true) by decide)]at H;replace H:=Option.bind_eq_some_iff.mp H;obtain⟨⟨t347,t348,t349⟩,A110,H⟩:=H;try dsimp only at H
   have A11:=Aside0.mk A110;clear A110;by_cases c12:t349=true
   ·subst c12;rw[if_pos rfl]at H;obtain⟨y350,hy350⟩:∃y_:List Int,y_=(([(t347)%256,(t348)%256]:List Int)):=⟨_,rfl⟩;replace H:(if y340.length+y350.length<140737488355328 then(some ((y340++y350),true))else(none))=some (r1,r2):=by first|(rw[hy350];with_reducible exact H)|(have H2_:=(Option.bind_some _ _).symm.trans H;rw[hy350];with_reducible exact H2_)|(have H2_:=(Option.bind_some _ _).symm.trans H;with_reducible exact H2_)|with_reducible exact H|(rw[hy350];exact H)|exact H
    have Ny350:=Aside0.mk hy350;clear hy350;by_cases c13:y340.length+y350.length<140737488355328
    ·rw[if_pos c13]at H;have LMc13:=Aside0.mk c13;clear c13;obtain⟨y353,hy353⟩:∃y_:List Int,y_=(y340++y350):=⟨_,rfl⟩;replace H:(some (y353,true))=some (r1,r2):=by first|(rw[hy353];with_reducible exact H)|(have H2_:=(Option.bind_some _ _).symm.trans H;rw[hy353];with_reducible exact H2_)|(have H2_:=(Option.bind_some _ _).symm.trans H;with_reducible exact H2_)|with_reducible exact H|(rw[hy353];exact H)|exact H
     have Ny353:=Aside0.mk hy353;clear hy353;simp only[Option.some.injEq,Prod.mk.injEq]at H;obtain⟨rfl,rfl⟩:=H;go_enter Tryd.func67,Tryd.ntmps67
     go_wp2_with (first|((with_reducible refine gate_dst (N:=10) rfl ?_);refine Kd.R_lit (Kd.int .u8) _ 5 ?hg (N:=10) ?hd (xs:=([]:List Int)) (inner:=[]) (ok:=fun _=>True) (okp:=fun _=>True) ?hr ?hp (fun _ hk=>hk) trivial (Below.refl _ _) (Nat.le_refl _) (by simp) ?_;(case hd=>rfl);(case hg=>rfl);(case hr=>first|(go_simp;done)|(go_simp;rfl));(case hp=>exact(Reps.none _ _));intro v338 w14 ho15 hb hg_ hnew_;clear hg_ hnew_;(first|rw[←Ny337.out]at ho15|(simp only[Int.reduceToNat]at ho15;rw[←Ny337.out]at ho15));have HO339:=Aside0.mk (Kd.R_lower ho15 (below_size hb_));replace HB:=Aside0.mk (below_step hb_ hb);clear hb ho15)|((with_reducible refine gate_builtin (b:=.append) (xs:=#[.tmp 10,.tmp 11]) rfl ?_);at_builtin;refine Kd.R_append_rows (Kd.int .u8) (w0:=w) w.heap.size rfl (.tmp 10) (.tmp 11) 22 5 (.int .u8 0) 1 rfl Tryd.underlying22 info5 rfl (by decide) (by omega) v338 y337 l0 _ _ _ (fun _=>True) (fun _=>False) rfl rfl ?aO ?aR (fun _ _ h=>h) (fun _ h=>h.elim) ?aF ?aB ?aS ?aL ?_;(case aR=>exact kc_ (Kd.C_below HR0.out HB.out));(case aB=>exact hb_);(case aF=>exact(fun _ _=>trivial));(case aO=>exact(kr_ HO339));(case aS=>exact(below_size hb_));(case aL=>have:=LMc3.out;omega);intro v341 w16 ho hb hg hat;rw[←Ny340.out]at ho;replace HB:=Aside0.mk (hb);have HO342:=Aside0.mk (ho);clear HO339;clear ho hb hg hat)|((with_reducible refine gate_callee (f:=49) rfl ?_);refine goesL_ (some 14) rfl rfl Tryd.func49 (by kernel_rfl) rfl #[.int .i64 a1,.int .i64 0,.int .i64 127] rfl ka_ ?_;(with_reducible refine(spec_l1In.calls a1 0 127 false _ A4.out).mono ?_);rintro e w' ⟨rfl,⟨nd,rfl⟩⟩;refine⟨_,rfl,?_⟩)|((with_reducible refine gate_callee (f:=71) rfl ?_);refine goesL_ (some 22) rfl rfl Tryd.func71 (by kernel_rfl) rfl #[.int .i64 a1] rfl ka_ ?_;(with_reducible refine(spec_SignPair.calls a1 t347 t348 true _ A11.out).mono ?_);rintro e w' ⟨rfl,⟨nd,rfl⟩⟩;refine⟨_,rfl,?_⟩)|((with_reducible refine gate_dst (N:=34) rfl ?_);refine Kd.R_lit (Kd.int .u8) _ 5 ?hg (N:=34) ?hd (xs:=([(t347)%256,(t348)%256]:List Int)) (inner:=[.int .u8 ((t347)%256),.int .u8 ((t348)%256)]) (ok:=fun _=>True) (okp:=fun _=>True) ?hr ?hp (fun _ hk=>hk) trivial (Below.refl _ _) (Nat.le_refl _) (by simp) ?_;(case hd=>rfl);(case hg=>rfl);(case hr=>first|(go_simp;done)|(go_simp;rfl));(case hp=>exact rp_);intro v351 w17 ho18 hb hg_ hnew_;clear hg_ hnew_;(first|rw[←Ny350.out]at ho18|(simp only[Int.reduceToNat]at ho18;rw[←Ny350.out]at ho18));have HO352:=Aside0.mk (Kd.R_lower (Kd.R_new' ho18 (Kd.R_lt (kr_ HO342))) (below_size hb_));replace HO342:=Aside0.mk (Kd.R_elder' (kr_ HO342) (Kd.R_base ho18) hb);replace HB:=Aside0.mk (below_step hb_ hb);clear hb ho18;obtain⟨Ao20,co20,eo20⟩:=Kd.R_slice HO352.out;subst eo20)|((with_reducible refine gate_builtin (b:=.append) (xs:=#[.tmp 29,.tmp 34]) rfl ?_);at_builtin;refine Kd.R_append_rows (Kd.int .u8) (w0:=w) w.heap.size rfl (.tmp 29) (.tmp 34) 22 5 (.int .u8 0) 1 rfl Tryd.underlying22 info5 rfl (by decide) (by omega) v341 y340 y350 _ _ _ (fun k_=>some k_≠(.slice Ao20 y350.length co20:Value).ownBlock) (fun _=>False) rfl rfl ?aO ?aR (fun _ _ h=>h) (fun _ h=>h.elim) ?aF ?aB ?aS ?aL ?_;(case aR=>exact kc_ (Kd.R_reads' HO352.out).2.2);(case aB=>exact hb_);(case aF=>exact(fun k_ hk=>Kd.fresh' (Kd.R_lt (kr_ HO352)) k_ hk));(case aO=>exact(by(with_reducible repeat(first|apply Kd.R_alloc|apply Kd.R_drewN|apply Kd.R_drew));exact Kd.R_mono HO342.out (fun _ hk=>hk.2)));(case aS=>exact(below_size hb_));(case aL=>have:=LMc13.out;omega);intro v354 w19 ho hb hg hat;rw[←Ny353.out]at ho;replace HO352:=Aside0.mk (Kd.R_after (ok:=(fun _=>True)) (kr_ HO352) hg hat);replace HB:=Aside0.mk (hb);have HO355:=Aside0.mk (ho);clear HO342;clear ho hb hg hat))
     go_ret2
     exact⟨_,by first|rfl|(simp[errW_none,errW_some]<;>rfl)|(simp[*,errW_none,errW_some]<;>rfl),by(with_reducible repeat(first|apply Kd.R_alloc|apply Kd.R_drewN|apply Kd.R_drew));exact Kd.R_mono HO355.out (fun _ hk=>trivial),hb_⟩
    ·rw[if_neg c13]at H;exact absurd H (by simp)
   ·replace c12:=Bool.eq_false_iff.mpr c12;subst c12;rw[if_neg (show ¬(false=true) by decide)]at H;simp only[Option.some.injEq,Prod.mk.injEq]at H;obtain⟨rfl,rfl⟩:=H;go_enter Tryd.func67,Tryd.ntmps67
    go_wp2_with (first|((with_reducible refine gate_dst (N:=10) rfl ?_);refine Kd.R_lit (Kd.int .u8) _ 5 ?hg (N:=10) ?hd (xs:=([]:List Int)) (inner:=[]) (ok:=fun _=>True) (okp:=fun _=>True) ?hr ?hp (fun _ hk=>hk) trivial (Below.refl _ _) (Nat.le_refl _) (by simp) ?_;(case hd=>rfl);(case hg=>rfl);(case hr=>first|(go_simp;done)|(go_simp;rfl));(case hp=>exact(Reps.none _ _));intro v338 w21 ho22 hb hg_ hnew_;clear hg_ hnew_;(first|rw[←Ny337.out]at ho22|(simp only[Int.reduceToNat]at ho22;rw[←Ny337.out]at ho22));have HO339:=Aside0.mk (Kd.R_lower ho22 (below_size hb_));replace HB:=Aside0.mk (below_step hb_ hb);clear hb ho22)|((with_reducible refine gate_builtin (b:=.append) (xs:=#[.tmp 10,.tmp 11]) rfl ?_);at_builtin;refine Kd.R_append_rows (Kd.int .u8) (w0:=w) w.heap.size rfl (.tmp 10) (.tmp 11) 22 5 (.int .u8 0) 1 rfl Tryd.underlying22 info5 rfl (by decide) (by omega) v338 y337 l0 _ _ _ (fun _=>True) (fun _=>False) rfl rfl ?aO ?aR (fun _ _ h=>h) (fun _ h=>h.elim) ?aF ?aB ?aS ?aL ?_;(case aR=>exact kc_ (Kd.C_below HR0.out HB.out));(case aB=>exact hb_);(case aF=>exact(fun _ _=>trivial));(case aO=>exact(kr_ HO339));(case aS=>exact(below_size hb_));(case aL=>have:=LMc3.out;omega);intro v341 w23 ho hb hg hat;rw[←Ny340.out]at ho;replace HB:=Aside0.mk (hb);have HO342:=Aside0.mk (ho);clear HO339;clear ho hb hg hat)|((with_reducible refine gate_callee (f:=49) rfl ?_);refine goesL_ (some 14) rfl rfl Tryd.func49 (by kernel_rfl) rfl #[.int .i64 a1,.int .i64 0,.int .i64 127] rfl ka_ ?_;(with_reducible refine(spec_l1In.calls a1 0 127 false _ A4.out).mono ?_);rintro e w' ⟨rfl,⟨nd,rfl⟩⟩;refine⟨_,rfl,?_⟩)|((with_reducible refine gate_callee (f:=71) rfl ?_);refine goesL_ (some 22) rfl rfl Tryd.func71 (by kernel_rfl) rfl #[.int .i64 a1] rfl ka_ ?_;(with_reducible refine(spec_SignPair.calls a1 t347 t348 false _ A11.out).mono ?_);rintro e w' ⟨rfl,⟨nd,rfl⟩⟩;refine⟨_,rfl,?_⟩))
    go_ret2
    exact⟨_,by first|rfl|(simp[errW_none,errW_some]<;>rfl)|(simp[*,errW_none,errW_some]<;>rfl),by(with_reducible repeat(first|apply Kd.R_alloc|apply Kd.R_drewN|apply Kd.R_drew));exact HO342.out,hb_⟩
 ·rw[if_neg c3]at H;exact absurd H (by simp)
def spec_SignByte.l0:Nat→Int→Int→Int→Option (Int×Bool)
 |0,_,_,_=>none
 |k+1,x0,x1,x6=>if x6<256 then((spec_ByteSign.f k x0 x6).bind fun bt356=>(if bt356.2=true then(if bt356.1=x1 then(some (x6,true))else(spec_SignByte.l0 k x0 x1 (wrap64 (x6+1))))else(spec_SignByte.l0 k x0 x1 (wrap64 (x6+1)))))else(some (0,false))
def spec_SignByte.f (k:Nat) (a0:Int) (a1:Int):Option (Int×Bool):=spec_SignByte.l0 k a0 a1 0
theorem spec_SignByte.mono_l:∀k,(∀y0 y1 y2,LeO (spec_SignByte.l0 k y0 y1 y2) (spec_SignByte.l0 (k+1) y0 y1 y2))
 |0=>fun _ _ _ r h=>by simp[spec_SignByte.l0]at h
 |k+1=>by
  have ih0:=spec_SignByte.mono_l k
  ·intro y0 y1 y2;unfold spec_SignByte.l0
   repeat' first
   |(with_reducible exact ih0 _ _ _)
   |(with_reducible exact spec_ByteSign.mono _ _ _)
   |(with_reducible exact LeO.refl _)
   |(with_reducible exact LeO.none _)
   |(with_reducible refine LeO.ite ?_ ?_)
   |(with_reducible refine LeO.bind ?_ (fun _=>?_))
   |exact ih0 _ _ _
   |exact spec_ByteSign.mono _ _ _
   |exact LeO.none _
   |refine LeO.ite ?_ ?_
   |refine LeO.bind ?_ (fun _=>?_)
theorem spec_SignByte.mono:∀a0 a1 k,LeO (spec_SignByte.f k a0 a1) (spec_SignByte.f (k+1) a0 a1):=by
 intro a0 a1 k;have ih0:=spec_SignByte.mono_l k;unfold spec_SignByte.f
 repeat' first
   |(with_reducible exact ih0 _ _ _)
   |(with_reducible exact spec_ByteSign.mono _ _ _)
   |(with_reducible exact LeO.refl _)
   |(with_reducible exact LeO.none _)
   |(with_reducible refine LeO.ite ?_ ?_)
   |(with_reducible refine LeO.bind ?_ (fun _=>?_))
   |exact ih0 _ _ _
   |exact spec_ByteSign.mono _ _ _
   |exact LeO.none _
   |refine LeO.ite ?_ ?_
   |refine LeO.bind ?_ (fun _=>?_)
set_option maxHeartbeats 8000000 in
set_option maxRecDepth 100000 in
theorem spec_SignByte.calls (k:Nat) (a0:Int) (a1:Int) (r1:Int) (r2:Bool) (w:World) (h:spec_SignByte.f k a0 a1=some (r1,r2)):
  Calls Tryd.prog 68 #[.int .i64 a0,.int .i64 a1] w fun e w'=>e= .returned (.tuple #[.int .i64 r1,.bool r2])∧Below w.heap.size w w':=by
 have HB:=Aside0.mk (Below.refl w.heap.size w);have H:(spec_SignByte.l0 k a0 a1 0)=some (r1,r2):=h;clear h;have H':=Aside0.mk H;clear H;go_enter Tryd.func68,Tryd.ntmps68
 go_wp2
 go_loopg [6] k (fun kq v6 w'=>∃(x6_1:Int),v6= .int .i64 x6_1∧Aside0 (spec_SignByte.l0 kq a0 a1 x6_1=some (r1,r2))∧Aside0 (kq≤k)∧Aside0 (Below w.heap.size w w'))
 case atStart=>exact⟨(0),(by first|rfl|(simp;done)|(simp[*];done)),H',⟨Nat.le_refl _⟩,⟨by repeat(first|(with_reducible first|exact HB.out|apply below_alloc|apply pw_below_drewN|apply below_drew1)|exact HB.out)⟩⟩
 case round=>
  clear H';try clear p2
  obtain⟨x6_1,rfl,HA,HK1,HB⟩:=hrel
  cases gk with
  |zero=>exact absurd HA.out (by simp[spec_SignByte.l0])
  |succ k1=>
   have H:=HA.out;clear HA;simp only[spec_SignByte.l0]at H;by_cases c3:x6_1<256
   ·rw[if_pos c3]at H;have c3b0:decide (x6_1<256)=true:=decide_eq_true c3;clear c3;replace H:=Option.bind_eq_some_iff.mp H;obtain⟨⟨t356,t357⟩,A40,H⟩:=H;try dsimp only at H
    have A4:=Aside0.mk A40;clear A40;by_cases c5:t357=true
    ·subst c5;rw[if_pos rfl]at H;by_cases c6:t356=a1
     ·rw[if_pos c6]at H;have c6b0:(t356==a1)=true:=beq_iff_eq.mpr c6;have c6b1:(t356 != a1)=false:=bne_eq_false_iff_eq.mpr c6;clear c6;simp only[Option.some.injEq,Prod.mk.injEq]at H;obtain⟨rfl,rfl⟩:=H;go_wp2_with (first|((with_reducible refine gate_callee (f:=46) rfl ?_);refine goesL_ (some 16) rfl rfl Tryd.func46 (by kernel_rfl) rfl #[.int .i64 a0,.int .i64 x6_1] rfl ka_ ?_;(with_reducible refine(spec_ByteSign.calls k1 a0 x6_1 t356 true _ A4.out).mono ?_);rintro e w7 ⟨rfl,hb⟩;refine⟨_,rfl,?_⟩;replace HB:=Aside0.mk (below_step hb_ hb);try clear hb))
      go_ret2
      exact⟨rf_,hb_⟩
     ·rw[if_neg c6]at H;have c6b0:(t356==a1)=false:=beq_eq_false_iff_ne.mpr c6;have c6b1:(t356 != a1)=true:=bne_iff_ne.mpr c6;have H':=Aside0.mk H;clear H;go_wp2_with (first|((with_reducible refine gate_callee (f:=46) rfl ?_);refine goesL_ (some 16) rfl rfl Tryd.func46 (by kernel_rfl) rfl #[.int .i64 a0,.int .i64 x6_1] rfl ka_ ?_;(with_reducible refine(spec_ByteSign.calls k1 a0 x6_1 t356 true _ A4.out).mono ?_);rintro e w8 ⟨rfl,hb⟩;refine⟨_,rfl,?_⟩;replace HB:=Aside0.mk (below_step hb_ hb);try clear hb))
      go_roundg k1
      case measure=>have:=HK1.out;omega
      case rel=>exact⟨(wrap64 (x6_1+1)),(by first|rfl|(simp;done)|(simp[*];done)),H',⟨by have:=HK1.out;omega⟩,⟨by repeat(first|(with_reducible first|exact HB.out|apply below_alloc|apply pw_below_drewN|apply below_drew1)|exact HB.out)⟩⟩
    ·replace c5:=Bool.eq_false_iff.mpr c5;subst c5;rw[if_neg (show ¬(false=true) by decide)]at H;have H':=Aside0.mk H;clear H;go_wp2_with (first|((with_reducible refine gate_callee (f:=46) rfl ?_);refine goesL_ (some 16) rfl rfl Tryd.func46 (by kernel_rfl) rfl #[.int .i64 a0,.int .i64 x6_1] rfl ka_ ?_;(with_reducible refine(spec_ByteSign.calls k1 a0 x6_1 t356 false _ A4.out).mono ?_);rintro e w9 ⟨rfl,hb⟩;refine⟨_,rfl,?_⟩;replace HB:=Aside0.mk (below_step hb_ hb);try clear hb))
     go_roundg k1
     case measure=>have:=HK1.out;omega
     case rel=>exact⟨(wrap64 (x6_1+1)),(by first|rfl|(simp;done)|(simp[*];done)),H',⟨by have:=HK1.out;omega⟩,⟨by repeat(first|(with_reducible first|exact HB.out|apply below_alloc|apply pw_below_drewN|apply below_drew1)|exact HB.out)⟩⟩
   ·rw[if_neg c3]at H;have c3b0:decide (x6_1<256)=false:=decide_eq_false c3;clear c3;simp only[Option.some.injEq,Prod.mk.injEq]at H;obtain⟨rfl,rfl⟩:=H;go_wp2
    go_ret2
    exact⟨rf_,hb_⟩
def spec_l5Put.f (k:Nat) (a0:Int) (l1:List Int) (a2:Int):Option (List Int×Bool):=if a0=0 then((spec_PutSign.f l1 a2).bind fun t358=>((spec_SignOk.f a2).bind fun t361=>(some (t358,t361))))else(if a0=5 then((spec_PutEuc.f l1 a2).bind fun bt362=>(some (bt362.1,bt362.2)))else((spec_SignByte.f k a0 a2).bind fun bt366=>(if bt366.2=true then((some (([]:List Int):List Int)).bind fun y368=>(if y368.length+l1.length<140737488355328 then((some (y368++l1:List Int)).bind fun y371=>(if y371.length<140737488355328 then(some ((y371++[(bt366.1)%256]),true))else(none)))else(none)))else((some (([]:List Int):List Int)).bind fun y377=>(if y377.length+l1.length<140737488355328 then(some ((y377++l1),false))else(none))))))
theorem spec_l5Put.mono:∀a0 a1 a2 k,LeO (spec_l5Put.f k a0 a1 a2) (spec_l5Put.f (k+1) a0 a1 a2):=by
 intro a0 a1 a2 k;unfold spec_l5Put.f
 repeat' first
   |(with_reducible exact spec_SignByte.mono _ _ _)
   |(with_reducible exact LeO.refl _)
   |(with_reducible exact LeO.none _)
   |(with_reducible refine LeO.ite ?_ ?_)
   |(with_reducible refine LeO.bind ?_ (fun _=>?_))
   |exact spec_SignByte.mono _ _ _
   |exact LeO.none _
   |refine LeO.ite ?_ ?_
   |refine LeO.bind ?_ (fun _=>?_)
set_option maxHeartbeats 8000000 in
set_option maxRecDepth 100000 in
theorem spec_l5Put.calls (k:Nat) (a0:Int) (A1:Option Addr) (c1:Nat) (l1:List Int) (a2:Int) (r1:List Int) (r2:Bool) (w:World) (hr1:Kd.C (Kd.int .u8) w A1 l1.length l1) (hc1:l1.length≤c1) (h:spec_l5Put.f k a0 l1 a2=some (r1,r2)):
  Calls Tryd.prog 54 #[.int .i64 a0,.slice A1 l1.length c1,.int .i64 a2] w fun e w'=>∃v0_:Value,e= .returned (.tuple #[v0_,.bool r2])∧Kd.R (Kd.int .u8) 5 w' w.heap.size (fun _=>True) v0_ r1∧Below w.heap.size w w':=by
 have HR1:=Aside0.mk hr1;have HC1:=Aside0.mk hc1;clear hr1 hc1;have HB:=Aside0.mk (Below.refl w.heap.size w);have H:(if a0=0 then((spec_PutSign.f l1 a2).bind fun t358=>((spec_SignOk.f a2).bind fun t361=>(some (t358,t361))))else(if a0=5 then((spec_PutEuc.f l1 a2).bind fun bt362=>(some (bt362.1,bt362.2)))else((spec_SignByte.f k a0 a2).bind fun bt366=>(if bt366.2=true then((some (([]:List Int):List Int)).bind fun y368=>(if y368.length+l1.length<140737488355328 then((some (y368++l1:List Int)).bind fun y371=>(if y371.length<140737488355328 then(some ((y371++[(bt366.1)%256]),true))else(none)))else(none)))else((some (([]:List Int):List Int)).bind fun y377=>(if y377.length+l1.length<140737488355328 then(some ((y377++l1),false))else(none)))))))=some (r1,r2):=h;clear h;by_cases c4:a0=0
 ·rw[if_pos c4]at H;have c4b0:(a0==0)=true:=beq_iff_eq.mpr c4;have c4b1:(a0 != 0)=false:=bne_eq_false_iff_eq.mpr c4;clear c4;replace H:=Option.bind_eq_some_iff.mp H;obtain⟨t358,A50,H⟩:=H;try dsimp only at H
  have A5:=Aside0.mk A50;clear A50;replace H:=Option.bind_eq_some_iff.mp H;obtain⟨t361,A60,H⟩:=H;try dsimp only at H
  have A6:=Aside0.mk A60;clear A60;simp only[Option.some.injEq,Prod.mk.injEq]at H;obtain⟨rfl,rfl⟩:=H;go_enter Tryd.func54,Tryd.ntmps54
  go_wp2_with (first|((with_reducible refine gate_callee (f:=24) rfl ?_);refine goesL_ (some 15) rfl rfl Tryd.func24 (by kernel_rfl) rfl #[.slice A1 l1.length c1,.int .i64 a2] rfl ka_ ?_;(with_reducible refine(spec_PutSign.calls _ _ l1 a2 t358 _ ?side1 ?side2 A5.out).mono ?_);(case side1=>exact kc_ HR1.out);(case side2=>exact HC1.out);rintro e w7 ⟨v359,rfl,ho0,hb⟩;refine⟨_,rfl,?_⟩;have HO360:=Aside0.mk (Kd.R_lower ho0 (below_size hb_));replace HB:=Aside0.mk (below_step hb_ hb);try clear hb;(try clear ho0))|((with_reducible refine gate_callee (f:=47) rfl ?_);refine goesL_ (some 17) rfl rfl Tryd.func47 (by kernel_rfl) rfl #[.int .i64 a2] rfl ka_ ?_;(with_reducible refine(spec_SignOk.calls a2 t361 _ A6.out).mono ?_);rintro e w' ⟨rfl,⟨nd,rfl⟩⟩;refine⟨_,rfl,?_⟩))
  go_ret2
  exact⟨_,by first|rfl|(simp[errW_none,errW_some]<;>rfl)|(simp[*,errW_none,errW_some]<;>rfl),by(with_reducible repeat(first|apply Kd.R_alloc|apply Kd.R_drewN|apply Kd.R_drew));exact HO360.out,hb_⟩
 ·rw[if_neg c4]at H;have c4b0:(a0==0)=false:=beq_eq_false_iff_ne.mpr c4;have c4b1:(a0 != 0)=true:=bne_iff_ne.mpr c4;by_cases c8:a0=5
  ·rw[if_pos c8]at H;have c8b0:(a0==5)=true:=beq_iff_eq.mpr c8;have c8b1:(a0 != 5)=false:=bne_eq_false_iff_eq.mpr c8;clear c8;replace H:=Option.bind_eq_some_iff.mp H;obtain⟨⟨t362,t363⟩,A90,H⟩:=H;try dsimp only at H
   have A9:=Aside0.mk A90;clear A90;simp only[Option.some.injEq,Prod.mk.injEq]at H;obtain⟨rfl,rfl⟩:=H;go_enter Tryd.func54,Tryd.ntmps54
   go_wp2_with (first|((with_reducible refine gate_callee (f:=67) rfl ?_);refine goesL_ (some 22) rfl rfl Tryd.func67 (by kernel_rfl) rfl #[.slice A1 l1.length c1,.int .i64 a2] rfl ka_ ?_;(with_reducible refine(spec_PutEuc.calls _ _ l1 a2 t362 t363 _ ?side1 ?side2 A9.out).mono ?_);(case side1=>exact kc_ HR1.out);(case side2=>exact HC1.out);rintro e w10 ⟨v364,rfl,ho0,hb⟩;refine⟨_,rfl,?_⟩;have HO365:=Aside0.mk (Kd.R_lower ho0 (below_size hb_));replace HB:=Aside0.mk (below_step hb_ hb);try clear hb;(try clear ho0)))
   go_ret2
   exact⟨_,by first|rfl|(simp[errW_none,errW_some]<;>rfl)|(simp[*,errW_none,errW_some]<;>rfl),by(with_reducible repeat(first|apply Kd.R_alloc|apply Kd.R_drewN|apply Kd.R_drew));exact HO365.out,hb_⟩
  ·rw[if_neg c8]at H;have c8b0:(a0==5)=false:=beq_eq_false_iff_ne.mpr c8;have c8b1:(a0 != 5)=true:=bne_iff_ne.mpr c8;replace H:=Option.bind_eq_some_iff.mp H;obtain⟨⟨t366,t367⟩,A110,H⟩:=H;try dsimp only at H
   have A11:=Aside0.mk A110;clear A110;by_cases c12:t367=true
   ·subst c12;rw[if_pos rfl]at H;obtain⟨y368,hy368⟩:∃y_:List Int,y_=(([]:List Int)):=⟨_,rfl⟩;replace H:(if y368.length+l1.length<140737488355328 then((some (y368++l1:List Int)).bind fun y371=>(if y371.length<140737488355328 then(some ((y371++[(t366)%256]),true))else(none)))else(none))=some (r1,r2):=by first|(rw[hy368];with_reducible exact H)|(have H2_:=(Option.bind_some _ _).symm.trans H;rw[hy368];with_reducible exact H2_)|(have H2_:=(Option.bind_some _ _).symm.trans H;with_reducible exact H2_)|with_reducible exact H|(rw[hy368];exact H)|exact H
    have Ny368:=Aside0.mk hy368;clear hy368;by_cases c13:y368.length+l1.length<140737488355328
    ·rw[if_pos c13]at H;have LMc13:=Aside0.mk c13;clear c13;obtain⟨y371,hy371⟩:∃y_:List Int,y_=(y368++l1):=⟨_,rfl⟩;replace H:(if y371.length<140737488355328 then(some ((y371++[(t366)%256]),true))else(none))=some (r1,r2):=by first|(rw[hy371];with_reducible exact H)|(have H2_:=(Option.bind_some _ _).symm.trans H;rw[hy371];with_reducible exact H2_)|(have H2_:=(Option.bind_some _ _).symm.trans H;with_reducible exact H2_)|with_reducible exact H|(rw[hy371];exact H)|exact H
     have Ny371:=Aside0.mk hy371;clear hy371;by_cases c14:y371.length<140737488355328
     ·rw[if_pos c14]at H;have LMc14:=Aside0.mk c14;clear c14;obtain⟨y374,hy374⟩:∃y_:List Int,y_=(y371++[(t366)%256]):=⟨_,rfl⟩;replace H:(some (y374,true))=some (r1,r2):=by first|(rw[hy374];with_reducible exact H)|(have H2_:=(Option.bind_some _ _).symm.trans H;rw[hy374];with_reducible exact H2_)|(have H2_:=(Option.bind_some _ _).symm.trans H;with_reducible exact H2_)|with_reducible exact H|(rw[hy374];exact H)|exact H
      have Ny374:=Aside0.mk hy374;clear hy374;simp only[Option.some.injEq,Prod.mk.injEq]at H;obtain⟨rfl,rfl⟩:=H;go_enter Tryd.func54,Tryd.ntmps54
      go_wp2_with (first|((with_reducible refine gate_callee (f:=68) rfl ?_);refine goesL_ (some 28) rfl rfl Tryd.func68 (by kernel_rfl) rfl #[.int .i64 a0,.int .i64 a2] rfl ka_ ?_;(with_reducible refine(spec_SignByte.calls k a0 a2 t366 true _ A11.out).mono ?_);rintro e w15 ⟨rfl,hb⟩;refine⟨_,rfl,?_⟩;replace HB:=Aside0.mk (below_step hb_ hb);try clear hb)|((with_reducible refine gate_dst (N:=36) rfl ?_);refine Kd.R_lit (Kd.int .u8) _ 5 ?hg (N:=36) ?hd (xs:=([]:List Int)) (inner:=[]) (ok:=fun _=>True) (okp:=fun _=>True) ?hr ?hp (fun _ hk=>hk) trivial (Below.refl _ _) (Nat.le_refl _) (by simp) ?_;(case hd=>rfl);(case hg=>rfl);(case hr=>first|(go_simp;done)|(go_simp;rfl));(case hp=>exact(Reps.none _ _));intro v369 w16 ho17 hb hg_ hnew_;clear hg_ hnew_;(first|rw[←Ny368.out]at ho17|(simp only[Int.reduceToNat]at ho17;rw[←Ny368.out]at ho17));have HO370:=Aside0.mk (Kd.R_lower ho17 (below_size hb_));replace HB:=Aside0.mk (below_step hb_ hb);clear hb ho17)|((with_reducible refine gate_builtin (b:=.append) (xs:=#[.tmp 36,.tmp 37]) rfl ?_);at_builtin;refine Kd.R_append_rows (Kd.int .u8) (w0:=w) w.heap.size rfl (.tmp 36) (.tmp 37) 22 5 (.int .u8 0) 1 rfl Tryd.underlying22 info5 rfl (by decide) (by omega) v369 y368 l1 _ _ _ (fun _=>True) (fun _=>False) rfl rfl ?aO ?aR (fun _ _ h=>h) (fun _ h=>h.elim) ?aF ?aB ?aS ?aL ?_;(case aR=>exact kc_ (Kd.C_below HR1.out HB.out));(case aB=>exact hb_);(case aF=>exact(fun _ _=>trivial));(case aO=>exact(kr_ HO370));(case aS=>exact(below_size hb_));(case aL=>have:=LMc13.out;omega);intro v372 w18 ho hb hg hat;rw[←Ny371.out]at ho;replace HB:=Aside0.mk (hb);have HO373:=Aside0.mk (ho);clear HO370;clear ho hb hg hat)|((with_reducible refine gate_builtin (b:=.append) (xs:=#[.tmp 38,.tmp 41]) rfl ?_);at_builtin;refine Kd.R_append (Kd.int .u8) (w0:=w) w.heap.size rfl (.tmp 38) (.tmp 41) 22 5 (.int .u8 0) 1 rfl Tryd.underlying22 info5 rfl (by decide) (by omega) v372 y371 ((t366)%256) [.int .u8 ((t366)%256)] (fun _=>True) (fun _=>False) rfl rfl ?aP (fun _ hk=>hk.elim) ?aF ?aO ?aB ?aS ?aL ?_;(case aP=>exact rfl);(case aB=>exact hb_);(case aF=>exact(fun _ _=>trivial));(case aO=>exact(kr_ HO373));(case aS=>exact(below_size hb_));(case aL=>have:=LMc14.out;omega);intro v375 w19 ho hb hg hat;rw[←Ny374.out]at ho;replace HB:=Aside0.mk (hb);have HO376:=Aside0.mk (ho);clear HO373;clear ho hb hg hat))
      go_ret2
      exact⟨_,by first|rfl|(simp[errW_none,errW_some]<;>rfl)|(simp[*,errW_none,errW_some]<;>rfl),by(with_reducible repeat(first|apply Kd.R_alloc|apply Kd.R_drewN|apply Kd.R_drew));exact HO376.out,hb_⟩
     ·rw[if_neg c14]at H;exact absurd H (by simp)
    ·rw[if_neg c13]at H;exact absurd H (by simp)
   ·replace c12:=Bool.eq_false_iff.mpr c12;subst c12;rw[if_neg (show ¬(false=true) by decide)]at H;obtain⟨y377,hy377⟩:∃y_:List Int,y_=(([]:List Int)):=⟨_,rfl⟩;replace H:(if y377.length+l1.length<140737488355328 then(some ((y377++l1),false))else(none))=some (r1,r2):=by first|(rw[hy377];with_reducible exact H)|(have H2_:=(Option.bind_some _ _).symm.trans H;rw[hy377];with_reducible exact H2_)|(have H2_:=(Option.bind_some _ _).symm.trans H;with_reducible exact H2_)|with_reducible exact H|(rw[hy377];exact H)|exact H
    have Ny377:=Aside0.mk hy377;clear hy377;by_cases c20:y377.length+l1.length<140737488355328
    ·rw[if_pos c20]at H;have LMc20:=Aside0.mk c20;clear c20;obtain⟨y380,hy380⟩:∃y_:List Int,y_=(y377++l1):=⟨_,rfl⟩;replace H:(some (y380,false))=some (r1,r2):=by first|(rw[hy380];with_reducible exact H)|(have H2_:=(Option.bind_some _ _).symm.trans H;rw[hy380];with_reducible exact H2_)|(have H2_:=(Option.bind_some _ _).symm.trans H;with_reducible exact H2_)|with_reducible exact H|(rw[hy380];exact H)|exact H
     have Ny380:=Aside0.mk hy380;clear hy380;simp only[Option.some.injEq,Prod.mk.injEq]at H;obtain⟨rfl,rfl⟩:=H;go_enter Tryd.func54,Tryd.ntmps54
     go_wp2_with (first|((with_reducible refine gate_callee (f:=68) rfl ?_);refine goesL_ (some 28) rfl rfl Tryd.func68 (by kernel_rfl) rfl #[.int .i64 a0,.int .i64 a2] rfl ka_ ?_;(with_reducible refine(spec_SignByte.calls k a0 a2 t366 false _ A11.out).mono ?_);rintro e w21 ⟨rfl,hb⟩;refine⟨_,rfl,?_⟩;replace HB:=Aside0.mk (below_step hb_ hb);try clear hb)|((with_reducible refine gate_dst (N:=33) rfl ?_);refine Kd.R_lit (Kd.int .u8) _ 5 ?hg (N:=33) ?hd (xs:=([]:List Int)) (inner:=[]) (ok:=fun _=>True) (okp:=fun _=>True) ?hr ?hp (fun _ hk=>hk) trivial (Below.refl _ _) (Nat.le_refl _) (by simp) ?_;(case hd=>rfl);(case hg=>rfl);(case hr=>first|(go_simp;done)|(go_simp;rfl));(case hp=>exact(Reps.none _ _));intro v378 w22 ho23 hb hg_ hnew_;clear hg_ hnew_;(first|rw[←Ny377.out]at ho23|(simp only[Int.reduceToNat]at ho23;rw[←Ny377.out]at ho23));have HO379:=Aside0.mk (Kd.R_lower ho23 (below_size hb_));replace HB:=Aside0.mk (below_step hb_ hb);clear hb ho23)|((with_reducible refine gate_builtin (b:=.append) (xs:=#[.tmp 33,.tmp 34]) rfl ?_);at_builtin;refine Kd.R_append_rows (Kd.int .u8) (w0:=w) w.heap.size rfl (.tmp 33) (.tmp 34) 22 5 (.int .u8 0) 1 rfl Tryd.underlying22 info5 rfl (by decide) (by omega) v378 y377 l1 _ _ _ (fun _=>True) (fun _=>False) rfl rfl ?aO ?aR (fun _ _ h=>h) (fun _ h=>h.elim) ?aF ?aB ?aS ?aL ?_;(case aR=>exact kc_ (Kd.C_below HR1.out HB.out));(case aB=>exact hb_);(case aF=>exact(fun _ _=>trivial));(case aO=>exact(kr_ HO379));(case aS=>exact(below_size hb_));(case aL=>have:=LMc20.out;omega);intro v381 w24 ho hb hg hat;rw[←Ny380.out]at ho;replace HB:=Aside0.mk (hb);have HO382:=Aside0.mk (ho);clear HO379;clear ho hb hg hat))
     go_ret2
     exact⟨_,by first|rfl|(simp[errW_none,errW_some]<;>rfl)|(simp[*,errW_none,errW_some]<;>rfl),by(with_reducible repeat(first|apply Kd.R_alloc|apply Kd.R_drewN|apply Kd.R_drew));exact HO382.out,hb_⟩
    ·rw[if_neg c20]at H;exact absurd H (by simp)
mutual
def spec_Encode.j0:Nat→Int→List Int→List Int→Bool→Option (List Int×Bool)
 |0,_,_,_,_=>none
 |k+1,x0,x6,x7,x24=>if x24=true then(some (x6,false))else(spec_Encode.l0 k x0 x6 x7 0)
def spec_Encode.l0:Nat→Int→List Int→List Int→Int→Option (List Int×Bool)
 |0,_,_,_,_=>none
 |k+1,x0,x6,x7,x9=>if x9<(x7.length:Int)then(if 0≤x9 then((spec_l5Put.f k x0 x6 (rd x7 x9)).bind fun bt392=>(if bt392.2=true then(spec_Encode.l0 k x0 bt392.1 x7 (wrap64 (x9+1)))else(some ((([]:List Int)),false))))else(none))else(some (x6,true))
end
def spec_Encode.f (k:Nat) (a0:Int) (a1:ByteArray):Option (List Int×Bool):=(some (([]:List Int):List Int)).bind fun y383=>((spec_Signs.f k a1).bind fun bt386=>((spec_l5Cs.f a0).bind fun t390=>(if t390=true then(spec_Encode.j0 k a0 y383 bt386.1 (!bt386.2))else(spec_Encode.j0 k a0 y383 bt386.1 true))))
theorem spec_Encode.mono_l:∀k,(∀y0 y1 y2 y3,LeO (spec_Encode.j0 k y0 y1 y2 y3) (spec_Encode.j0 (k+1) y0 y1 y2 y3))∧(∀y0 y1 y2 y3,LeO (spec_Encode.l0 k y0 y1 y2 y3) (spec_Encode.l0 (k+1) y0 y1 y2 y3))
 |0=>⟨fun _ _ _ _ r h=>by simp[spec_Encode.j0]at h,fun _ _ _ _ r h=>by simp[spec_Encode.l0]at h⟩
 |k+1=>by
  obtain⟨ih0,ih1⟩:=spec_Encode.mono_l k;refine⟨?_,?_⟩
  ·intro y0 y1 y2 y3;unfold spec_Encode.j0
   repeat' first
   |(with_reducible exact ih0 _ _ _ _)
   |(with_reducible exact ih1 _ _ _ _)
   |(with_reducible exact spec_Signs.mono _ _)
   |(with_reducible exact spec_l5Put.mono _ _ _ _)
   |(with_reducible exact LeO.refl _)
   |(with_reducible exact LeO.none _)
   |(with_reducible refine LeO.ite ?_ ?_)
   |(with_reducible refine LeO.bind ?_ (fun _=>?_))
   |exact ih0 _ _ _ _
   |exact ih1 _ _ _ _
   |exact spec_Signs.mono _ _
   |exact spec_l5Put.mono _ _ _ _
   |exact LeO.none _
   |refine LeO.ite ?_ ?_
   |refine LeO.bind ?_ (fun _=>?_)
  ·intro y0 y1 y2 y3;unfold spec_Encode.l0
   repeat' first
   |(with_reducible exact ih0 _ _ _ _)
   |(with_reducible exact ih1 _ _ _ _)
   |(with_reducible exact spec_Signs.mono _ _)
   |(with_reducible exact spec_l5Put.mono _ _ _ _)
   |(with_reducible exact LeO.refl _)
   |(with_reducible exact LeO.none _)
   |(with_reducible refine LeO.ite ?_ ?_)
   |(with_reducible refine LeO.bind ?_ (fun _=>?_))
   |exact ih0 _ _ _ _
   |exact ih1 _ _ _ _
   |exact spec_Signs.mono _ _
   |exact spec_l5Put.mono _ _ _ _
   |exact LeO.none _
   |refine LeO.ite ?_ ?_
   |refine LeO.bind ?_ (fun _=>?_)
theorem spec_Encode.mono:∀a0 a1 k,LeO (spec_Encode.f k a0 a1) (spec_Encode.f (k+1) a0 a1):=by
 intro a0 a1 k;obtain⟨ih0,ih1⟩:=spec_Encode.mono_l k;unfold spec_Encode.f
 repeat' first
   |(with_reducible exact ih0 _ _ _ _)
   |(with_reducible exact ih1 _ _ _ _)
   |(with_reducible exact spec_Signs.mono _ _)
   |(with_reducible exact spec_l5Put.mono _ _ _ _)
   |(with_reducible exact LeO.refl _)
   |(with_reducible exact LeO.none _)
   |(with_reducible refine LeO.ite ?_ ?_)
   |(with_reducible refine LeO.bind ?_ (fun _=>?_))
   |exact ih0 _ _ _ _
   |exact ih1 _ _ _ _
   |exact spec_Signs.mono _ _
   |exact spec_l5Put.mono _ _ _ _
   |exact LeO.none _
   |refine LeO.ite ?_ ?_
   |refine LeO.bind ?_ (fun _=>?_)
set_option maxHeartbeats 8000000 in
set_option maxRecDepth 100000 in
theorem spec_Encode.calls (k:Nat) (a0:Int) (a1:ByteArray) (r1:List Int) (r2:Bool) (w:World) (h:spec_Encode.f k a0 a1=some (r1,r2)):
  Calls Tryd.prog 33 #[.int .i64 a0,.string a1] w fun e w'=>∃v0_:Value,e= .returned (.tuple #[v0_,.bool r2])∧Kd.R (Kd.int .u8) 5 w' w.heap.size (fun _=>True) v0_ r1∧Below w.heap.size w w':=by
 have HB:=Aside0.mk (Below.refl w.heap.size w);have H:((some (([]:List Int):List Int)).bind fun y383=>((spec_Signs.f k a1).bind fun bt386=>((spec_l5Cs.f a0).bind fun t390=>(if t390=true then(spec_Encode.j0 k a0 y383 bt386.1 (!bt386.2))else(spec_Encode.j0 k a0 y383 bt386.1 true)))))=some (r1,r2):=h;clear h;obtain⟨y383,hy383⟩:∃y_:List Int,y_=(([]:List Int)):=⟨_,rfl⟩;replace H:((spec_Signs.f k a1).bind fun bt386=>((spec_l5Cs.f a0).bind fun t390=>(if t390=true then(spec_Encode.j0 k a0 y383 bt386.1 (!bt386.2))else(spec_Encode.j0 k a0 y383 bt386.1 true))))=some (r1,r2):=by first|(rw[hy383];with_reducible exact H)|(have H2_:=(Option.bind_some _ _).symm.trans H;rw[hy383];with_reducible exact H2_)|(have H2_:=(Option.bind_some _ _).symm.trans H;with_reducible exact H2_)|with_reducible exact H|(rw[hy383];exact H)|exact H
 have Ny383:=Aside0.mk hy383;clear hy383;replace H:=Option.bind_eq_some_iff.mp H;obtain⟨⟨t386,t387⟩,A30,H⟩:=H;try dsimp only at H
 have A3:=Aside0.mk A30;clear A30;have HC4:=Aside0.mk H;clear H;go_enter Tryd.func33,Tryd.ntmps33
 go_upto_region 3 with (first|((with_reducible refine gate_dst (N:=12) rfl ?_);refine Kd.R_lit (Kd.int .u8) _ 5 ?hg (N:=12) ?hd (xs:=([]:List Int)) (inner:=[]) (ok:=fun _=>True) (okp:=fun _=>True) ?hr ?hp (fun _ hk=>hk) trivial (Below.refl _ _) (Nat.le_refl _) (by simp) ?_;(case hd=>rfl);(case hg=>rfl);(case hr=>first|(go_simp;done)|(go_simp;rfl));(case hp=>exact(Reps.none _ _));intro v384 w5 ho6 hb hg_ hnew_;clear hg_ hnew_;(first|rw[←Ny383.out]at ho6|(simp only[Int.reduceToNat]at ho6;rw[←Ny383.out]at ho6));have HO385:=Aside0.mk (Kd.R_lower ho6 (below_size hb_));replace HB:=Aside0.mk (below_step hb_ hb);clear hb ho6)|((with_reducible refine gate_callee (f:=53) rfl ?_);refine goesL_ (some 15) rfl rfl Tryd.func53 (by kernel_rfl) rfl #[.string a1] rfl ka_ ?_;(with_reducible refine(spec_Signs.calls k a1 t386 t387 _ A3.out).mono ?_);rintro e w7 ⟨v388,rfl,ho0,hb⟩;refine⟨_,rfl,?_⟩;replace HO385:=Aside0.mk (Kd.R_below (kr_ HO385) hb);have HO389:=Aside0.mk (Kd.R_lower ho0 (below_size hb_));replace HB:=Aside0.mk (below_step hb_ hb);try clear hb;(try clear ho0)))
 (try simp only[Act.put,List.setIfInBounds_toArray,List.set_cons_zero,List.set_cons_succ])
 go_cut [24] (fun v24 wc=>∃(kq:Nat) (x24_3:Bool),v24= .bool x24_3∧Aside0 (spec_Encode.j0 kq a0 y383 t386 x24_3=some (r1,r2))∧Aside0 (kq≤k)∧Aside0 (Kd.R (Kd.int .u8) 5 wc w.heap.size (fun _=>True) v384 y383)∧Aside0 (Kd.R (Kd.int .i64) 3 wc w.heap.size (fun _=>True) v388 t386)∧Aside0 (Below w.heap.size w wc))
 case first=>
  have H:=HC4.out;clear HC4;replace H:=Option.bind_eq_some_iff.mp H;obtain⟨t390,A80,H⟩:=H;try dsimp only at H
  have A8:=Aside0.mk A80;clear A80;by_cases c9:t390=true
  ·subst c9;rw[if_pos rfl]at H;have H':=Aside0.mk H;clear H;go_wp2_with (first|((with_reducible refine gate_callee (f:=28) rfl ?_);refine goesL_ (some 19) rfl rfl Tryd.func28 (by kernel_rfl) rfl #[.int .i64 a0] rfl ka_ ?_;(with_reducible refine(spec_l5Cs.calls a0 true _ A8.out).mono ?_);rintro e w' ⟨rfl,⟨nd,rfl⟩⟩;refine⟨_,rfl,?_⟩))
   go_meet
   case rel=>exact⟨_,(!t387),(by first|rfl|(simp;done)|(simp[*];done)),H',⟨by first|omega|exact Nat.le_refl _⟩,⟨by(with_reducible repeat(first|apply Kd.R_alloc|apply Kd.R_drewN|apply Kd.R_drew));exact HO385.out⟩,⟨by(with_reducible repeat(first|apply Kd.R_alloc|apply Kd.R_drewN|apply Kd.R_drew));exact HO389.out⟩,⟨by repeat(first|(with_reducible first|exact HB.out|apply below_alloc|apply pw_below_drewN|apply below_drew1)|exact HB.out)⟩⟩
  ·replace c9:=Bool.eq_false_iff.mpr c9;subst c9;rw[if_neg (show ¬(false=true) by decide)]at H;have H':=Aside0.mk H;clear H;go_wp2_with (first|((with_reducible refine gate_callee (f:=28) rfl ?_);refine goesL_ (some 19) rfl rfl Tryd.func28 (by kernel_rfl) rfl #[.int .i64 a0] rfl ka_ ?_;(with_reducible refine(spec_l5Cs.calls a0 false _ A8.out).mono ?_);rintro e w' ⟨rfl,⟨nd,rfl⟩⟩;refine⟨_,rfl,?_⟩))
   go_meet
   case rel=>exact⟨_,(true),(by first|rfl|(simp;done)|(simp[*];done)),H',⟨by first|omega|exact Nat.le_refl _⟩,⟨by(with_reducible repeat(first|apply Kd.R_alloc|apply Kd.R_drewN|apply Kd.R_drew));exact HO385.out⟩,⟨by(with_reducible repeat(first|apply Kd.R_alloc|apply Kd.R_drewN|apply Kd.R_drew));exact HO389.out⟩,⟨by repeat(first|(with_reducible first|exact HB.out|apply below_alloc|apply pw_below_drewN|apply below_drew1)|exact HB.out)⟩⟩
 case rest=>
  clear HC4;try clear c2
  try clear p2
  try clear c3
  try clear c5
  try clear c9
  obtain⟨kq,x24_3,rfl,HA,HJ3,HO_6,HO_7,HB⟩:=hcut
  cases kq with
  |zero=>exact absurd HA.out (by simp[spec_Encode.j0])
  |succ kj3=>
   have H:=HA.out;clear HA;simp only[spec_Encode.j0]at H;by_cases c10:x24_3=true
   ·subst c10;rw[if_pos rfl]at H;simp only[Option.some.injEq,Prod.mk.injEq]at H;obtain⟨rfl,rfl⟩:=H;go_wp2
    go_ret2
    exact⟨_,by first|rfl|(simp[errW_none,errW_some]<;>rfl)|(simp[*,errW_none,errW_some]<;>rfl),by(with_reducible repeat(first|apply Kd.R_alloc|apply Kd.R_drewN|apply Kd.R_drew));exact HO_6.out,hb_⟩
   ·replace c10:=Bool.eq_false_iff.mpr c10;subst c10;rw[if_neg (show ¬(false=true) by decide)]at H;have H':=Aside0.mk H;clear H;go_wp2
    go_loopg [6,9] kj3 (fun kq v6 v9 w'=>∃(x6_2:List Int) (x9_2:Int),v9= .int .i64 x9_2∧Aside0 (spec_Encode.l0 kq a0 x6_2 t386 x9_2=some (r1,r2))∧Aside0 (kq≤kj3)∧Aside0 (Kd.R (Kd.int .u8) 5 w' w.heap.size (fun _=>True) v6 x6_2)∧Aside0 (Kd.R (Kd.int .i64) 3 w' w.heap.size (fun _=>True) v388 t386)∧Aside0 (Below w.heap.size w w'))
    case atStart=>exact⟨(y383),(0),(by first|rfl|(simp;done)|(simp[*];done)),H',⟨Nat.le_refl _⟩,⟨by(with_reducible repeat(first|apply Kd.R_alloc|apply Kd.R_drewN|apply Kd.R_drew));exact HO_6.out⟩,⟨by(with_reducible repeat(first|apply Kd.R_alloc|apply Kd.R_drewN|apply Kd.R_drew));exact HO_7.out⟩,⟨by repeat(first|(with_reducible first|exact HB.out|apply below_alloc|apply pw_below_drewN|apply below_drew1)|exact HB.out)⟩⟩
    case round=>
     clear H';try clear c1
     try clear c2
     try clear p2
     try clear c3
     try clear c5
     try clear c9
     try clear c10
     try clear p2
     obtain⟨x6_2,x9_2,rfl,HA,HK2,HO_6,HO_7,HB⟩:=hrel
     cases gk with
     |zero=>exact absurd HA.out (by simp[spec_Encode.l0])
     |succ k2=>
      have H:=HA.out;clear HA;simp only[spec_Encode.l0]at H;by_cases c11:x9_2<(t386.length:Int)
      ·rw[if_pos c11]at H;have c11b0:decide (x9_2<(t386.length:Int))=true:=decide_eq_true c11;clear c11;by_cases c12:0≤x9_2
       ·rw[if_pos c12]at H;have c12b0:decide (0≤x9_2)=true:=decide_eq_true c12;clear c12;replace H:=Option.bind_eq_some_iff.mp H;obtain⟨⟨t392,t393⟩,A130,H⟩:=H;try dsimp only at H
        have A13:=Aside0.mk A130;clear A130;by_cases c14:t393=true
        ·subst c14;rw[if_pos rfl]at H;have H':=Aside0.mk H;clear H;obtain⟨Ao15,co15,eo15⟩:=Kd.R_slice HO_7.out;subst eo15;have p391:0≤(x9_2:Int):=of_decide_eq_true as_;have q391:x9_2<(t386.length:Int):=of_decide_eq_true as_;obtain⟨ad391,e391,hx391_0⟩:=Kd.at_int (Kd.R_reads' HO_7.out).2.2 x9_2 p391 q391;cases e391;replace p391:=eq_true p391;replace q391:=eq_true q391;obtain⟨Ao16,co16,eo16⟩:=Kd.R_slice HO_6.out;subst eo16;go_wp2_with (first|((with_reducible refine gate_callee (f:=54) rfl ?_);refine goesL_ (some 39) rfl rfl Tryd.func54 (by kernel_rfl) rfl #[.int .i64 a0,.slice Ao16 x6_2.length co16,.int .i64 (rd t386 x9_2)] rfl ka_ ?_;(with_reducible refine(spec_l5Put.calls k2 a0 _ _ x6_2 (rd t386 x9_2) t392 true _ ?side1 ?side2 A13.out).mono ?_);(case side1=>exact kc_ (Kd.R_reads' HO_6.out).2.2);(case side2=>exact(Kd.R_reads' HO_6.out).2.1);rintro e w17 ⟨v394,rfl,ho0,hb⟩;refine⟨_,rfl,?_⟩;replace HO_7:=Aside0.mk (Kd.R_below (kr_ HO_7) hb);have HO395:=Aside0.mk (Kd.R_lower (Kd.R_new' ho0 (Kd.R_lt (kr_ HO_6))) (below_size hb_));replace HO_6:=Aside0.mk (Kd.R_elder' (kr_ HO_6) (Kd.R_base ho0) hb);replace HB:=Aside0.mk (below_step hb_ hb);try clear hb;(try clear ho0)))
         go_roundg k2
         case measure=>have:=HJ3.out;have:=HK2.out;omega
         case rel=>exact⟨(t392),(wrap64 (x9_2+1)),(by first|rfl|(simp;done)|(simp[*];done)),H',⟨by have:=HJ3.out;have:=HK2.out;omega⟩,⟨by(with_reducible repeat(first|apply Kd.R_alloc|apply Kd.R_drewN|apply Kd.R_drew));exact Kd.R_mono HO395.out (fun _ hk=>trivial)⟩,⟨by(with_reducible repeat(first|apply Kd.R_alloc|apply Kd.R_drewN|apply Kd.R_drew));exact HO_7.out⟩,⟨by repeat(first|(with_reducible first|exact HB.out|apply below_alloc|apply pw_below_drewN|apply below_drew1)|exact HB.out)⟩⟩
        ·replace c14:=Bool.eq_false_iff.mpr c14;subst c14;rw[if_neg (show ¬(false=true) by decide)]at H;obtain⟨y396,hy396⟩:∃y_:List Int,y_=(([]:List Int)):=⟨_,rfl⟩;replace H:(some (y396,false))=some (r1,r2):=by first|(rw[hy396];with_reducible exact H)|(have H2_:=(Option.bind_some _ _).symm.trans H;rw[hy396];with_reducible exact H2_)|(have H2_:=(Option.bind_some _ _).symm.trans H;with_reducible exact H2_)|with_reducible exact H|(rw[hy396];exact H)|exact H
         have Ny396:=Aside0.mk hy396;clear hy396;simp only[Option.some.injEq,Prod.mk.injEq]at H;obtain⟨rfl,rfl⟩:=H;obtain⟨Ao18,co18,eo18⟩:=Kd.R_slice HO_7.out;subst eo18;have p391:0≤(x9_2:Int):=of_decide_eq_true as_;have q391:x9_2<(t386.length:Int):=of_decide_eq_true as_;obtain⟨ad391,e391,hx391_0⟩:=Kd.at_int (Kd.R_reads' HO_7.out).2.2 x9_2 p391 q391;cases e391;replace p391:=eq_true p391;replace q391:=eq_true q391;obtain⟨Ao19,co19,eo19⟩:=Kd.R_slice HO_6.out;subst eo19;go_wp2_with (first|((with_reducible refine gate_callee (f:=54) rfl ?_);refine goesL_ (some 39) rfl rfl Tryd.func54 (by kernel_rfl) rfl #[.int .i64 a0,.slice Ao19 x6_2.length co19,.int .i64 (rd t386 x9_2)] rfl ka_ ?_;(with_reducible refine(spec_l5Put.calls k2 a0 _ _ x6_2 (rd t386 x9_2) t392 false _ ?side1 ?side2 A13.out).mono ?_);(case side1=>exact kc_ (Kd.R_reads' HO_6.out).2.2);(case side2=>exact(Kd.R_reads' HO_6.out).2.1);rintro e w20 ⟨v394,rfl,ho0,hb⟩;refine⟨_,rfl,?_⟩;replace HO_7:=Aside0.mk (Kd.R_below (kr_ HO_7) hb);have HO395:=Aside0.mk (Kd.R_lower (Kd.R_new' ho0 (Kd.R_lt (kr_ HO_6))) (below_size hb_));replace HO_6:=Aside0.mk (Kd.R_elder' (kr_ HO_6) (Kd.R_base ho0) hb);replace HB:=Aside0.mk (below_step hb_ hb);try clear hb;(try clear ho0))|((with_reducible refine gate_dst (N:=44) rfl ?_);refine Kd.R_lit (Kd.int .u8) _ 5 ?hg (N:=44) ?hd (xs:=([]:List Int)) (inner:=[]) (ok:=fun _=>True) (okp:=fun _=>True) ?hr ?hp (fun _ hk=>hk) trivial (Below.refl _ _) (Nat.le_refl _) (by simp) ?_;(case hd=>rfl);(case hg=>rfl);(case hr=>first|(go_simp;done)|(go_simp;rfl));(case hp=>exact(Reps.none _ _));intro v397 w21 ho22 hb hg_ hnew_;clear hg_ hnew_;(first|rw[←Ny396.out]at ho22|(simp only[Int.reduceToNat]at ho22;rw[←Ny396.out]at ho22));replace HO_7:=Aside0.mk (Kd.R_below (kr_ HO_7) hb);have HO398:=Aside0.mk (Kd.R_lower (Kd.R_new' (Kd.R_new' ho22 (Kd.R_lt (kr_ HO_6))) (Kd.R_lt (kr_ HO395))) (below_size hb_));replace HO_6:=Aside0.mk (Kd.R_elder' (kr_ HO_6) (Kd.R_base ho22) hb);replace HO395:=Aside0.mk (Kd.R_elder' (kr_ HO395) (Kd.R_base ho22) hb);replace HB:=Aside0.mk (below_step hb_ hb);clear hb ho22))
         go_ret2
         exact⟨_,by first|rfl|(simp[errW_none,errW_some]<;>rfl)|(simp[*,errW_none,errW_some]<;>rfl),by(with_reducible repeat(first|apply Kd.R_alloc|apply Kd.R_drewN|apply Kd.R_drew));exact Kd.R_mono HO398.out (fun _ hk=>trivial),hb_⟩
       ·rw[if_neg c12]at H;exact absurd H (by simp)
      ·rw[if_neg c11]at H;have c11b0:decide (x9_2<(t386.length:Int))=false:=decide_eq_false c11;clear c11;simp only[Option.some.injEq,Prod.mk.injEq]at H;obtain⟨rfl,rfl⟩:=H;obtain⟨Ao23,co23,eo23⟩:=Kd.R_slice HO_7.out;subst eo23;go_wp2
       go_ret2
       exact⟨_,by first|rfl|(simp[errW_none,errW_some]<;>rfl)|(simp[*,errW_none,errW_some]<;>rfl),by(with_reducible repeat(first|apply Kd.R_alloc|apply Kd.R_drewN|apply Kd.R_drew));exact HO_6.out,hb_⟩
def spec_l2Sign.f (s0_0:List Int) (s0_1:Int) (s0_2:Int):Option (Int×Int×Int):=(spec_l1Int.f s0_0 s0_1 s0_2 (([0,97,90,127,128,164,233,2047,2048,8364,1072,1102,1025,12354,12450,352,65535,65536,1114111]:List Int))).bind fun bt402=>(some (bt402.1,bt402.2.1,bt402.2.2))
set_option maxHeartbeats 8000000 in
set_option maxRecDepth 100000 in
theorem spec_l2Sign.calls (g:Nat) (s0_0:List Int) (s0_1:Int) (s0_2:Int) (r1:Int) (r2:Int) (r3:Int) (w0 w:World) (hI:IsS46 w0 w g s0_0 s0_1 s0_2) (hB:Below w0.heap.size w0 w) (h:spec_l2Sign.f s0_0 s0_1 s0_2=some (r1,r2,r3)):
  Calls Tryd.prog 69 #[.pointer (some ⟨g,0,none⟩)] w fun e w'=>e= .returned (.int .i64 r1)∧IsS46 w0 w' g s0_0 r2 r3∧Below w0.heap.size w0 w'∧KeepBut w w' g none:=by
 have HI0:=Aside0.mk hI;have HK:=Aside0.mk (KeepBut.refl w g none);have HL:=Aside0.mk hB.size;clear hI;have HW0:=Aside0.mk hB.size;have HB:=Aside0.mk hB;clear hB;have H:((spec_l1Int.f s0_0 s0_1 s0_2 (([0,97,90,127,128,164,233,2047,2048,8364,1072,1102,1025,12354,12450,352,65535,65536,1114111]:List Int))).bind fun bt402=>(some (bt402.1,bt402.2.1,bt402.2.2)))=some (r1,r2,r3):=h;clear h;obtain⟨y399,hy399⟩:∃y_:List Int,y_=(([0,97,90,127,128,164,233,2047,2048,8364,1072,1102,1025,12354,12450,352,65535,65536,1114111]:List Int)):=⟨_,rfl⟩;replace H:((spec_l1Int.f s0_0 s0_1 s0_2 y399).bind fun bt402=>(some (bt402.1,bt402.2.1,bt402.2.2)))=some (r1,r2,r3):=by first|(rw[hy399];with_reducible exact H)|(have H2_:=(Option.bind_some _ _).symm.trans H;rw[hy399];with_reducible exact H2_)|(have H2_:=(Option.bind_some _ _).symm.trans H;with_reducible exact H2_)|with_reducible exact H|(rw[hy399];exact H)|exact H
 have Ny399:=Aside0.mk hy399;clear hy399;replace H:=Option.bind_eq_some_iff.mp H;obtain⟨⟨t402,t403,t404⟩,A20,H⟩:=H;try dsimp only at H
 have A2:=Aside0.mk A20;clear A20;simp only[Option.some.injEq,Prod.mk.injEq]at H;obtain⟨rfl,rfl,rfl⟩:=H;go_enter Tryd.func69,Tryd.ntmps69
 go_wp2_with (first|((with_reducible refine gate_dst (N:=4) rfl ?_);refine Kd.R_lit (Kd.int .i64) _ 3 ?hg (N:=4) ?hd (xs:=([0,97,90,127,128,164,233,2047,2048,8364,1072,1102,1025,12354,12450,352,65535,65536,1114111]:List Int)) (inner:=[.int .i64 0,.int .i64 97,.int .i64 90,.int .i64 127,.int .i64 128,.int .i64 164,.int .i64 233,.int .i64 2047,.int .i64 2048,.int .i64 8364,.int .i64 1072,.int .i64 1102,.int .i64 1025,.int .i64 12354,.int .i64 12450,.int .i64 352,.int .i64 65535,.int .i64 65536,.int .i64 1114111]) (ok:=fun _=>True) (okp:=fun _=>True) ?hr ?hp (fun _ hk=>hk) trivial (Below.refl _ _) (Nat.le_refl _) (by simp) ?_;(case hd=>rfl);(case hg=>rfl);(case hr=>first|(go_simp;done)|(go_simp;rfl));(case hp=>exact rp_);intro v400 w3 ho4 hb hg_ hnew_;clear hg_ hnew_;(first|rw[←Ny399.out]at ho4|(simp only[Int.reduceToNat]at ho4;rw[←Ny399.out]at ho4));have HO401:=Aside0.mk (Kd.R_lower ho4 (keep_size (w:=w) (g:=g) (row:=none) hk_));replace HK:=Aside0.mk (KeepBut.trans hk_ (KeepBut.of_below hb g none) (.inl rfl));have n1_:=Aside0.mk (IsS46.below (si_) hb);replace HB:=Aside0.mk (below_step (by repeat(first|(with_reducible first|exact HB.out|apply below_alloc|apply pw_below_drewN|apply below_drew1|refine below_set ?_ (IsS46.ge HI0.out))|exact HB.out)) hb);clear HI0;have HI0:=n1_;clear n1_;clear hb ho4;obtain⟨Ao5,co5,eo5⟩:=Kd.R_slice HO401.out;subst eo5)|((with_reducible refine gate_callee (f:=36) rfl ?_);refine goesL_ (some 5) rfl rfl Tryd.func36 (by kernel_rfl) rfl #[.pointer (some ⟨g,0,none⟩),.slice Ao5 y399.length co5] rfl ka_ ?_;(with_reducible refine(spec_l1Int.calls g s0_0 s0_1 s0_2 _ _ y399 t402 t403 t404 w0 _ ?side1 ?side2 ?side3 ?side4 ?side5 A2.out).mono ?_);(case side1=>exact si_);(case side2=>repeat(first|(with_reducible first|exact HB.out|apply below_alloc|apply pw_below_drewN|apply below_drew1|refine below_set ?_ (IsS46.ge HI0.out))|exact HB.out));(case side3=>exact kc_ (Kd.R_reads' HO401.out).2.2);(case side4=>exact(Kd.R_reads' HO401.out).2.1);(case side5=>exact far_slice (IsS46.own_ne HI0.out HO401.out (by decide)));rintro e w6 ⟨rfl,hi,hb,hk⟩;refine⟨_,rfl,?_⟩;replace HO401:=Aside0.mk (Kd.R_mono (Kd.R_keep (IsS46.apart (show IsS46 w0 _ g s0_0 s0_1 s0_2 from si_) (kr_ HO401) (by decide)) hk (fun _ h=>h.2)) (fun _ h=>h.1));replace HK:=Aside0.mk (KeepBut.trans hk_ hk (.inl rfl));replace HB:=Aside0.mk (hb);replace HI0:=Aside0.mk (hi);try clear hb))
 go_ret
 exact⟨rf_,si_,by repeat(first|(with_reducible first|exact HB.out|apply below_alloc|apply pw_below_drewN|apply below_drew1|refine below_set ?_ (IsS46.ge HI0.out))|exact HB.out),by repeat(first|(with_reducible first|exact HK.out|apply KeepBut.set_|apply keep_drewN|apply keep_drew|apply keep_alloc)|exact HK.out)⟩
end Go.Proofs.YtjadcnkelffdgaaDoor.QFnStreamsBent
