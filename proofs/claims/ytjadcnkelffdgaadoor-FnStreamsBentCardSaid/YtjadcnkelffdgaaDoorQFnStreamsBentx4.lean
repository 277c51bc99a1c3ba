/- The functions that a law reaches, each as a plain function, and that Go comes to just its answer: written by the session's program pp.py (the kit's print, with a few rows turned). -/
import Derived.Test.YtjadcnkelffdgaaDoorQFnStreamsBentx0
import Derived.Test.YtjadcnkelffdgaaDoorQFnStreamsBentx1
import Derived.Test.YtjadcnkelffdgaaDoorQFnStreamsBentx3
namespace Go.Proofs.YtjadcnkelffdgaaDoor.QFnStreamsBent
open Go.RowKit Go.Proofs.YtjadcnkelffdgaaDoorW.PrintWords Go.Proofs.YtjadcnkelffdgaaDoorW.PrintLast Go.Proofs.YtjadcnkelffdgaaDoorW.PrintMore Go.Proofs.YtjadcnkelffdgaaDoor.Xw Go.Proofs.YtjadcnkelffdgaaDoor.Xs Go.Proofs.YtjadcnkelffdgaaDoor.Xr Go.Proofs.YtjadcnkelffdgaaDoor.Ext
attribute [local go_sem] max2_int min2_int max_two min_two max_three min_three max_four min_four
set_option linter.unusedVariables false
set_option linter.unusedSimpArgs false
def spec_DecOk.f (k:Nat) (a0_0:Int) (l0_1:List Int) (a0_2:Bool):Option (Bool):=(spec_l5Cs.f a0_0).bind fun t240=>(if t240=true then(if(l0_1.length:Int)=0 then(some true)else(if a0_2=true then(some false)else((spec_l6Begins.f k a0_0 l0_1).bind fun t241=>(some t241))))else(some false))
theorem spec_DecOk.mono:∀a0 a1 a2 k,LeO (spec_DecOk.f k a0 a1 a2) (spec_DecOk.f (k+1) a0 a1 a2):=by
 intro a0 a1 a2 k;unfold spec_DecOk.f
 repeat' first
   |(with_reducible exact spec_l6Begins.mono _ _ _)
   |(with_reducible exact LeO.refl _)
   |(with_reducible exact LeO.none _)
   |(with_reducible refine LeO.ite ?_ ?_)
   |(with_reducible refine LeO.bind ?_ (fun _=>?_))
   |exact spec_l6Begins.mono _ _ _
   |exact LeO.none _
   |refine LeO.ite ?_ ?_
   |refine LeO.bind ?_ (fun _=>?_)
set_option maxHeartbeats 8000000 in
set_option maxRecDepth 100000 in
theorem spec_DecOk.calls (k:Nat) (a0_0:Int) (A0_1:Option Addr) (c0_1:Nat) (l0_1:List Int) (a0_2:Bool) (r:Bool) (w:World) (hr0_1:Kd.C (Kd.int .u8) w A0_1 l0_1.length l0_1) (hc0_1:l0_1.length≤c0_1) (h:spec_DecOk.f k a0_0 l0_1 a0_2=some r):
  Calls Tryd.prog 12 #[.agg #[.int .i64 a0_0,.slice A0_1 l0_1.length c0_1,.bool a0_2]] w fun e w'=>e= .returned (.bool r)∧Below w.heap.size w w':=by
 have hu25:=Tryd.underlying25;have HR0_1:=Aside0.mk hr0_1;have HC0_1:=Aside0.mk hc0_1;clear hr0_1 hc0_1;have HB:=Aside0.mk (Below.refl w.heap.size w);have H:((spec_l5Cs.f a0_0).bind fun t240=>(if t240=true then(if(l0_1.length:Int)=0 then(some true)else(if a0_2=true then(some false)else((spec_l6Begins.f k a0_0 l0_1).bind fun t241=>(some t241))))else(some false)))=some r:=h;clear h;replace H:=Option.bind_eq_some_iff.mp H;obtain⟨t240,A20,H⟩:=H;try dsimp only at H
 have A2:=Aside0.mk A20;clear A20;by_cases c3:t240=true
 ·subst c3;rw[if_pos rfl]at H;by_cases c4:(l0_1.length:Int)=0
  ·rw[if_pos c4]at H;have c4b0:((l0_1.length:Int)==0)=true:=beq_iff_eq.mpr c4;have c4b1:((l0_1.length:Int) != 0)=false:=bne_eq_false_iff_eq.mpr c4;clear c4;obtain rfl:=Option.some.inj H;go_enter Tryd.func12,Tryd.ntmps12
   go_wp2_with (first|((with_reducible refine gate_dst (N:=1) rfl ?_);(try(refine gate_guard (by rfl) ?_;dsimp only));refine box_event ?hg (N:=1) ?hd (cs:=#[.int .i64 a0_0,.slice A0_1 l0_1.length c0_1,.bool a0_2]) (t:=25) ?hr ?_;(case hd=>rfl);(case hg=>rfl);(case hr=>first|(go_simp;done)|(go_simp;rfl));intro gb239 hg w5 hbox hb;have BK239:=Aside0.mk (hbox);have GW239:=Aside0.mk ((by rw[hg];exact(below_size hb_):w.heap.size≤gb239));have GE239:=Aside0.mk ((by rw[hg];exact(below_size hb_):w.heap.size≤gb239));replace HB:=Aside0.mk (below_step hb_ hb);clear hb hbox hg;obtain⟨hcz6_0,hcz6_1,hcz6_2,hfz6_0,hfz6_1,hfz6_2⟩:=c3_ BK239)|((with_reducible refine gate_callee (f:=28) rfl ?_);refine goesL_ (some 5) rfl rfl Tryd.func28 (by kernel_rfl) rfl #[.int .i64 a0_0] rfl ka_ ?_;(with_reducible refine(spec_l5Cs.calls a0_0 true _ A2.out).mono ?_);rintro e w' ⟨rfl,⟨nd,rfl⟩⟩;refine⟨_,rfl,?_⟩))
   go_ret
   exact⟨rf_,hs_⟩
  ·rw[if_neg c4]at H;have c4b0:((l0_1.length:Int)==0)=false:=beq_eq_false_iff_ne.mpr c4;have c4b1:((l0_1.length:Int) != 0)=true:=bne_iff_ne.mpr c4;have c4b2:¬(l0_1=[]):=fun h_=>c4 (by rw[h_];rfl)
   by_cases c7:a0_2=true
   ·subst c7;rw[if_pos rfl]at H;obtain rfl:=Option.some.inj H;go_enter Tryd.func12,Tryd.ntmps12
    go_wp2_with (first|((with_reducible refine gate_dst (N:=1) rfl ?_);(try(refine gate_guard (by rfl) ?_;dsimp only));refine box_event ?hg (N:=1) ?hd (cs:=#[.int .i64 a0_0,.slice A0_1 l0_1.length c0_1,.bool true]) (t:=25) ?hr ?_;(case hd=>rfl);(case hg=>rfl);(case hr=>first|(go_simp;done)|(go_simp;rfl));intro gb239 hg w8 hbox hb;have BK239:=Aside0.mk (hbox);have GW239:=Aside0.mk ((by rw[hg];exact(below_size hb_):w.heap.size≤gb239));have GE239:=Aside0.mk ((by rw[hg];exact(below_size hb_):w.heap.size≤gb239));replace HB:=Aside0.mk (below_step hb_ hb);clear hb hbox hg;obtain⟨hcz9_0,hcz9_1,hcz9_2,hfz9_0,hfz9_1,hfz9_2⟩:=c3_ BK239)|((with_reducible refine gate_callee (f:=28) rfl ?_);refine goesL_ (some 5) rfl rfl Tryd.func28 (by kernel_rfl) rfl #[.int .i64 a0_0] rfl ka_ ?_;(with_reducible refine(spec_l5Cs.calls a0_0 true _ A2.out).mono ?_);rintro e w' ⟨rfl,⟨nd,rfl⟩⟩;refine⟨_,rfl,?_⟩))
    go_ret
    exact⟨rf_,hs_⟩
   ·replace c7:=Bool.eq_false_iff.mpr c7;subst c7;rw[if_neg (show ¬(false=true) by decide)]at H;replace H:=Option.bind_eq_some_iff.mp H;obtain⟨t241,A100,H⟩:=H;try dsimp only at H
    have A10:=Aside0.mk A100;clear A100;obtain rfl:=Option.some.inj H;go_enter Tryd.func12,Tryd.ntmps12
    go_wp2_with (first|((with_reducible refine gate_dst (N:=1) rfl ?_);(try(refine gate_guard (by rfl) ?_;dsimp only));refine box_event ?hg (N:=1) ?hd (cs:=#[.int .i64 a0_0,.slice A0_1 l0_1.length c0_1,.bool false]) (t:=25) ?hr ?_;(case hd=>rfl);(case hg=>rfl);(case hr=>first|(go_simp;done)|(go_simp;rfl));intro gb239 hg w11 hbox hb;have BK239:=Aside0.mk (hbox);have GW239:=Aside0.mk ((by rw[hg];exact(below_size hb_):w.heap.size≤gb239));have GE239:=Aside0.mk ((by rw[hg];exact(below_size hb_):w.heap.size≤gb239));replace HB:=Aside0.mk (below_step hb_ hb);clear hb hbox hg;obtain⟨hcz12_0,hcz12_1,hcz12_2,hfz12_0,hfz12_1,hfz12_2⟩:=c3_ BK239)|((with_reducible refine gate_callee (f:=28) rfl ?_);refine goesL_ (some 5) rfl rfl Tryd.func28 (by kernel_rfl) rfl #[.int .i64 a0_0] rfl ka_ ?_;(with_reducible refine(spec_l5Cs.calls a0_0 true _ A2.out).mono ?_);rintro e w' ⟨rfl,⟨nd,rfl⟩⟩;refine⟨_,rfl,?_⟩)|(go_at_call 25;(with_reducible refine(spec_l6Begins.calls k a0_0 _ _ l0_1 t241 _ ?side1 ?side2 A10.out).mono ?_);(case side1=>exact kc_ (Kd.C_below HR0_1.out hs_));(case side2=>exact HC0_1.out);rintro e w13 ⟨rfl,hb⟩;replace BK239:=Aside0.mk (blk_below (kb_ BK239) hb);replace HB:=Aside0.mk (below_step hs_ hb);try clear hb))
    go_ret
    exact⟨rf_,hs_⟩
 ·replace c3:=Bool.eq_false_iff.mpr c3;subst c3;rw[if_neg (show ¬(false=true) by decide)]at H;obtain rfl:=Option.some.inj H;go_enter Tryd.func12,Tryd.ntmps12
  go_wp2_with (first|((with_reducible refine gate_dst (N:=1) rfl ?_);(try(refine gate_guard (by rfl) ?_;dsimp only));refine box_event ?hg (N:=1) ?hd (cs:=#[.int .i64 a0_0,.slice A0_1 l0_1.length c0_1,.bool a0_2]) (t:=25) ?hr ?_;(case hd=>rfl);(case hg=>rfl);(case hr=>first|(go_simp;done)|(go_simp;rfl));intro gb239 hg w14 hbox hb;have BK239:=Aside0.mk (hbox);have GW239:=Aside0.mk ((by rw[hg];exact(below_size hb_):w.heap.size≤gb239));have GE239:=Aside0.mk ((by rw[hg];exact(below_size hb_):w.heap.size≤gb239));replace HB:=Aside0.mk (below_step hb_ hb);clear hb hbox hg;obtain⟨hcz15_0,hcz15_1,hcz15_2,hfz15_0,hfz15_1,hfz15_2⟩:=c3_ BK239)|((with_reducible refine gate_callee (f:=28) rfl ?_);refine goesL_ (some 5) rfl rfl Tryd.func28 (by kernel_rfl) rfl #[.int .i64 a0_0] rfl ka_ ?_;(with_reducible refine(spec_l5Cs.calls a0_0 false _ A2.out).mono ?_);rintro e w' ⟨rfl,⟨nd,rfl⟩⟩;refine⟨_,rfl,?_⟩))
  go_ret
  exact⟨rf_,hs_⟩
def spec_PairSign.j0:Nat→Int→Int→Bool→Option (Int×Bool)
 |0,_,_,_=>none
 |k+1,x0,x1,x6=>if x6=true then(some (wrap64 ((wrap64 (12353+x1))-161),true))else(if x0=165 then((spec_l1In.f x1 161 246).bind fun t243=>(if t243=true then(some (wrap64 ((wrap64 (12449+x1))-161),true))else(some (0,false))))else(some (0,false)))
def spec_PairSign.f (k:Nat) (a0:Int) (a1:Int):Option (Int×Bool):=if a0=164 then((spec_l1In.f a1 161 243).bind fun t242=>(spec_PairSign.j0 k a0 a1 t242))else(spec_PairSign.j0 k a0 a1 false)
theorem spec_PairSign.mono_l:∀k,(∀y0 y1 y2,LeO (spec_PairSign.j0 k y0 y1 y2) (spec_PairSign.j0 (k+1) y0 y1 y2))
 |0=>fun _ _ _ r h=>by simp[spec_PairSign.j0]at h
 |k+1=>by
  have ih0:=spec_PairSign.mono_l k
  ·intro y0 y1 y2;unfold spec_PairSign.j0
   repeat' first
   |(with_reducible exact ih0 _ _ _)
   |(with_reducible exact LeO.refl _)
   |(with_reducible exact LeO.none _)
   |(with_reducible refine LeO.ite ?_ ?_)
   |(with_reducible refine LeO.bind ?_ (fun _=>?_))
   |exact ih0 _ _ _
   |exact LeO.none _
   |refine LeO.ite ?_ ?_
   |refine LeO.bind ?_ (fun _=>?_)
theorem spec_PairSign.mono:∀a0 a1 k,LeO (spec_PairSign.f k a0 a1) (spec_PairSign.f (k+1) a0 a1):=by
 intro a0 a1 k;have ih0:=spec_PairSign.mono_l k;unfold spec_PairSign.f
 repeat' first
   |(with_reducible exact ih0 _ _ _)
   |(with_reducible exact LeO.refl _)
   |(with_reducible exact LeO.none _)
   |(with_reducible refine LeO.ite ?_ ?_)
   |(with_reducible refine LeO.bind ?_ (fun _=>?_))
   |exact ih0 _ _ _
   |exact LeO.none _
   |refine LeO.ite ?_ ?_
   |refine LeO.bind ?_ (fun _=>?_)
set_option maxHeartbeats 8000000 in
set_option maxRecDepth 100000 in
theorem spec_PairSign.calls (k:Nat) (a0:Int) (a1:Int) (r1:Int) (r2:Bool) (w:World) (h:spec_PairSign.f k a0 a1=some (r1,r2)):
  Calls Tryd.prog 63 #[.int .i64 a0,.int .i64 a1] w fun e w'=>e= .returned (.tuple #[.int .i64 r1,.bool r2])∧Drawn0 w w':=by
 have H:(if a0=164 then((spec_l1In.f a1 161 243).bind fun t242=>(spec_PairSign.j0 k a0 a1 t242))else(spec_PairSign.j0 k a0 a1 false))=some (r1,r2):=h;clear h;have HC3:=Aside0.mk H;clear H;go_enter Tryd.func63,Tryd.ntmps63
 go_upto_region 1 with (fail)
 go_cut [6] (fun v6 wc=>∃(kq:Nat) (x6_2:Bool),v6= .bool x6_2∧Aside0 (spec_PairSign.j0 kq a0 a1 x6_2=some (r1,r2))∧Aside0 (kq≤k)∧Drawn0 w wc)
 case first=>
  have H:=HC3.out;clear HC3;by_cases c4:a0=164
  ·rw[if_pos c4]at H;have c4b0:(a0==164)=true:=beq_iff_eq.mpr c4;have c4b1:(a0 != 164)=false:=bne_eq_false_iff_eq.mpr c4;clear c4;(first|rw[c4b0]|(simp only[i64_w,i32_w];rw[c4b0])|skip)
   replace H:=Option.bind_eq_some_iff.mp H;obtain⟨t242,A50,H⟩:=H;try dsimp only at H
   have A5:=Aside0.mk A50;clear A50;have H':=Aside0.mk H;clear H;go_wp2_with (first|(go_at_call 49;(with_reducible refine(spec_l1In.calls a1 161 243 t242 _ A5.out).mono ?_);rintro e w' ⟨rfl,⟨nd,rfl⟩⟩))
   go_meet
   case rel=>exact⟨_,(t242),(by first|rfl|(simp;done)|(simp[*];done)),H',⟨by first|omega|exact Nat.le_refl _⟩,dn_⟩
  ·rw[if_neg c4]at H;have c4b0:(a0==164)=false:=beq_eq_false_iff_ne.mpr c4;have c4b1:(a0 != 164)=true:=bne_iff_ne.mpr c4;(first|rw[c4b0]|(simp only[i64_w,i32_w];rw[c4b0])|skip)
   have H':=Aside0.mk H;clear H;go_wp2
   go_meet
   case rel=>exact⟨_,(false),(by first|rfl|(simp;done)|(simp[*];done)),H',⟨by first|omega|exact Nat.le_refl _⟩,dn_⟩
 case rest=>
  clear HC3;try clear p2
  try clear c4
  try clear c4b0
  try clear c4b1
  obtain⟨kq,x6_2,rfl,HA,HJ2,⟨mc2,rfl⟩⟩:=hcut
  cases kq with
  |zero=>exact absurd HA.out (by simp[spec_PairSign.j0])
  |succ kj2=>
   have H:=HA.out;clear HA;simp only[spec_PairSign.j0]at H;by_cases c6:x6_2=true
   ·subst c6;rw[if_pos rfl]at H;simp only[Option.some.injEq,Prod.mk.injEq]at H;obtain⟨rfl,rfl⟩:=H;go_wp2
    go_ret2
    exact⟨by first|rfl|(simp;done)|(simp[*];done),dn_⟩
   ·replace c6:=Bool.eq_false_iff.mpr c6;subst c6;rw[if_neg (show ¬(false=true) by decide)]at H;by_cases c7:a0=165
    ·rw[if_pos c7]at H;have c7b0:(a0==165)=true:=beq_iff_eq.mpr c7;have c7b1:(a0 != 165)=false:=bne_eq_false_iff_eq.mpr c7;clear c7;replace H:=Option.bind_eq_some_iff.mp H;obtain⟨t243,A80,H⟩:=H;try dsimp only at H
     have A8:=Aside0.mk A80;clear A80;by_cases c9:t243=true
     ·subst c9;rw[if_pos rfl]at H;simp only[Option.some.injEq,Prod.mk.injEq]at H;obtain⟨rfl,rfl⟩:=H;go_wp2_with (first|(go_at_call 49;(with_reducible refine(spec_l1In.calls a1 161 246 true _ A8.out).mono ?_);rintro e w' ⟨rfl,⟨nd,rfl⟩⟩))
      go_ret2
      exact⟨by first|rfl|(simp;done)|(simp[*];done),dn_⟩
     ·replace c9:=Bool.eq_false_iff.mpr c9;subst c9;rw[if_neg (show ¬(false=true) by decide)]at H;simp only[Option.some.injEq,Prod.mk.injEq]at H;obtain⟨rfl,rfl⟩:=H;go_wp2_with (first|(go_at_call 49;(with_reducible refine(spec_l1In.calls a1 161 246 false _ A8.out).mono ?_);rintro e w' ⟨rfl,⟨nd,rfl⟩⟩))
      go_ret2
      exact⟨by first|rfl|(simp;done)|(simp[*];done),dn_⟩
    ·rw[if_neg c7]at H;have c7b0:(a0==165)=false:=beq_eq_false_iff_ne.mpr c7;have c7b1:(a0 != 165)=true:=bne_iff_ne.mpr c7;simp only[Option.some.injEq,Prod.mk.injEq]at H;obtain⟨rfl,rfl⟩:=H;go_wp2
     go_ret2
     exact⟨by first|rfl|(simp;done)|(simp[*];done),dn_⟩
def spec_EucSign.f (k:Nat) (l0:List Int) (a1:Int):Option (Int×Int×Bool):=(spec_l1In.f a1 0 (wrap64 ((l0.length:Int)-1))).bind fun t244=>(if t244=true then(if 0≤a1 then(if a1<(l0.length:Int)then(if(rd l0 a1)<128 then(some (wrap64 (rd l0 a1),wrap64 (a1+1),true))else(if(wrap64 (a1+1))≥(l0.length:Int)then(some (0,0,false))else(if 0≤(wrap64 (a1+1))then(if(wrap64 (a1+1))<(l0.length:Int)then((spec_PairSign.f k (wrap64 (rd l0 a1)) (wrap64 (rd l0 (wrap64 (a1+1))))).bind fun bt249=>(if bt249.2=true then(some (bt249.1,wrap64 (a1+2),true))else(some (0,0,false))))else(none))else(none))))else(none))else(none))else(some (0,0,false)))
theorem spec_EucSign.mono:∀a0 a1 k,LeO (spec_EucSign.f k a0 a1) (spec_EucSign.f (k+1) a0 a1):=by
 intro a0 a1 k;unfold spec_EucSign.f
 repeat' first
   |(with_reducible exact spec_PairSign.mono _ _ _)
   |(with_reducible exact LeO.refl _)
   |(with_reducible exact LeO.none _)
   |(with_reducible refine LeO.ite ?_ ?_)
   |(with_reducible refine LeO.bind ?_ (fun _=>?_))
   |exact spec_PairSign.mono _ _ _
   |exact LeO.none _
   |refine LeO.ite ?_ ?_
   |refine LeO.bind ?_ (fun _=>?_)
set_option maxHeartbeats 8000000 in
set_option maxRecDepth 100000 in
theorem spec_EucSign.calls (k:Nat) (A0:Option Addr) (c0:Nat) (l0:List Int) (a1:Int) (r1:Int) (r2:Int) (r3:Bool) (w:World) (hr0:Kd.C (Kd.int .u8) w A0 l0.length l0) (hc0:l0.length≤c0) (h:spec_EucSign.f k l0 a1=some (r1,r2,r3)):
  Calls Tryd.prog 45 #[.slice A0 l0.length c0,.int .i64 a1] w fun e w'=>e= .returned (.tuple #[.int .i64 r1,.int .i64 r2,.bool r3])∧Drawn0 w w':=by
 have HR0:=Aside0.mk hr0;have HC0:=Aside0.mk hc0;clear hr0 hc0;have H:((spec_l1In.f a1 0 (wrap64 ((l0.length:Int)-1))).bind fun t244=>(if t244=true then(if 0≤a1 then(if a1<(l0.length:Int)then(if(rd l0 a1)<128 then(some (wrap64 (rd l0 a1),wrap64 (a1+1),true))else(if(wrap64 (a1+1))≥(l0.length:Int)then(some (0,0,false))else(if 0≤(wrap64 (a1+1))then(if(wrap64 (a1+1))<(l0.length:Int)then((spec_PairSign.f k (wrap64 (rd l0 a1)) (wrap64 (rd l0 (wrap64 (a1+1))))).bind fun bt249=>(if bt249.2=true then(some (bt249.1,wrap64 (a1+2),true))else(some (0,0,false))))else(none))else(none))))else(none))else(none))else(some (0,0,false))))=some (r1,r2,r3):=h;clear h;replace H:=Option.bind_eq_some_iff.mp H;obtain⟨t244,A30,H⟩:=H;try dsimp only at H
 have A3:=Aside0.mk A30;clear A30;by_cases c4:t244=true
 ·subst c4;rw[if_pos rfl]at H;by_cases c5:0≤a1
  ·rw[if_pos c5]at H;have c5b0:decide (0≤a1)=true:=decide_eq_true c5;clear c5;by_cases c6:a1<(l0.length:Int)
   ·rw[if_pos c6]at H;have c6b0:decide (a1<(l0.length:Int))=true:=decide_eq_true c6;clear c6;by_cases c7:(rd l0 a1)<128
    ·rw[if_pos c7]at H;have c7b0:decide ((rd l0 a1)<128)=true:=decide_eq_true c7;clear c7;simp only[Option.some.injEq,Prod.mk.injEq]at H;obtain⟨rfl,rfl,rfl⟩:=H;go_enter Tryd.func45,Tryd.ntmps45
     go_wp2_with (first|(go_at_call 49;(with_reducible refine(spec_l1In.calls a1 0 (wrap64 ((l0.length:Int)-1)) true _ A3.out).mono ?_);rintro e w' ⟨rfl,⟨nd,rfl⟩⟩;(try first|exact⟨rfl,_,World.drewN_drewN _ _ _⟩|exact⟨rfl,_,Eq.trans (World.drewN_drewN _ _ _) (congrArg (World.drewN _) (Nat.add_assoc _ _ _))⟩);have p245:0≤(a1:Int):=of_decide_eq_true as_;have q245:a1<(l0.length:Int):=of_decide_eq_true as_;obtain⟨ad245,e245,hx245_0⟩:=Kd.at_int HR0.out a1 p245 q245;cases e245;replace p245:=eq_true p245;replace q245:=eq_true q245;have p246:0≤(a1:Int):=of_decide_eq_true as_;have q246:a1<(l0.length:Int):=of_decide_eq_true as_;obtain⟨ad246,e246,hx246_0⟩:=Kd.at_int HR0.out a1 p246 q246;obtain rfl:ad245=ad246:=(by injection e246);replace p246:=eq_true p246;replace q246:=eq_true q246))
     repeat(go_quiet (first|(go_at_call 49;(with_reducible refine(spec_l1In.calls a1 0 (wrap64 ((l0.length:Int)-1)) true _ A3.out).mono ?_);rintro e w' ⟨rfl,⟨nd,rfl⟩⟩;(try first|exact⟨rfl,_,World.drewN_drewN _ _ _⟩|exact⟨rfl,_,Eq.trans (World.drewN_drewN _ _ _) (congrArg (World.drewN _) (Nat.add_assoc _ _ _))⟩);have p245:0≤(a1:Int):=of_decide_eq_true as_;have q245:a1<(l0.length:Int):=of_decide_eq_true as_;obtain⟨ad245,e245,hx245_0⟩:=Kd.at_int HR0.out a1 p245 q245;cases e245;replace p245:=eq_true p245;replace q245:=eq_true q245;have p246:0≤(a1:Int):=of_decide_eq_true as_;have q246:a1<(l0.length:Int):=of_decide_eq_true as_;obtain⟨ad246,e246,hx246_0⟩:=Kd.at_int HR0.out a1 p246 q246;obtain rfl:ad245=ad246:=(by injection e246);replace p246:=eq_true p246;replace q246:=eq_true q246));try go_wp2_with (first|(go_at_call 49;(with_reducible refine(spec_l1In.calls a1 0 (wrap64 ((l0.length:Int)-1)) true _ A3.out).mono ?_);rintro e w' ⟨rfl,⟨nd,rfl⟩⟩;(try first|exact⟨rfl,_,World.drewN_drewN _ _ _⟩|exact⟨rfl,_,Eq.trans (World.drewN_drewN _ _ _) (congrArg (World.drewN _) (Nat.add_assoc _ _ _))⟩);have p245:0≤(a1:Int):=of_decide_eq_true as_;have q245:a1<(l0.length:Int):=of_decide_eq_true as_;obtain⟨ad245,e245,hx245_0⟩:=Kd.at_int HR0.out a1 p245 q245;cases e245;replace p245:=eq_true p245;replace q245:=eq_true q245;have p246:0≤(a1:Int):=of_decide_eq_true as_;have q246:a1<(l0.length:Int):=of_decide_eq_true as_;obtain⟨ad246,e246,hx246_0⟩:=Kd.at_int HR0.out a1 p246 q246;obtain rfl:ad245=ad246:=(by injection e246);replace p246:=eq_true p246;replace q246:=eq_true q246)))
     go_ret3
     exact⟨by first|rfl|(simp;done)|(simp[*];done),dn_⟩
    ·rw[if_neg c7]at H;have c7b0:decide ((rd l0 a1)<128)=false:=decide_eq_false c7;clear c7;by_cases c8:(wrap64 (a1+1))≥(l0.length:Int)
     ·rw[if_pos c8]at H;have c8b0:decide ((l0.length:Int)≤(wrap64 (a1+1)))=true:=decide_eq_true c8;clear c8;simp only[Option.some.injEq,Prod.mk.injEq]at H;obtain⟨rfl,rfl,rfl⟩:=H;go_enter Tryd.func45,Tryd.ntmps45
      go_wp2_with (first|(go_at_call 49;(with_reducible refine(spec_l1In.calls a1 0 (wrap64 ((l0.length:Int)-1)) true _ A3.out).mono ?_);rintro e w' ⟨rfl,⟨nd,rfl⟩⟩;(try first|exact⟨rfl,_,World.drewN_drewN _ _ _⟩|exact⟨rfl,_,Eq.trans (World.drewN_drewN _ _ _) (congrArg (World.drewN _) (Nat.add_assoc _ _ _))⟩);have p245:0≤(a1:Int):=of_decide_eq_true as_;have q245:a1<(l0.length:Int):=of_decide_eq_true as_;obtain⟨ad245,e245,hx245_0⟩:=Kd.at_int HR0.out a1 p245 q245;cases e245;replace p245:=eq_true p245;replace q245:=eq_true q245))
      repeat(go_quiet (first|(go_at_call 49;(with_reducible refine(spec_l1In.calls a1 0 (wrap64 ((l0.length:Int)-1)) true _ A3.out).mono ?_);rintro e w' ⟨rfl,⟨nd,rfl⟩⟩;(try first|exact⟨rfl,_,World.drewN_drewN _ _ _⟩|exact⟨rfl,_,Eq.trans (World.drewN_drewN _ _ _) (congrArg (World.drewN _) (Nat.add_assoc _ _ _))⟩);have p245:0≤(a1:Int):=of_decide_eq_true as_;have q245:a1<(l0.length:Int):=of_decide_eq_true as_;obtain⟨ad245,e245,hx245_0⟩:=Kd.at_int HR0.out a1 p245 q245;cases e245;replace p245:=eq_true p245;replace q245:=eq_true q245));try go_wp2_with (first|(go_at_call 49;(with_reducible refine(spec_l1In.calls a1 0 (wrap64 ((l0.length:Int)-1)) true _ A3.out).mono ?_);rintro e w' ⟨rfl,⟨nd,rfl⟩⟩;(try first|exact⟨rfl,_,World.drewN_drewN _ _ _⟩|exact⟨rfl,_,Eq.trans (World.drewN_drewN _ _ _) (congrArg (World.drewN _) (Nat.add_assoc _ _ _))⟩);have p245:0≤(a1:Int):=of_decide_eq_true as_;have q245:a1<(l0.length:Int):=of_decide_eq_true as_;obtain⟨ad245,e245,hx245_0⟩:=Kd.at_int HR0.out a1 p245 q245;cases e245;replace p245:=eq_true p245;replace q245:=eq_true q245)))
      go_ret3
      exact⟨by first|rfl|(simp;done)|(simp[*];done),dn_⟩
     ·rw[if_neg c8]at H;have c8b0:decide ((l0.length:Int)≤(wrap64 (a1+1)))=false:=decide_eq_false c8;clear c8;obtain⟨ji9,hji9⟩:∃j_:Int,(wrap64 (a1+1))=j_:=⟨_,rfl⟩;replace H:(if 0≤(ji9)then(if(ji9)<(l0.length:Int)then((spec_PairSign.f k (wrap64 (rd l0 a1)) (wrap64 (rd l0 (ji9)))).bind fun bt249=>(if bt249.2=true then(some (bt249.1,wrap64 (a1+2),true))else(some (0,0,false))))else(none))else(none))=some (r1,r2,r3):=by first|(rw[hji9]at H;exact H)|(simp only[hji9]at H⊢;exact H)
      (try rw[hji9]at c8b0)
      (try rw[hji9]at A3)
      have hji9w:(IntKind.i64.wrap (a1+1))=ji9:=(i64_w _).trans hji9;by_cases c10:0≤(ji9)
      ·rw[if_pos c10]at H;have c10b0:decide (0≤(ji9))=true:=decide_eq_true c10;clear c10;by_cases c11:(ji9)<(l0.length:Int)
       ·rw[if_pos c11]at H;have c11b0:decide ((ji9)<(l0.length:Int))=true:=decide_eq_true c11;clear c11;replace H:=Option.bind_eq_some_iff.mp H;obtain⟨⟨t249,t250⟩,A120,H⟩:=H;try dsimp only at H
        have A12:=Aside0.mk A120;clear A120;by_cases c13:t250=true
        ·subst c13;rw[if_pos rfl]at H;simp only[Option.some.injEq,Prod.mk.injEq]at H;obtain⟨rfl,rfl,rfl⟩:=H;go_enter Tryd.func45,Tryd.ntmps45
         go_wp2_with (first|(go_at_call 49;(with_reducible refine(spec_l1In.calls a1 0 (wrap64 ((l0.length:Int)-1)) true _ A3.out).mono ?_);rintro e w' ⟨rfl,⟨nd,rfl⟩⟩;(try first|exact⟨rfl,_,World.drewN_drewN _ _ _⟩|exact⟨rfl,_,Eq.trans (World.drewN_drewN _ _ _) (congrArg (World.drewN _) (Nat.add_assoc _ _ _))⟩);have p245:0≤(a1:Int):=of_decide_eq_true as_;have q245:a1<(l0.length:Int):=of_decide_eq_true as_;obtain⟨ad245,e245,hx245_0⟩:=Kd.at_int HR0.out a1 p245 q245;cases e245;replace p245:=eq_true p245;replace q245:=eq_true q245;have p247:0≤(a1:Int):=of_decide_eq_true as_;have q247:a1<(l0.length:Int):=of_decide_eq_true as_;obtain⟨ad247,e247,hx247_0⟩:=Kd.at_int HR0.out a1 p247 q247;obtain rfl:ad245=ad247:=(by injection e247);replace p247:=eq_true p247;replace q247:=eq_true q247;have p248:0≤((ji9):Int):=of_decide_eq_true as_;have q248:(ji9)<(l0.length:Int):=of_decide_eq_true as_;obtain⟨ad248,e248,hx248_0⟩:=Kd.at_int HR0.out (ji9) p248 q248;obtain rfl:ad245=ad248:=(by injection e248);replace p248:=eq_true p248;replace q248:=eq_true q248)|(go_at_call 63;(with_reducible refine(spec_PairSign.calls k (wrap64 (rd l0 a1)) (wrap64 (rd l0 (ji9))) t249 true _ A12.out).mono ?_);rintro e w' ⟨rfl,⟨nd,rfl⟩⟩;(try first|exact⟨rfl,_,World.drewN_drewN _ _ _⟩|exact⟨rfl,_,Eq.trans (World.drewN_drewN _ _ _) (congrArg (World.drewN _) (Nat.add_assoc _ _ _))⟩)))
         repeat(go_quiet (first|(go_at_call 49;(with_reducible refine(spec_l1In.calls a1 0 (wrap64 ((l0.length:Int)-1)) true _ A3.out).mono ?_);rintro e w' ⟨rfl,⟨nd,rfl⟩⟩;(try first|exact⟨rfl,_,World.drewN_drewN _ _ _⟩|exact⟨rfl,_,Eq.trans (World.drewN_drewN _ _ _) (congrArg (World.drewN _) (Nat.add_assoc _ _ _))⟩);have p245:0≤(a1:Int):=of_decide_eq_true as_;have q245:a1<(l0.length:Int):=of_decide_eq_true as_;obtain⟨ad245,e245,hx245_0⟩:=Kd.at_int HR0.out a1 p245 q245;cases e245;replace p245:=eq_true p245;replace q245:=eq_true q245;have p247:0≤(a1:Int):=of_decide_eq_true as_;have q247:a1<(l0.length:Int):=of_decide_eq_true as_;obtain⟨ad247,e247,hx247_0⟩:=Kd.at_int HR0.out a1 p247 q247;obtain rfl:ad245=ad247:=(by injection e247);replace p247:=eq_true p247;replace q247:=eq_true q247;have p248:0≤((ji9):Int):=of_decide_eq_true as_;have q248:(ji9)<(l0.length:Int):=of_decide_eq_true as_;obtain⟨ad248,e248,hx248_0⟩:=Kd.at_int HR0.out (ji9) p248 q248;obtain rfl:ad245=ad248:=(by injection e248);replace p248:=eq_true p248;replace q248:=eq_true q248)|(go_at_call 63;(with_reducible refine(spec_PairSign.calls k (wrap64 (rd l0 a1)) (wrap64 (rd l0 (ji9))) t249 true _ A12.out).mono ?_);rintro e w' ⟨rfl,⟨nd,rfl⟩⟩;(try first|exact⟨rfl,_,World.drewN_drewN _ _ _⟩|exact⟨rfl,_,Eq.trans (World.drewN_drewN _ _ _) (congrArg (World.drewN _) (Nat.add_assoc _ _ _))⟩)));try go_wp2_with (first|(go_at_call 49;(with_reducible refine(spec_l1In.calls a1 0 (wrap64 ((l0.length:Int)-1)) true _ A3.out).mono ?_);rintro e w' ⟨rfl,⟨nd,rfl⟩⟩;(try first|exact⟨rfl,_,World.drewN_drewN _ _ _⟩|exact⟨rfl,_,Eq.trans (World.drewN_drewN _ _ _) (congrArg (World.drewN _) (Nat.add_assoc _ _ _))⟩);have p245:0≤(a1:Int):=of_decide_eq_true as_;have q245:a1<(l0.length:Int):=of_decide_eq_true as_;obtain⟨ad245,e245,hx245_0⟩:=Kd.at_int HR0.out a1 p245 q245;cases e245;replace p245:=eq_true p245;replace q245:=eq_true q245;have p247:0≤(a1:Int):=of_decide_eq_true as_;have q247:a1<(l0.length:Int):=of_decide_eq_true as_;obtain⟨ad247,e247,hx247_0⟩:=Kd.at_int HR0.out a1 p247 q247;obtain rfl:ad245=ad247:=(by injection e247);replace p247:=eq_true p247;replace q247:=eq_true q247;have p248:0≤((ji9):Int):=of_decide_eq_true as_;have q248:(ji9)<(l0.length:Int):=of_decide_eq_true as_;obtain⟨ad248,e248,hx248_0⟩:=Kd.at_int HR0.out (ji9) p248 q248;obtain rfl:ad245=ad248:=(by injection e248);replace p248:=eq_true p248;replace q248:=eq_true q248)|(go_at_call 63;(with_reducible refine(spec_PairSign.calls k (wrap64 (rd l0 a1)) (wrap64 (rd l0 (ji9))) t249 true _ A12.out).mono ?_);rintro e w' ⟨rfl,⟨nd,rfl⟩⟩;(try first|exact⟨rfl,_,World.drewN_drewN _ _ _⟩|exact⟨rfl,_,Eq.trans (World.drewN_drewN _ _ _) (congrArg (World.drewN _) (Nat.add_assoc _ _ _))⟩))))
         go_ret3
         exact⟨by first|rfl|(simp;done)|(simp only[←hji9]<;>(first|rfl|simp))|(simp[*];done),dn_⟩
        ·replace c13:=Bool.eq_false_iff.mpr c13;subst c13;rw[if_neg (show ¬(false=true) by decide)]at H;simp only[Option.some.injEq,Prod.mk.injEq]at H;obtain⟨rfl,rfl,rfl⟩:=H;go_enter Tryd.func45,Tryd.ntmps45
         go_wp2_with (first|(go_at_call 49;(with_reducible refine(spec_l1In.calls a1 0 (wrap64 ((l0.length:Int)-1)) true _ A3.out).mono ?_);rintro e w' ⟨rfl,⟨nd,rfl⟩⟩;(try first|exact⟨rfl,_,World.drewN_drewN _ _ _⟩|exact⟨rfl,_,Eq.trans (World.drewN_drewN _ _ _) (congrArg (World.drewN _) (Nat.add_assoc _ _ _))⟩);have p245:0≤(a1:Int):=of_decide_eq_true as_;have q245:a1<(l0.length:Int):=of_decide_eq_true as_;obtain⟨ad245,e245,hx245_0⟩:=Kd.at_int HR0.out a1 p245 q245;cases e245;replace p245:=eq_true p245;replace q245:=eq_true q245;have p247:0≤(a1:Int):=of_decide_eq_true as_;have q247:a1<(l0.length:Int):=of_decide_eq_true as_;obtain⟨ad247,e247,hx247_0⟩:=Kd.at_int HR0.out a1 p247 q247;obtain rfl:ad245=ad247:=(by injection e247);replace p247:=eq_true p247;replace q247:=eq_true q247;have p248:0≤((ji9):Int):=of_decide_eq_true as_;have q248:(ji9)<(l0.length:Int):=of_decide_eq_true as_;obtain⟨ad248,e248,hx248_0⟩:=Kd.at_int HR0.out (ji9) p248 q248;obtain rfl:ad245=ad248:=(by injection e248);replace p248:=eq_true p248;replace q248:=eq_true q248)|(go_at_call 63;(with_reducible refine(spec_PairSign.calls k (wrap64 (rd l0 a1)) (wrap64 (rd l0 (ji9))) t249 false _ A12.out).mono ?_);rintro e w' ⟨rfl,⟨nd,rfl⟩⟩;(try first|exact⟨rfl,_,World.drewN_drewN _ _ _⟩|exact⟨rfl,_,Eq.trans (World.drewN_drewN _ _ _) (congrArg (World.drewN _) (Nat.add_assoc _ _ _))⟩)))
         repeat(go_quiet (first|(go_at_call 49;(with_reducible refine(spec_l1In.calls a1 0 (wrap64 ((l0.length:Int)-1)) true _ A3.out).mono ?_);rintro e w' ⟨rfl,⟨nd,rfl⟩⟩;(try first|exact⟨rfl,_,World.drewN_drewN _ _ _⟩|exact⟨rfl,_,Eq.trans (World.drewN_drewN _ _ _) (congrArg (World.drewN _) (Nat.add_assoc _ _ _))⟩);have p245:0≤(a1:Int):=of_decide_eq_true as_;have q245:a1<(l0.length:Int):=of_decide_eq_true as_;obtain⟨ad245,e245,hx245_0⟩:=Kd.at_int HR0.out a1 p245 q245;cases e245;replace p245:=eq_true p245;replace q245:=eq_true q245;have p247:0≤(a1:Int):=of_decide_eq_true as_;have q247:a1<(l0.length:Int):=of_decide_eq_true as_;obtain⟨ad247,e247,hx247_0⟩:=Kd.at_int HR0.out a1 p247 q247;obtain rfl:ad245=ad247:=(by injection e247);replace p247:=eq_true p247;replace q247:=eq_true q247;have p248:0≤((ji9):Int):=of_decide_eq_true as_;have q248:(ji9)<(l0.length:Int):=of_decide_eq_true as_;obtain⟨ad248,e248,hx248_0⟩:=Kd.at_int HR0.out (ji9) p248 q248;obtain rfl:ad245=ad248:=(by injection e248);replace p248:=eq_true p248;replace q248:=eq_true q248)|(go_at_call 63;(with_reducible refine(spec_PairSign.calls k (wrap64 (rd l0 a1)) (wrap64 (rd l0 (ji9))) t249 false _ A12.out).mono ?_);rintro e w' ⟨rfl,⟨nd,rfl⟩⟩;(try first|exact⟨rfl,_,World.drewN_drewN _ _ _⟩|exact⟨rfl,_,Eq.trans (World.drewN_drewN _ _ _) (congrArg (World.drewN _) (Nat.add_assoc _ _ _))⟩)));try go_wp2_with (first|(go_at_call 49;(with_reducible refine(spec_l1In.calls a1 0 (wrap64 ((l0.length:Int)-1)) true _ A3.out).mono ?_);rintro e w' ⟨rfl,⟨nd,rfl⟩⟩;(try first|exact⟨rfl,_,World.drewN_drewN _ _ _⟩|exact⟨rfl,_,Eq.trans (World.drewN_drewN _ _ _) (congrArg (World.drewN _) (Nat.add_assoc _ _ _))⟩);have p245:0≤(a1:Int):=of_decide_eq_true as_;have q245:a1<(l0.length:Int):=of_decide_eq_true as_;obtain⟨ad245,e245,hx245_0⟩:=Kd.at_int HR0.out a1 p245 q245;cases e245;replace p245:=eq_true p245;replace q245:=eq_true q245;have p247:0≤(a1:Int):=of_decide_eq_true as_;have q247:a1<(l0.length:Int):=of_decide_eq_true as_;obtain⟨ad247,e247,hx247_0⟩:=Kd.at_int HR0.out a1 p247 q247;obtain rfl:ad245=ad247:=(by injection e247);replace p247:=eq_true p247;replace q247:=eq_true q247;have p248:0≤((ji9):Int):=of_decide_eq_true as_;have q248:(ji9)<(l0.length:Int):=of_decide_eq_true as_;obtain⟨ad248,e248,hx248_0⟩:=Kd.at_int HR0.out (ji9) p248 q248;obtain rfl:ad245=ad248:=(by injection e248);replace p248:=eq_true p248;replace q248:=eq_true q248)|(go_at_call 63;(with_reducible refine(spec_PairSign.calls k (wrap64 (rd l0 a1)) (wrap64 (rd l0 (ji9))) t249 false _ A12.out).mono ?_);rintro e w' ⟨rfl,⟨nd,rfl⟩⟩;(try first|exact⟨rfl,_,World.drewN_drewN _ _ _⟩|exact⟨rfl,_,Eq.trans (World.drewN_drewN _ _ _) (congrArg (World.drewN _) (Nat.add_assoc _ _ _))⟩))))
         go_ret3
         exact⟨by first|rfl|(simp;done)|(simp only[←hji9]<;>(first|rfl|simp))|(simp[*];done),dn_⟩
       ·rw[if_neg c11]at H;exact absurd H (by simp)
      ·rw[if_neg c10]at H;exact absurd H (by simp)
   ·rw[if_neg c6]at H;exact absurd H (by simp)
  ·rw[if_neg c5]at H;exact absurd H (by simp)
 ·replace c4:=Bool.eq_false_iff.mpr c4;subst c4;rw[if_neg (show ¬(false=true) by decide)]at H;simp only[Option.some.injEq,Prod.mk.injEq]at H;obtain⟨rfl,rfl,rfl⟩:=H;go_enter Tryd.func45,Tryd.ntmps45
  go_wp2_with (first|(go_at_call 49;(with_reducible refine(spec_l1In.calls a1 0 (wrap64 ((l0.length:Int)-1)) false _ A3.out).mono ?_);rintro e w' ⟨rfl,⟨nd,rfl⟩⟩;(try first|exact⟨rfl,_,World.drewN_drewN _ _ _⟩|exact⟨rfl,_,Eq.trans (World.drewN_drewN _ _ _) (congrArg (World.drewN _) (Nat.add_assoc _ _ _))⟩)))
  repeat(go_quiet (first|(go_at_call 49;(with_reducible refine(spec_l1In.calls a1 0 (wrap64 ((l0.length:Int)-1)) false _ A3.out).mono ?_);rintro e w' ⟨rfl,⟨nd,rfl⟩⟩;(try first|exact⟨rfl,_,World.drewN_drewN _ _ _⟩|exact⟨rfl,_,Eq.trans (World.drewN_drewN _ _ _) (congrArg (World.drewN _) (Nat.add_assoc _ _ _))⟩)));try go_wp2_with (first|(go_at_call 49;(with_reducible refine(spec_l1In.calls a1 0 (wrap64 ((l0.length:Int)-1)) false _ A3.out).mono ?_);rintro e w' ⟨rfl,⟨nd,rfl⟩⟩;(try first|exact⟨rfl,_,World.drewN_drewN _ _ _⟩|exact⟨rfl,_,Eq.trans (World.drewN_drewN _ _ _) (congrArg (World.drewN _) (Nat.add_assoc _ _ _))⟩))))
  go_ret3
  exact⟨by first|rfl|(simp;done)|(simp[*];done),dn_⟩
def spec_l3Nine.f (a0:Int):Option (Int):=if a0=164 then(some 8364)else(if a0=166 then(some 352)else(if a0=168 then(some 353)else(if a0=180 then(some 381)else(if a0=184 then(some 382)else(if a0=188 then(some 338)else(if a0=189 then(some 339)else(if a0=190 then(some 376)else(some a0))))))))
set_option maxHeartbeats 8000000 in
set_option maxRecDepth 100000 in
theorem spec_l3Nine.calls (a0:Int) (r:Int) (w:World) (h:spec_l3Nine.f a0=some r):
  Calls Tryd.prog 64 #[.int .i64 a0] w fun e w'=>e= .returned (.int .i64 r)∧Drawn0 w w':=by
 have H:(if a0=164 then(some 8364)else(if a0=166 then(some 352)else(if a0=168 then(some 353)else(if a0=180 then(some 381)else(if a0=184 then(some 382)else(if a0=188 then(some 338)else(if a0=189 then(some 339)else(if a0=190 then(some 376)else(some a0)))))))))=some r:=h;clear h;by_cases c2:a0=164
 ·rw[if_pos c2]at H;have c2b0:(a0==164)=true:=beq_iff_eq.mpr c2;have c2b1:(a0 != 164)=false:=bne_eq_false_iff_eq.mpr c2;clear c2;obtain rfl:=Option.some.inj H;go_enter Tryd.func64,Tryd.ntmps64
  go_wp2
  go_ret
  exact⟨by first|rfl|(simp;done)|(simp[*];done),dn_⟩
 ·rw[if_neg c2]at H;have c2b0:(a0==164)=false:=beq_eq_false_iff_ne.mpr c2;have c2b1:(a0 != 164)=true:=bne_iff_ne.mpr c2;by_cases c3:a0=166
  ·rw[if_pos c3]at H;have c3b0:(a0==166)=true:=beq_iff_eq.mpr c3;have c3b1:(a0 != 166)=false:=bne_eq_false_iff_eq.mpr c3;clear c3;obtain rfl:=Option.some.inj H;go_enter Tryd.func64,Tryd.ntmps64
   go_wp2
   go_ret
   exact⟨by first|rfl|(simp;done)|(simp[*];done),dn_⟩
  ·rw[if_neg c3]at H;have c3b0:(a0==166)=false:=beq_eq_false_iff_ne.mpr c3;have c3b1:(a0 != 166)=true:=bne_iff_ne.mpr c3;by_cases c4:a0=168
   ·rw[if_pos c4]at H;have c4b0:(a0==168)=true:=beq_iff_eq.mpr c4;have c4b1:(a0 != 168)=false:=bne_eq_false_iff_eq.mpr c4;clear c4;obtain rfl:=Option.some.inj H;go_enter Tryd.func64,Tryd.ntmps64
    go_wp2
    go_ret
    exact⟨by first|rfl|(simp;done)|(simp[*];done),dn_⟩
   ·rw[if_neg c4]at H;have c4b0:(a0==168)=false:=beq_eq_false_iff_ne.mpr c4;have c4b1:(a0 != 168)=true:=bne_iff_ne.mpr c4;by_cases c5:a0=180
    ·rw[if_pos c5]at H;have c5b0:(a0==180)=true:=beq_iff_eq.mpr c5;have c5b1:(a0 != 180)=false:=bne_eq_false_iff_eq.mpr c5;clear c5;obtain rfl:=Option.some.inj H;go_enter Tryd.func64,Tryd.ntmps64
     go_wp2
     go_ret
     exact⟨by first|rfl|(simp;done)|(simp[*];done),dn_⟩
    ·rw[if_neg c5]at H;have c5b0:(a0==180)=false:=beq_eq_false_iff_ne.mpr c5;have c5b1:(a0 != 180)=true:=bne_iff_ne.mpr c5;by_cases c6:a0=184
     ·rw[if_pos c6]at H;have c6b0:(a0==184)=true:=beq_iff_eq.mpr c6;have c6b1:(a0 != 184)=false:=bne_eq_false_iff_eq.mpr c6;clear c6;obtain rfl:=Option.some.inj H;go_enter Tryd.func64,Tryd.ntmps64
      go_wp2
      go_ret
      exact⟨by first|rfl|(simp;done)|(simp[*];done),dn_⟩
     ·rw[if_neg c6]at H;have c6b0:(a0==184)=false:=beq_eq_false_iff_ne.mpr c6;have c6b1:(a0 != 184)=true:=bne_iff_ne.mpr c6;by_cases c7:a0=188
      ·rw[if_pos c7]at H;have c7b0:(a0==188)=true:=beq_iff_eq.mpr c7;have c7b1:(a0 != 188)=false:=bne_eq_false_iff_eq.mpr c7;clear c7;obtain rfl:=Option.some.inj H;go_enter Tryd.func64,Tryd.ntmps64
       go_wp2
       go_ret
       exact⟨by first|rfl|(simp;done)|(simp[*];done),dn_⟩
      ·rw[if_neg c7]at H;have c7b0:(a0==188)=false:=beq_eq_false_iff_ne.mpr c7;have c7b1:(a0 != 188)=true:=bne_iff_ne.mpr c7;by_cases c8:a0=189
       ·rw[if_pos c8]at H;have c8b0:(a0==189)=true:=beq_iff_eq.mpr c8;have c8b1:(a0 != 189)=false:=bne_eq_false_iff_eq.mpr c8;clear c8;obtain rfl:=Option.some.inj H;go_enter Tryd.func64,Tryd.ntmps64
        go_wp2
        go_ret
        exact⟨by first|rfl|(simp;done)|(simp[*];done),dn_⟩
       ·rw[if_neg c8]at H;have c8b0:(a0==189)=false:=beq_eq_false_iff_ne.mpr c8;have c8b1:(a0 != 189)=true:=bne_iff_ne.mpr c8;by_cases c9:a0=190
        ·rw[if_pos c9]at H;have c9b0:(a0==190)=true:=beq_iff_eq.mpr c9;have c9b1:(a0 != 190)=false:=bne_eq_false_iff_eq.mpr c9;clear c9;obtain rfl:=Option.some.inj H;go_enter Tryd.func64,Tryd.ntmps64
         go_wp2
         go_ret
         exact⟨by first|rfl|(simp;done)|(simp[*];done),dn_⟩
        ·rw[if_neg c9]at H;have c9b0:(a0==190)=false:=beq_eq_false_iff_ne.mpr c9;have c9b1:(a0 != 190)=true:=bne_iff_ne.mpr c9;obtain rfl:=Option.some.inj H;go_enter Tryd.func64,Tryd.ntmps64
         go_wp2
         go_ret
         exact⟨by first|rfl|(simp;done)|(simp[*];done),dn_⟩
def spec_l3Koi.f (a0:Int):Option (Int):=(some (([1102,1072,1073,1094,1076,1077,1092,1075,1093,1080,1081,1082,1083,1084,1085,1086,1087,1103,1088,1089,1090,1091,1078,1074,1100,1099,1079,1096,1101,1097,1095,1098]:List Int):List Int)).bind fun y251=>(if a0≥224 then(if 0≤(wrap64 (a0-224))then(if(wrap64 (a0-224))<(y251.length:Int)then(some (wrap64 ((rd y251 (wrap64 (a0-224)))-32)))else(none))else(none))else(if a0≥192 then(if 0≤(wrap64 (a0-192))then(if(wrap64 (a0-192))<(y251.length:Int)then(some (rd y251 (wrap64 (a0-192))))else(none))else(none))else(if a0=163 then(some 1105)else(if a0=179 then(some 1025)else(some (-1))))))
set_option maxHeartbeats 8000000 in
set_option maxRecDepth 100000 in
theorem spec_l3Koi.calls (a0:Int) (r:Int) (w:World) (h:spec_l3Koi.f a0=some r):
  Calls Tryd.prog 65 #[.int .i64 a0] w fun e w'=>e= .returned (.int .i64 r)∧Below w.heap.size w w':=by
 have HB:=Aside0.mk (Below.refl w.heap.size w);have H:((some (([1102,1072,1073,1094,1076,1077,1092,1075,1093,1080,1081,1082,1083,1084,1085,1086,1087,1103,1088,1089,1090,1091,1078,1074,1100,1099,1079,1096,1101,1097,1095,1098]:List Int):List Int)).bind fun y251=>(if a0≥224 then(if 0≤(wrap64 (a0-224))then(if(wrap64 (a0-224))<(y251.length:Int)then(some (wrap64 ((rd y251 (wrap64 (a0-224)))-32)))else(none))else(none))else(if a0≥192 then(if 0≤(wrap64 (a0-192))then(if(wrap64 (a0-192))<(y251.length:Int)then(some (rd y251 (wrap64 (a0-192))))else(none))else(none))else(if a0=163 then(some 1105)else(if a0=179 then(some 1025)else(some (-1)))))))=some r:=h;clear h;obtain⟨y251,hy251⟩:∃y_:List Int,y_=(([1102,1072,1073,1094,1076,1077,1092,1075,1093,1080,1081,1082,1083,1084,1085,1086,1087,1103,1088,1089,1090,1091,1078,1074,1100,1099,1079,1096,1101,1097,1095,1098]:List Int)):=⟨_,rfl⟩;replace H:(if a0≥224 then(if 0≤(wrap64 (a0-224))then(if(wrap64 (a0-224))<(y251.length:Int)then(some (wrap64 ((rd y251 (wrap64 (a0-224)))-32)))else(none))else(none))else(if a0≥192 then(if 0≤(wrap64 (a0-192))then(if(wrap64 (a0-192))<(y251.length:Int)then(some (rd y251 (wrap64 (a0-192))))else(none))else(none))else(if a0=163 then(some 1105)else(if a0=179 then(some 1025)else(some (-1))))))=some r:=by first|(rw[hy251];with_reducible exact H)|(have H2_:=(Option.bind_some _ _).symm.trans H;rw[hy251];with_reducible exact H2_)|(have H2_:=(Option.bind_some _ _).symm.trans H;with_reducible exact H2_)|with_reducible exact H|(rw[hy251];exact H)|exact H
 have Ny251:=Aside0.mk hy251;clear hy251;by_cases c2:a0≥224
 ·rw[if_pos c2]at H;have c2b0:decide (224≤a0)=true:=decide_eq_true c2;clear c2;obtain⟨ji3,hji3⟩:∃j_:Int,(wrap64 (a0-224))=j_:=⟨_,rfl⟩;replace H:(if 0≤(ji3)then(if(ji3)<(y251.length:Int)then(some (wrap64 ((rd y251 (ji3))-32)))else(none))else(none))=some r:=by first|(rw[hji3]at H;exact H)|(simp only[hji3]at H⊢;exact H)
  have hji3w:(IntKind.i64.wrap (a0-224))=ji3:=(i64_w _).trans hji3;by_cases c4:0≤(ji3)
  ·rw[if_pos c4]at H;have c4b0:decide (0≤(ji3))=true:=decide_eq_true c4;clear c4;by_cases c5:(ji3)<(y251.length:Int)
   ·rw[if_pos c5]at H;have c5b0:decide ((ji3)<(y251.length:Int))=true:=decide_eq_true c5;clear c5;obtain rfl:=Option.some.inj H;go_enter Tryd.func65,Tryd.ntmps65
    go_wp2_with (first|((with_reducible refine gate_dst (N:=4) rfl ?_);refine Kd.R_lit (Kd.int .i64) _ 3 ?hg (N:=4) ?hd (xs:=([1102,1072,1073,1094,1076,1077,1092,1075,1093,1080,1081,1082,1083,1084,1085,1086,1087,1103,1088,1089,1090,1091,1078,1074,1100,1099,1079,1096,1101,1097,1095,1098]:List Int)) (inner:=[.int .i64 1102,.int .i64 1072,.int .i64 1073,.int .i64 1094,.int .i64 1076,.int .i64 1077,.int .i64 1092,.int .i64 1075,.int .i64 1093,.int .i64 1080,.int .i64 1081,.int .i64 1082,.int .i64 1083,.int .i64 1084,.int .i64 1085,.int .i64 1086,.int .i64 1087,.int .i64 1103,.int .i64 1088,.int .i64 1089,.int .i64 1090,.int .i64 1091,.int .i64 1078,.int .i64 1074,.int .i64 1100,.int .i64 1099,.int .i64 1079,.int .i64 1096,.int .i64 1101,.int .i64 1097,.int .i64 1095,.int .i64 1098]) (ok:=fun _=>True) (okp:=fun _=>True) ?hr ?hp (fun _ hk=>hk) trivial (Below.refl _ _) (Nat.le_refl _) (by simp) ?_;(case hd=>rfl);(case hg=>rfl);(case hr=>first|(go_simp;done)|(go_simp;rfl));(case hp=>exact rp_);intro v252 w6 ho7 hb hg_ hnew_;clear hg_ hnew_;(first|rw[←Ny251.out]at ho7|(simp only[Int.reduceToNat]at ho7;rw[←Ny251.out]at ho7));have HO253:=Aside0.mk (Kd.R_lower ho7 (below_size hb_));replace HB:=Aside0.mk (below_step hb_ hb);clear hb ho7;obtain⟨Ao8,co8,eo8⟩:=Kd.R_slice HO253.out;subst eo8;have p254:0≤((ji3):Int):=of_decide_eq_true as_;have q254:(ji3)<(y251.length:Int):=of_decide_eq_true as_;obtain⟨ad254,e254,hx254_0⟩:=Kd.at_int (Kd.R_reads' HO253.out).2.2 (ji3) p254 q254;cases e254;replace p254:=eq_true p254;replace q254:=eq_true q254))
    go_ret
    exact⟨by first|rfl|(simp[errW_none,errW_some]<;>rfl)|(simp only[←hji3];first|rfl|(simp[errW_none,errW_some]<;>rfl))|(simp[*,errW_none,errW_some]<;>rfl),hb_⟩
   ·rw[if_neg c5]at H;exact absurd H (by simp)
  ·rw[if_neg c4]at H;exact absurd H (by simp)
 ·rw[if_neg c2]at H;have c2b0:decide (224≤a0)=false:=decide_eq_false c2;clear c2;by_cases c9:a0≥192
  ·rw[if_pos c9]at H;have c9b0:decide (192≤a0)=true:=decide_eq_true c9;clear c9;obtain⟨ji10,hji10⟩:∃j_:Int,(wrap64 (a0-192))=j_:=⟨_,rfl⟩;replace H:(if 0≤(ji10)then(if(ji10)<(y251.length:Int)then(some (rd y251 (ji10)))else(none))else(none))=some r:=by first|(rw[hji10]at H;exact H)|(simp only[hji10]at H⊢;exact H)
   have hji10w:(IntKind.i64.wrap (a0-192))=ji10:=(i64_w _).trans hji10;by_cases c11:0≤(ji10)
   ·rw[if_pos c11]at H;have c11b0:decide (0≤(ji10))=true:=decide_eq_true c11;clear c11;by_cases c12:(ji10)<(y251.length:Int)
    ·rw[if_pos c12]at H;have c12b0:decide ((ji10)<(y251.length:Int))=true:=decide_eq_true c12;clear c12;obtain rfl:=Option.some.inj H;go_enter Tryd.func65,Tryd.ntmps65
     go_wp2_with (first|((with_reducible refine gate_dst (N:=4) rfl ?_);refine Kd.R_lit (Kd.int .i64) _ 3 ?hg (N:=4) ?hd (xs:=([1102,1072,1073,1094,1076,1077,1092,1075,1093,1080,1081,1082,1083,1084,1085,1086,1087,1103,1088,1089,1090,1091,1078,1074,1100,1099,1079,1096,1101,1097,1095,1098]:List Int)) (inner:=[.int .i64 1102,.int .i64 1072,.int .i64 1073,.int .i64 1094,.int .i64 1076,.int .i64 1077,.int .i64 1092,.int .i64 1075,.int .i64 1093,.int .i64 1080,.int .i64 1081,.int .i64 1082,.int .i64 1083,.int .i64 1084,.int .i64 1085,.int .i64 1086,.int .i64 1087,.int .i64 1103,.int .i64 1088,.int .i64 1089,.int .i64 1090,.int .i64 1091,.int .i64 1078,.int .i64 1074,.int .i64 1100,.int .i64 1099,.int .i64 1079,.int .i64 1096,.int .i64 1101,.int .i64 1097,.int .i64 1095,.int .i64 1098]) (ok:=fun _=>True) (okp:=fun _=>True) ?hr ?hp (fun _ hk=>hk) trivial (Below.refl _ _) (Nat.le_refl _) (by simp) ?_;(case hd=>rfl);(case hg=>rfl);(case hr=>first|(go_simp;done)|(go_simp;rfl));(case hp=>exact rp_);intro v252 w13 ho14 hb hg_ hnew_;clear hg_ hnew_;(first|rw[←Ny251.out]at ho14|(simp only[Int.reduceToNat]at ho14;rw[←Ny251.out]at ho14));have HO253:=Aside0.mk (Kd.R_lower ho14 (below_size hb_));replace HB:=Aside0.mk (below_step hb_ hb);clear hb ho14;obtain⟨Ao15,co15,eo15⟩:=Kd.R_slice HO253.out;subst eo15;have p255:0≤((ji10):Int):=of_decide_eq_true as_;have q255:(ji10)<(y251.length:Int):=of_decide_eq_true as_;obtain⟨ad255,e255,hx255_0⟩:=Kd.at_int (Kd.R_reads' HO253.out).2.2 (ji10) p255 q255;cases e255;replace p255:=eq_true p255;replace q255:=eq_true q255))
     go_ret
     exact⟨by first|rfl|(simp[errW_none,errW_some]<;>rfl)|(simp only[←hji10];first|rfl|(simp[errW_none,errW_some]<;>rfl))|(simp[*,errW_none,errW_some]<;>rfl),hb_⟩
    ·rw[if_neg c12]at H;exact absurd H (by simp)
   ·rw[if_neg c11]at H;exact absurd H (by simp)
  ·rw[if_neg c9]at H;have c9b0:decide (192≤a0)=false:=decide_eq_false c9;clear c9;by_cases c16:a0=163
   ·rw[if_pos c16]at H;have c16b0:(a0==163)=true:=beq_iff_eq.mpr c16;have c16b1:(a0 != 163)=false:=bne_eq_false_iff_eq.mpr c16;clear c16;obtain rfl:=Option.some.inj H;go_enter Tryd.func65,Tryd.ntmps65
    go_wp2_with (first|((with_reducible refine gate_dst (N:=4) rfl ?_);refine Kd.R_lit (Kd.int .i64) _ 3 ?hg (N:=4) ?hd (xs:=([1102,1072,1073,1094,1076,1077,1092,1075,1093,1080,1081,1082,1083,1084,1085,1086,1087,1103,1088,1089,1090,1091,1078,1074,1100,1099,1079,1096,1101,1097,1095,1098]:List Int)) (inner:=[.int .i64 1102,.int .i64 1072,.int .i64 1073,.int .i64 1094,.int .i64 1076,.int .i64 1077,.int .i64 1092,.int .i64 1075,.int .i64 1093,.int .i64 1080,.int .i64 1081,.int .i64 1082,.int .i64 1083,.int .i64 1084,.int .i64 1085,.int .i64 1086,.int .i64 1087,.int .i64 1103,.int .i64 1088,.int .i64 1089,.int .i64 1090,.int .i64 1091,.int .i64 1078,.int .i64 1074,.int .i64 1100,.int .i64 1099,.int .i64 1079,.int .i64 1096,.int .i64 1101,.int .i64 1097,.int .i64 1095,.int .i64 1098]) (ok:=fun _=>True) (okp:=fun _=>True) ?hr ?hp (fun _ hk=>hk) trivial (Below.refl _ _) (Nat.le_refl _) (by simp) ?_;(case hd=>rfl);(case hg=>rfl);(case hr=>first|(go_simp;done)|(go_simp;rfl));(case hp=>exact rp_);intro v252 w17 ho18 hb hg_ hnew_;clear hg_ hnew_;(first|rw[←Ny251.out]at ho18|(simp only[Int.reduceToNat]at ho18;rw[←Ny251.out]at ho18));have HO253:=Aside0.mk (Kd.R_lower ho18 (below_size hb_));replace HB:=Aside0.mk (below_step hb_ hb);clear hb ho18))
    go_ret
    exact⟨rf_,hb_⟩
   ·rw[if_neg c16]at H;have c16b0:(a0==163)=false:=beq_eq_false_iff_ne.mpr c16;have c16b1:(a0 != 163)=true:=bne_iff_ne.mpr c16;by_cases c19:a0=179
    ·rw[if_pos c19]at H;have c19b0:(a0==179)=true:=beq_iff_eq.mpr c19;have c19b1:(a0 != 179)=false:=bne_eq_false_iff_eq.mpr c19;clear c19;obtain rfl:=Option.some.inj H;go_enter Tryd.func65,Tryd.ntmps65
     go_wp2_with (first|((with_reducible refine gate_dst (N:=4) rfl ?_);refine Kd.R_lit (Kd.int .i64) _ 3 ?hg (N:=4) ?hd (xs:=([1102,1072,1073,1094,1076,1077,1092,1075,1093,1080,1081,1082,1083,1084,1085,1086,1087,1103,1088,1089,1090,1091,1078,1074,1100,1099,1079,1096,1101,1097,1095,1098]:List Int)) (inner:=[.int .i64 1102,.int .i64 1072,.int .i64 1073,.int .i64 1094,.int .i64 1076,.int .i64 1077,.int .i64 1092,.int .i64 1075,.int .i64 1093,.int .i64 1080,.int .i64 1081,.int .i64 1082,.int .i64 1083,.int .i64 1084,.int .i64 1085,.int .i64 1086,.int .i64 1087,.int .i64 1103,.int .i64 1088,.int .i64 1089,.int .i64 1090,.int .i64 1091,.int .i64 1078,.int .i64 1074,.int .i64 1100,.int .i64 1099,.int .i64 1079,.int .i64 1096,.int .i64 1101,.int .i64 1097,.int .i64 1095,.int .i64 1098]) (ok:=fun _=>True) (okp:=fun _=>True) ?hr ?hp (fun _ hk=>hk) trivial (Below.refl _ _) (Nat.le_refl _) (by simp) ?_;(case hd=>rfl);(case hg=>rfl);(case hr=>first|(go_simp;done)|(go_simp;rfl));(case hp=>exact rp_);intro v252 w20 ho21 hb hg_ hnew_;clear hg_ hnew_;(first|rw[←Ny251.out]at ho21|(simp only[Int.reduceToNat]at ho21;rw[←Ny251.out]at ho21));have HO253:=Aside0.mk (Kd.R_lower ho21 (below_size hb_));replace HB:=Aside0.mk (below_step hb_ hb);clear hb ho21))
     go_ret
     exact⟨rf_,hb_⟩
    ·rw[if_neg c19]at H;have c19b0:(a0==179)=false:=beq_eq_false_iff_ne.mpr c19;have c19b1:(a0 != 179)=true:=bne_iff_ne.mpr c19;obtain rfl:=Option.some.inj H;go_enter Tryd.func65,Tryd.ntmps65
     go_wp2_with (first|((with_reducible refine gate_dst (N:=4) rfl ?_);refine Kd.R_lit (Kd.int .i64) _ 3 ?hg (N:=4) ?hd (xs:=([1102,1072,1073,1094,1076,1077,1092,1075,1093,1080,1081,1082,1083,1084,1085,1086,1087,1103,1088,1089,1090,1091,1078,1074,1100,1099,1079,1096,1101,1097,1095,1098]:List Int)) (inner:=[.int .i64 1102,.int .i64 1072,.int .i64 1073,.int .i64 1094,.int .i64 1076,.int .i64 1077,.int .i64 1092,.int .i64 1075,.int .i64 1093,.int .i64 1080,.int .i64 1081,.int .i64 1082,.int .i64 1083,.int .i64 1084,.int .i64 1085,.int .i64 1086,.int .i64 1087,.int .i64 1103,.int .i64 1088,.int .i64 1089,.int .i64 1090,.int .i64 1091,.int .i64 1078,.int .i64 1074,.int .i64 1100,.int .i64 1099,.int .i64 1079,.int .i64 1096,.int .i64 1101,.int .i64 1097,.int .i64 1095,.int .i64 1098]) (ok:=fun _=>True) (okp:=fun _=>True) ?hr ?hp (fun _ hk=>hk) trivial (Below.refl _ _) (Nat.le_refl _) (by simp) ?_;(case hd=>rfl);(case hg=>rfl);(case hr=>first|(go_simp;done)|(go_simp;rfl));(case hp=>exact rp_);intro v252 w22 ho23 hb hg_ hnew_;clear hg_ hnew_;(first|rw[←Ny251.out]at ho23|(simp only[Int.reduceToNat]at ho23;rw[←Ny251.out]at ho23));have HO253:=Aside0.mk (Kd.R_lower ho23 (below_size hb_));replace HB:=Aside0.mk (below_step hb_ hb);clear hb ho23))
     go_ret
     exact⟨rf_,hb_⟩
def spec_l3Win.f (a0:Int):Option (Int):=(some (([8364,(-1),8218,402,8222,8230,8224,8225,710,8240,352,8249,338,(-1),381,(-1),(-1),8216,8217,8220,8221,8226,8211,8212,732,8482,353,8250,339,(-1),382,376]:List Int):List Int)).bind fun y256=>(if a0≥160 then(some a0)else(if 0≤(wrap64 (a0-128))then(if(wrap64 (a0-128))<(y256.length:Int)then(some (rd y256 (wrap64 (a0-128))))else(none))else(none)))
set_option maxHeartbeats 8000000 in
set_option maxRecDepth 100000 in
theorem spec_l3Win.calls (a0:Int) (r:Int) (w:World) (h:spec_l3Win.f a0=some r):
  Calls Tryd.prog 66 #[.int .i64 a0] w fun e w'=>e= .returned (.int .i64 r)∧Below w.heap.size w w':=by
 have HB:=Aside0.mk (Below.refl w.heap.size w);have H:((some (([8364,(-1),8218,402,8222,8230,8224,8225,710,8240,352,8249,338,(-1),381,(-1),(-1),8216,8217,8220,8221,8226,8211,8212,732,8482,353,8250,339,(-1),382,376]:List Int):List Int)).bind fun y256=>(if a0≥160 then(some a0)else(if 0≤(wrap64 (a0-128))then(if(wrap64 (a0-128))<(y256.length:Int)then(some (rd y256 (wrap64 (a0-128))))else(none))else(none))))=some r:=h;clear h;obtain⟨y256,hy256⟩:∃y_:List Int,y_=(([8364,(-1),8218,402,8222,8230,8224,8225,710,8240,352,8249,338,(-1),381,(-1),(-1),8216,8217,8220,8221,8226,8211,8212,732,8482,353,8250,339,(-1),382,376]:List Int)):=⟨_,rfl⟩;replace H:(if a0≥160 then(some a0)else(if 0≤(wrap64 (a0-128))then(if(wrap64 (a0-128))<(y256.length:Int)then(some (rd y256 (wrap64 (a0-128))))else(none))else(none)))=some r:=by first|(rw[hy256];with_reducible exact H)|(have H2_:=(Option.bind_some _ _).symm.trans H;rw[hy256];with_reducible exact H2_)|(have H2_:=(Option.bind_some _ _).symm.trans H;with_reducible exact H2_)|with_reducible exact H|(rw[hy256];exact H)|exact H
 have Ny256:=Aside0.mk hy256;clear hy256;by_cases c2:a0≥160
 ·rw[if_pos c2]at H;have c2b0:decide (160≤a0)=true:=decide_eq_true c2;clear c2;obtain rfl:=Option.some.inj H;go_enter Tryd.func66,Tryd.ntmps66
  go_wp2_with (first|((with_reducible refine gate_dst (N:=4) rfl ?_);refine Kd.R_lit (Kd.int .i64) _ 3 ?hg (N:=4) ?hd (xs:=([8364,(-1),8218,402,8222,8230,8224,8225,710,8240,352,8249,338,(-1),381,(-1),(-1),8216,8217,8220,8221,8226,8211,8212,732,8482,353,8250,339,(-1),382,376]:List Int)) (inner:=[.int .i64 8364,.int .i64 (-1),.int .i64 8218,.int .i64 402,.int .i64 8222,.int .i64 8230,.int .i64 8224,.int .i64 8225,.int .i64 710,.int .i64 8240,.int .i64 352,.int .i64 8249,.int .i64 338,.int .i64 (-1),.int .i64 381,.int .i64 (-1),.int .i64 (-1),.int .i64 8216,.int .i64 8217,.int .i64 8220,.int .i64 8221,.int .i64 8226,.int .i64 8211,.int .i64 8212,.int .i64 732,.int .i64 8482,.int .i64 353,.int .i64 8250,.int .i64 339,.int .i64 (-1),.int .i64 382,.int .i64 376]) (ok:=fun _=>True) (okp:=fun _=>True) ?hr ?hp (fun _ hk=>hk) trivial (Below.refl _ _) (Nat.le_refl _) (by simp) ?_;(case hd=>rfl);(case hg=>rfl);(case hr=>first|(go_simp;done)|(go_simp;rfl));(case hp=>exact rp_);intro v257 w3 ho4 hb hg_ hnew_;clear hg_ hnew_;(first|rw[←Ny256.out]at ho4|(simp only[Int.reduceToNat]at ho4;rw[←Ny256.out]at ho4));have HO258:=Aside0.mk (Kd.R_lower ho4 (below_size hb_));replace HB:=Aside0.mk (below_step hb_ hb);clear hb ho4))
  go_ret
  exact⟨rf_,hb_⟩
 ·rw[if_neg c2]at H;have c2b0:decide (160≤a0)=false:=decide_eq_false c2;clear c2;obtain⟨ji5,hji5⟩:∃j_:Int,(wrap64 (a0-128))=j_:=⟨_,rfl⟩;replace H:(if 0≤(ji5)then(if(ji5)<(y256.length:Int)then(some (rd y256 (ji5)))else(none))else(none))=some r:=by first|(rw[hji5]at H;exact H)|(simp only[hji5]at H⊢;exact H)
  have hji5w:(IntKind.i64.wrap (a0-128))=ji5:=(i64_w _).trans hji5;by_cases c6:0≤(ji5)
  ·rw[if_pos c6]at H;have c6b0:decide (0≤(ji5))=true:=decide_eq_true c6;clear c6;by_cases c7:(ji5)<(y256.length:Int)
   ·rw[if_pos c7]at H;have c7b0:decide ((ji5)<(y256.length:Int))=true:=decide_eq_true c7;clear c7;obtain rfl:=Option.some.inj H;go_enter Tryd.func66,Tryd.ntmps66
    go_wp2_with (first|((with_reducible refine gate_dst (N:=4) rfl ?_);refine Kd.R_lit (Kd.int .i64) _ 3 ?hg (N:=4) ?hd (xs:=([8364,(-1),8218,402,8222,8230,8224,8225,710,8240,352,8249,338,(-1),381,(-1),(-1),8216,8217,8220,8221,8226,8211,8212,732,8482,353,8250,339,(-1),382,376]:List Int)) (inner:=[.int .i64 8364,.int .i64 (-1),.int .i64 8218,.int .i64 402,.int .i64 8222,.int .i64 8230,.int .i64 8224,.int .i64 8225,.int .i64 710,.int .i64 8240,.int .i64 352,.int .i64 8249,.int .i64 338,.int .i64 (-1),.int .i64 381,.int .i64 (-1),.int .i64 (-1),.int .i64 8216,.int .i64 8217,.int .i64 8220,.int .i64 8221,.int .i64 8226,.int .i64 8211,.int .i64 8212,.int .i64 732,.int .i64 8482,.int .i64 353,.int .i64 8250,.int .i64 339,.int .i64 (-1),.int .i64 382,.int .i64 376]) (ok:=fun _=>True) (okp:=fun _=>True) ?hr ?hp (fun _ hk=>hk) trivial (Below.refl _ _) (Nat.le_refl _) (by simp) ?_;(case hd=>rfl);(case hg=>rfl);(case hr=>first|(go_simp;done)|(go_simp;rfl));(case hp=>exact rp_);intro v257 w8 ho9 hb hg_ hnew_;clear hg_ hnew_;(first|rw[←Ny256.out]at ho9|(simp only[Int.reduceToNat]at ho9;rw[←Ny256.out]at ho9));have HO258:=Aside0.mk (Kd.R_lower ho9 (below_size hb_));replace HB:=Aside0.mk (below_step hb_ hb);clear hb ho9;obtain⟨Ao10,co10,eo10⟩:=Kd.R_slice HO258.out;subst eo10;have p259:0≤((ji5):Int):=of_decide_eq_true as_;have q259:(ji5)<(y256.length:Int):=of_decide_eq_true as_;obtain⟨ad259,e259,hx259_0⟩:=Kd.at_int (Kd.R_reads' HO258.out).2.2 (ji5) p259 q259;cases e259;replace p259:=eq_true p259;replace q259:=eq_true q259))
    go_ret
    exact⟨by first|rfl|(simp[errW_none,errW_some]<;>rfl)|(simp only[←hji5];first|rfl|(simp[errW_none,errW_some]<;>rfl))|(simp[*,errW_none,errW_some]<;>rfl),hb_⟩
   ·rw[if_neg c7]at H;exact absurd H (by simp)
  ·rw[if_neg c6]at H;exact absurd H (by simp)
def spec_ByteSign.j0:Nat→Int→Int→Bool→Option (Int×Bool)
 |0,_,_,_=>none
 |k+1,x0,x1,x14=>if x14=true then(some (0,false))else(if x1≥128 then(if x0=2 then((spec_l3Nine.f x1).bind fun t262=>(if t262<0 then(some (0,false))else(some (t262,true))))else(if x0=3 then((spec_l3Koi.f x1).bind fun t263=>(if t263<0 then(some (0,false))else(some (t263,true))))else(if x0=4 then((spec_l3Win.f x1).bind fun t264=>(if t264<0 then(some (0,false))else(some (t264,true))))else(if x1<0 then(some (0,false))else(some (x1,true))))))else(if x1<0 then(some (0,false))else(some (x1,true))))
def spec_ByteSign.f (k:Nat) (a0:Int) (a1:Int):Option (Int×Bool):=(spec_l1In.f a0 1 4).bind fun t260=>(if t260=true then((spec_l1In.f a1 0 255).bind fun t261=>(spec_ByteSign.j0 k a0 a1 (!t261)))else(spec_ByteSign.j0 k a0 a1 true))
theorem spec_ByteSign.mono_l:∀k,(∀y0 y1 y2,LeO (spec_ByteSign.j0 k y0 y1 y2) (spec_ByteSign.j0 (k+1) y0 y1 y2))
 |0=>fun _ _ _ r h=>by simp[spec_ByteSign.j0]at h
 |k+1=>by
  have ih0:=spec_ByteSign.mono_l k
  ·intro y0 y1 y2;unfold spec_ByteSign.j0
   repeat' first
   |(with_reducible exact ih0 _ _ _)
   |(with_reducible exact LeO.refl _)
   |(with_reducible exact LeO.none _)
   |(with_reducible refine LeO.ite ?_ ?_)
   |(with_reducible refine LeO.bind ?_ (fun _=>?_))
   |exact ih0 _ _ _
   |exact LeO.none _
   |refine LeO.ite ?_ ?_
   |refine LeO.bind ?_ (fun _=>?_)
theorem spec_ByteSign.mono:∀a0 a1 k,LeO (spec_ByteSign.f k a0 a1) (spec_ByteSign.f (k+1) a0 a1):=by
 intro a0 a1 k;have ih0:=spec_ByteSign.mono_l k;unfold spec_ByteSign.f
 repeat' first
   |(with_reducible exact ih0 _ _ _)
   |(with_reducible exact LeO.refl _)
   |(with_reducible exact LeO.none _)
   |(with_reducible refine LeO.ite ?_ ?_)
   |(with_reducible refine LeO.bind ?_ (fun _=>?_))
   |exact ih0 _ _ _
   |exact LeO.none _
   |refine LeO.ite ?_ ?_
   |refine LeO.bind ?_ (fun _=>?_)
set_option maxHeartbeats 8000000 in
set_option maxRecDepth 100000 in
theorem spec_ByteSign.calls (k:Nat) (a0:Int) (a1:Int) (r1:Int) (r2:Bool) (w:World) (h:spec_ByteSign.f k a0 a1=some (r1,r2)):
  Calls Tryd.prog 46 #[.int .i64 a0,.int .i64 a1] w fun e w'=>e= .returned (.tuple #[.int .i64 r1,.bool r2])∧Below w.heap.size w w':=by
 have HB:=Aside0.mk (Below.refl w.heap.size w);have H:((spec_l1In.f a0 1 4).bind fun t260=>(if t260=true then((spec_l1In.f a1 0 255).bind fun t261=>(spec_ByteSign.j0 k a0 a1 (!t261)))else(spec_ByteSign.j0 k a0 a1 true)))=some (r1,r2):=h;clear h;have HC3:=Aside0.mk H;clear H;go_enter Tryd.func46,Tryd.ntmps46
 go_upto_region 1 with (fail)
 go_cut [14] (fun v14 wc=>∃(kq:Nat) (x14_2:Bool),v14= .bool x14_2∧Aside0 (spec_ByteSign.j0 kq a0 a1 x14_2=some (r1,r2))∧Aside0 (kq≤k)∧Aside0 (Below w.heap.size w wc))
 case first=>
  have H:=HC3.out;clear HC3;replace H:=Option.bind_eq_some_iff.mp H;obtain⟨t260,A40,H⟩:=H;try dsimp only at H
  have A4:=Aside0.mk A40;clear A40;by_cases c5:t260=true
  ·subst c5;rw[if_pos rfl]at H;replace H:=Option.bind_eq_some_iff.mp H;obtain⟨t261,A60,H⟩:=H;try dsimp only at H
   have A6:=Aside0.mk A60;clear A60;have H':=Aside0.mk H;clear H;go_wp2_with (first|((with_reducible refine gate_callee (f:=49) rfl ?_);refine goesL_ (some 8) rfl rfl Tryd.func49 (by kernel_rfl) rfl #[.int .i64 a0,.int .i64 1,.int .i64 4] rfl ka_ ?_;(with_reducible refine(spec_l1In.calls a0 1 4 true _ A4.out).mono ?_);rintro e w' ⟨rfl,⟨nd,rfl⟩⟩;refine⟨_,rfl,?_⟩)|(go_at_call 49;(with_reducible refine(spec_l1In.calls a1 0 255 t261 _ A6.out).mono ?_);rintro e w' ⟨rfl,⟨nd,rfl⟩⟩))
   go_meet
   case rel=>exact⟨_,(!t261),(by first|rfl|(simp;done)|(simp[*];done)),H',⟨by first|omega|exact Nat.le_refl _⟩,⟨by repeat(first|(with_reducible first|exact HB.out|apply below_alloc|apply pw_below_drewN|apply below_drew1)|exact HB.out)⟩⟩
  ·replace c5:=Bool.eq_false_iff.mpr c5;subst c5;rw[if_neg (show ¬(false=true) by decide)]at H;have H':=Aside0.mk H;clear H;go_wp2_with (first|((with_reducible refine gate_callee (f:=49) rfl ?_);refine goesL_ (some 8) rfl rfl Tryd.func49 (by kernel_rfl) rfl #[.int .i64 a0,.int .i64 1,.int .i64 4] rfl ka_ ?_;(with_reducible refine(spec_l1In.calls a0 1 4 false _ A4.out).mono ?_);rintro e w' ⟨rfl,⟨nd,rfl⟩⟩;refine⟨_,rfl,?_⟩))
   go_meet
   case rel=>exact⟨_,(true),(by first|rfl|(simp;done)|(simp[*];done)),H',⟨by first|omega|exact Nat.le_refl _⟩,⟨by repeat(first|(with_reducible first|exact HB.out|apply below_alloc|apply pw_below_drewN|apply below_drew1)|exact HB.out)⟩⟩
 case rest=>
  clear HC3;try clear p2
  try clear c4
  try clear c5
  obtain⟨kq,x14_2,rfl,HA,HJ2,HB⟩:=hcut
  cases kq with
  |zero=>exact absurd HA.out (by simp[spec_ByteSign.j0])
  |succ kj2=>
   have H:=HA.out;clear HA;simp only[spec_ByteSign.j0]at H;by_cases c7:x14_2=true
   ·subst c7;rw[if_pos rfl]at H;simp only[Option.some.injEq,Prod.mk.injEq]at H;obtain⟨rfl,rfl⟩:=H;go_wp2
    go_ret2
    exact⟨rf_,hb_⟩
   ·replace c7:=Bool.eq_false_iff.mpr c7;subst c7;rw[if_neg (show ¬(false=true) by decide)]at H;by_cases c8:a1≥128
    ·rw[if_pos c8]at H;have c8b0:decide (128≤a1)=true:=decide_eq_true c8;clear c8;by_cases c9:a0=2
     ·rw[if_pos c9]at H;have c9b0:(a0==2)=true:=beq_iff_eq.mpr c9;have c9b1:(a0 != 2)=false:=bne_eq_false_iff_eq.mpr c9;clear c9;replace H:=Option.bind_eq_some_iff.mp H;obtain⟨t262,A100,H⟩:=H;try dsimp only at H
      have A10:=Aside0.mk A100;clear A100;by_cases c11:t262<0
      ·rw[if_pos c11]at H;have c11b0:decide (t262<0)=true:=decide_eq_true c11;clear c11;simp only[Option.some.injEq,Prod.mk.injEq]at H;obtain⟨rfl,rfl⟩:=H;go_wp2_with (first|((with_reducible refine gate_callee (f:=64) rfl ?_);refine goesL_ (some 22) rfl rfl Tryd.func64 (by kernel_rfl) rfl #[.int .i64 a1] rfl ka_ ?_;(with_reducible refine(spec_l3Nine.calls a1 t262 _ A10.out).mono ?_);rintro e w' ⟨rfl,⟨nd,rfl⟩⟩;refine⟨_,rfl,?_⟩))
       go_ret2
       exact⟨rf_,hb_⟩
      ·rw[if_neg c11]at H;have c11b0:decide (t262<0)=false:=decide_eq_false c11;clear c11;simp only[Option.some.injEq,Prod.mk.injEq]at H;obtain⟨rfl,rfl⟩:=H;go_wp2_with (first|((with_reducible refine gate_callee (f:=64) rfl ?_);refine goesL_ (some 22) rfl rfl Tryd.func64 (by kernel_rfl) rfl #[.int .i64 a1] rfl ka_ ?_;(with_reducible refine(spec_l3Nine.calls a1 t262 _ A10.out).mono ?_);rintro e w' ⟨rfl,⟨nd,rfl⟩⟩;refine⟨_,rfl,?_⟩))
       go_ret2
       exact⟨rf_,hb_⟩
     ·rw[if_neg c9]at H;have c9b0:(a0==2)=false:=beq_eq_false_iff_ne.mpr c9;have c9b1:(a0 != 2)=true:=bne_iff_ne.mpr c9;by_cases c12:a0=3
      ·rw[if_pos c12]at H;have c12b0:(a0==3)=true:=beq_iff_eq.mpr c12;have c12b1:(a0 != 3)=false:=bne_eq_false_iff_eq.mpr c12;clear c12;replace H:=Option.bind_eq_some_iff.mp H;obtain⟨t263,A130,H⟩:=H;try dsimp only at H
       have A13:=Aside0.mk A130;clear A130;by_cases c14:t263<0
       ·rw[if_pos c14]at H;have c14b0:decide (t263<0)=true:=decide_eq_true c14;clear c14;simp only[Option.some.injEq,Prod.mk.injEq]at H;obtain⟨rfl,rfl⟩:=H;go_wp2_with (first|((with_reducible refine gate_callee (f:=65) rfl ?_);refine goesL_ (some 26) rfl rfl Tryd.func65 (by kernel_rfl) rfl #[.int .i64 a1] rfl ka_ ?_;(with_reducible refine(spec_l3Koi.calls a1 t263 _ A13.out).mono ?_);rintro e w15 ⟨rfl,hb⟩;refine⟨_,rfl,?_⟩;replace HB:=Aside0.mk (below_step hb_ hb);try clear hb))
        go_ret2
        exact⟨rf_,hb_⟩
       ·rw[if_neg c14]at H;have c14b0:decide (t263<0)=false:=decide_eq_false c14;clear c14;simp only[Option.some.injEq,Prod.mk.injEq]at H;obtain⟨rfl,rfl⟩:=H;go_wp2_with (first|((with_reducible refine gate_callee (f:=65) rfl ?_);refine goesL_ (some 26) rfl rfl Tryd.func65 (by kernel_rfl) rfl #[.int .i64 a1] rfl ka_ ?_;(with_reducible refine(spec_l3Koi.calls a1 t263 _ A13.out).mono ?_);rintro e w16 ⟨rfl,hb⟩;refine⟨_,rfl,?_⟩;replace HB:=Aside0.mk (below_step hb_ hb);try clear hb))
        go_ret2
        exact⟨rf_,hb_⟩
      ·rw[if_neg c12]at H;have c12b0:(a0==3)=false:=beq_eq_false_iff_ne.mpr c12;have c12b1:(a0 != 3)=true:=bne_iff_ne.mpr c12;by_cases c17:a0=4
       ·rw[if_pos c17]at H;have c17b0:(a0==4)=true:=beq_iff_eq.mpr c17;have c17b1:(a0 != 4)=false:=bne_eq_false_iff_eq.mpr c17;clear c17;replace H:=Option.bind_eq_some_iff.mp H;obtain⟨t264,A180,H⟩:=H;try dsimp only at H
        have A18:=Aside0.mk A180;clear A180;by_cases c19:t264<0
        ·rw[if_pos c19]at H;have c19b0:decide (t264<0)=true:=decide_eq_true c19;clear c19;simp only[Option.some.injEq,Prod.mk.injEq]at H;obtain⟨rfl,rfl⟩:=H;go_wp2_with (first|((with_reducible refine gate_callee (f:=66) rfl ?_);refine goesL_ (some 30) rfl rfl Tryd.func66 (by kernel_rfl) rfl #[.int .i64 a1] rfl ka_ ?_;(with_reducible refine(spec_l3Win.calls a1 t264 _ A18.out).mono ?_);rintro e w20 ⟨rfl,hb⟩;refine⟨_,rfl,?_⟩;replace HB:=Aside0.mk (below_step hb_ hb);try clear hb))
         go_ret2
         exact⟨rf_,hb_⟩
        ·rw[if_neg c19]at H;have c19b0:decide (t264<0)=false:=decide_eq_false c19;clear c19;simp only[Option.some.injEq,Prod.mk.injEq]at H;obtain⟨rfl,rfl⟩:=H;go_wp2_with (first|((with_reducible refine gate_callee (f:=66) rfl ?_);refine goesL_ (some 30) rfl rfl Tryd.func66 (by kernel_rfl) rfl #[.int .i64 a1] rfl ka_ ?_;(with_reducible refine(spec_l3Win.calls a1 t264 _ A18.out).mono ?_);rintro e w21 ⟨rfl,hb⟩;refine⟨_,rfl,?_⟩;replace HB:=Aside0.mk (below_step hb_ hb);try clear hb))
         go_ret2
         exact⟨rf_,hb_⟩
       ·rw[if_neg c17]at H;have c17b0:(a0==4)=false:=beq_eq_false_iff_ne.mpr c17;have c17b1:(a0 != 4)=true:=bne_iff_ne.mpr c17;by_cases c22:a1<0
        ·rw[if_pos c22]at H;have c22b0:decide (a1<0)=true:=decide_eq_true c22;clear c22;simp only[Option.some.injEq,Prod.mk.injEq]at H;obtain⟨rfl,rfl⟩:=H;go_wp2
         go_ret2
         exact⟨rf_,hb_⟩
        ·rw[if_neg c22]at H;have c22b0:decide (a1<0)=false:=decide_eq_false c22;clear c22;simp only[Option.some.injEq,Prod.mk.injEq]at H;obtain⟨rfl,rfl⟩:=H;go_wp2
         go_ret2
         exact⟨rf_,hb_⟩
    ·rw[if_neg c8]at H;have c8b0:decide (128≤a1)=false:=decide_eq_false c8;clear c8;by_cases c23:a1<0
     ·rw[if_pos c23]at H;have c23b0:decide (a1<0)=true:=decide_eq_true c23;clear c23;simp only[Option.some.injEq,Prod.mk.injEq]at H;obtain⟨rfl,rfl⟩:=H;go_wp2
      go_ret2
      exact⟨rf_,hb_⟩
     ·rw[if_neg c23]at H;have c23b0:decide (a1<0)=false:=decide_eq_false c23;clear c23;simp only[Option.some.injEq,Prod.mk.injEq]at H;obtain⟨rfl,rfl⟩:=H;go_wp2
      go_ret2
      exact⟨rf_,hb_⟩
end Go.Proofs.YtjadcnkelffdgaaDoor.QFnStreamsBent
