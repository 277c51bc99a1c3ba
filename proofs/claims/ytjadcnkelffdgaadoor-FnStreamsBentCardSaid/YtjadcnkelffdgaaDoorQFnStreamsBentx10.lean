/- The functions that a law reaches, each as a plain function, and that Go comes to just its answer: written by the session's program pp.py (the kit's print, with a few rows turned). -/
import Derived.Test.YtjadcnkelffdgaaDoorQFnStreamsBentx0
import Derived.Test.YtjadcnkelffdgaaDoorQFnStreamsBentx9
namespace Go.Proofs.YtjadcnkelffdgaaDoor.QFnStreamsBent
open Go.RowKit Go.Proofs.YtjadcnkelffdgaaDoorW.PrintWords Go.Proofs.YtjadcnkelffdgaaDoorW.PrintLast Go.Proofs.YtjadcnkelffdgaaDoorW.PrintMore Go.Proofs.YtjadcnkelffdgaaDoor.Xw Go.Proofs.YtjadcnkelffdgaaDoor.Xs Go.Proofs.YtjadcnkelffdgaaDoor.Xr Go.Proofs.YtjadcnkelffdgaaDoor.Ext
attribute [local go_sem] max2_int min2_int max_two min_two max_three min_three max_four min_four
set_option linter.unusedVariables false
set_option linter.unusedSimpArgs false
def impl_GetSign.j0:Nat→List Int→Int→Bool→Option (Int×Int×Bool)
 |0,_,_,_=>none
 |k+1,x0,x1,x16=>if x16=true then(some (0,0,false))else(if 0≤x1 then(if x1≤(x0.length:Int)then((utf8_DecodeRune.f (x0.drop (x1:Int).toNat)).bind fun bt617=>(if bt617.1=65533 then(if bt617.2<2 then(some (0,0,false))else(some (wrap64 (bt617.1),wrap64 (x1+bt617.2),true)))else(some (wrap64 (bt617.1),wrap64 (x1+bt617.2),true))))else(none))else(none))
def impl_GetSign.f (k:Nat) (l0:List Int) (a1:Int):Option (Int×Int×Bool):=if a1<0 then(impl_GetSign.j0 k l0 a1 true)else(impl_GetSign.j0 k l0 a1 (decide (a1≥(l0.length:Int))))
theorem impl_GetSign.mono_l:∀k,(∀y0 y1 y2,LeO (impl_GetSign.j0 k y0 y1 y2) (impl_GetSign.j0 (k+1) y0 y1 y2))
 |0=>fun _ _ _ r h=>by simp[impl_GetSign.j0]at h
 |k+1=>by
  have ih0:=impl_GetSign.mono_l k
  ·intro y0 y1 y2;unfold impl_GetSign.j0
   repeat' first
   |(with_reducible exact ih0 _ _ _)
   |(with_reducible exact LeO.refl _)
   |(with_reducible exact LeO.none _)
   |(with_reducible refine LeO.ite ?_ ?_)
   |(with_reducible refine LeO.bind ?_ (fun _=>?_))
   |exact ih0 _ _ _
   |exact LeO.none _
   |refine LeO.ite ?_ ?_
   |refine LeO.bind ?_ (fun _=>?_)
theorem impl_GetSign.mono:∀a0 a1 k,LeO (impl_GetSign.f k a0 a1) (impl_GetSign.f (k+1) a0 a1):=by
 intro a0 a1 k;have ih0:=impl_GetSign.mono_l k;unfold impl_GetSign.f
 repeat' first
   |(with_reducible exact ih0 _ _ _)
   |(with_reducible exact LeO.refl _)
   |(with_reducible exact LeO.none _)
   |(with_reducible refine LeO.ite ?_ ?_)
   |(with_reducible refine LeO.bind ?_ (fun _=>?_))
   |exact ih0 _ _ _
   |exact LeO.none _
   |refine LeO.ite ?_ ?_
   |refine LeO.bind ?_ (fun _=>?_)
set_option maxHeartbeats 8000000 in
set_option maxRecDepth 100000 in
theorem impl_GetSign.calls (k:Nat) (A0:Option Addr) (c0:Nat) (l0:List Int) (a1:Int) (r1:Int) (r2:Int) (r3:Bool) (w:World) (hT:TabsOk w) (hr0:Kd.C (Kd.int .u8) w A0 l0.length l0) (hc0:l0.length≤c0) (h:impl_GetSign.f k l0 a1=some (r1,r2,r3)):
  Calls Tryd.prog 37 #[.slice A0 l0.length c0,.int .i64 a1] w fun e w'=>e= .returned (.tuple #[.int .i64 r1,.int .i64 r2,.bool r3])∧Below w.heap.size w w':=by
 have HT:=Aside0.mk hT;clear hT;have HR0:=Aside0.mk hr0;have HC0:=Aside0.mk hc0;clear hr0 hc0;have HB:=Aside0.mk (Below.refl w.heap.size w);have H:(if a1<0 then(impl_GetSign.j0 k l0 a1 true)else(impl_GetSign.j0 k l0 a1 (decide (a1≥(l0.length:Int)))))=some (r1,r2,r3):=h;clear h;have HC3:=Aside0.mk H;clear H;go_enter Tryd.func37,Tryd.ntmps37
 go_upto_region 1 with (fail)
 go_cut [16] (fun v16 wc=>∃(kq:Nat) (x16_2:Bool),v16= .bool x16_2∧Aside0 (impl_GetSign.j0 kq l0 a1 x16_2=some (r1,r2,r3))∧Aside0 (kq≤k)∧Aside0 (Below w.heap.size w wc))
 case first=>
  have H:=HC3.out;clear HC3;by_cases c4:a1<0
  ·rw[if_pos c4]at H;have c4b0:decide (a1<0)=true:=decide_eq_true c4;clear c4;(first|rw[c4b0]|(simp only[i64_w,i32_w];rw[c4b0])|skip)
   have H':=Aside0.mk H;clear H;go_wp2
   go_meet
   case rel=>exact⟨_,(true),(by first|rfl|(simp;done)|(simp[*];done)),H',⟨by first|omega|exact Nat.le_refl _⟩,⟨by repeat(first|(with_reducible first|exact HB.out|apply below_alloc|apply pw_below_drewN|apply below_drew1)|exact HB.out)⟩⟩
  ·rw[if_neg c4]at H;have c4b0:decide (a1<0)=false:=decide_eq_false c4;clear c4;(first|rw[c4b0]|(simp only[i64_w,i32_w];rw[c4b0])|skip)
   have H':=Aside0.mk H;clear H;go_wp2
   go_meet
   case rel=>exact⟨_,(decide (a1≥(l0.length:Int))),(by first|rfl|(simp;done)|(simp[*];done)),H',⟨by first|omega|exact Nat.le_refl _⟩,⟨by repeat(first|(with_reducible first|exact HB.out|apply below_alloc|apply pw_below_drewN|apply below_drew1)|exact HB.out)⟩⟩
 case rest=>
  clear HC3;try clear p2
  try clear c3
  try clear c4
  try clear c4b0
  obtain⟨kq,x16_2,rfl,HA,HJ2,HB⟩:=hcut
  cases kq with
  |zero=>exact absurd HA.out (by simp[impl_GetSign.j0])
  |succ kj2=>
   have H:=HA.out;clear HA;simp only[impl_GetSign.j0]at H;by_cases c5:x16_2=true
   ·subst c5;rw[if_pos rfl]at H;simp only[Option.some.injEq,Prod.mk.injEq]at H;obtain⟨rfl,rfl,rfl⟩:=H;go_wp2
    go_ret3
    exact⟨rf_,hb_⟩
   ·replace c5:=Bool.eq_false_iff.mpr c5;subst c5;rw[if_neg (show ¬(false=true) by decide)]at H;by_cases c6:0≤a1
    ·rw[if_pos c6]at H;have c6b0:=eq_true c6;have c6b1:decide (0≤a1)=true:=decide_eq_true c6;clear c6;by_cases c7:a1≤(l0.length:Int)
     ·rw[if_pos c7]at H;have c7b0:=eq_true c7;have c7b1:decide (a1≤(l0.length:Int))=true:=decide_eq_true c7;clear c7;replace H:=Option.bind_eq_some_iff.mp H;obtain⟨⟨t617,t618⟩,A80,H⟩:=H;try dsimp only at H
      have A8:=Aside0.mk A80;clear A80;by_cases c9:t617=65533
      ·rw[if_pos c9]at H;have c9b0:(t617==65533)=true:=beq_iff_eq.mpr c9;have c9b1:(t617 != 65533)=false:=bne_eq_false_iff_eq.mpr c9;clear c9;by_cases c10:t618<2
       ·rw[if_pos c10]at H;have c10b0:decide (t618<2)=true:=decide_eq_true c10;clear c10;simp only[Option.some.injEq,Prod.mk.injEq]at H;obtain⟨rfl,rfl,rfl⟩:=H;obtain⟨i011,hi011,_,hsz11,_⟩:=info_parts info5;obtain⟨A11,hcut11,hA11,hC11⟩:=print_drop_of (P:=Tryd.prog) (Value.int .u8) 0 22 5 .i64 Tryd.underlying22 hi011 hsz11 A0 c0 l0 a1 (of_decide_eq_true as_) (of_decide_eq_true as_) HC0.out;have HR616:=Aside0.mk (Kd.C_of_reads (h1:=fun _=>rfl) (hA11 _ (Kd.reads_of_C HR0.out)));have HC616:=Aside0.mk hC11;clear hA11 hC11 hi011 hsz11;go_wp2_with (first|((with_reducible refine gate_callee (f:=56) rfl ?_);refine goesL_ (some 21) rfl rfl Tryd.func56 (by kernel_rfl) rfl #[.slice A11 (l0.drop (a1:Int).toNat).length (c0-a1.toNat)] rfl (by(try simp only[List.map_toArray,List.map_cons,List.map_nil]);first|done|(rw[show(l0.drop (a1:Int).toNat).length=(l0.length-a1.toNat)from List.length_drop]<;>rfl)|rfl|(simp only[List.length_drop,List.length_take];rfl)) ?_;(with_reducible refine(utf8_DecodeRune.calls (hT:=?sideT) _ _ (l0.drop (a1:Int).toNat) t617 t618 _ ?side1 ?side2 A8.out).mono ?_);(case sideT=>first|exact HT.out|exact HT.out.below hb_|exact HT.out.drawn (by repeat(first|exact Drawn0.refl _|apply Drawn0.step|assumption)));(case side1=>exact kc_ (Kd.C_below HR616.out HB.out));(case side2=>exact HC616.out);rintro e w12 ⟨rfl,hb⟩;refine⟨_,rfl,?_⟩;replace HB:=Aside0.mk (below_step hb_ hb);try clear hb))
        go_ret3
        exact⟨rf_,hb_⟩
       ·rw[if_neg c10]at H;have c10b0:decide (t618<2)=false:=decide_eq_false c10;clear c10;simp only[Option.some.injEq,Prod.mk.injEq]at H;obtain⟨rfl,rfl,rfl⟩:=H;obtain⟨i013,hi013,_,hsz13,_⟩:=info_parts info5;obtain⟨A13,hcut13,hA13,hC13⟩:=print_drop_of (P:=Tryd.prog) (Value.int .u8) 0 22 5 .i64 Tryd.underlying22 hi013 hsz13 A0 c0 l0 a1 (of_decide_eq_true as_) (of_decide_eq_true as_) HC0.out;have HR616:=Aside0.mk (Kd.C_of_reads (h1:=fun _=>rfl) (hA13 _ (Kd.reads_of_C HR0.out)));have HC616:=Aside0.mk hC13;clear hA13 hC13 hi013 hsz13;go_wp2_with (first|((with_reducible refine gate_callee (f:=56) rfl ?_);refine goesL_ (some 21) rfl rfl Tryd.func56 (by kernel_rfl) rfl #[.slice A13 (l0.drop (a1:Int).toNat).length (c0-a1.toNat)] rfl (by(try simp only[List.map_toArray,List.map_cons,List.map_nil]);first|done|(rw[show(l0.drop (a1:Int).toNat).length=(l0.length-a1.toNat)from List.length_drop]<;>rfl)|rfl|(simp only[List.length_drop,List.length_take];rfl)) ?_;(with_reducible refine(utf8_DecodeRune.calls (hT:=?sideT) _ _ (l0.drop (a1:Int).toNat) t617 t618 _ ?side1 ?side2 A8.out).mono ?_);(case sideT=>first|exact HT.out|exact HT.out.below hb_|exact HT.out.drawn (by repeat(first|exact Drawn0.refl _|apply Drawn0.step|assumption)));(case side1=>exact kc_ (Kd.C_below HR616.out HB.out));(case side2=>exact HC616.out);rintro e w14 ⟨rfl,hb⟩;refine⟨_,rfl,?_⟩;replace HB:=Aside0.mk (below_step hb_ hb);try clear hb))
        go_ret3
        exact⟨rf_,hb_⟩
      ·rw[if_neg c9]at H;have c9b0:(t617==65533)=false:=beq_eq_false_iff_ne.mpr c9;have c9b1:(t617 != 65533)=true:=bne_iff_ne.mpr c9;simp only[Option.some.injEq,Prod.mk.injEq]at H;obtain⟨rfl,rfl,rfl⟩:=H;obtain⟨i015,hi015,_,hsz15,_⟩:=info_parts info5;obtain⟨A15,hcut15,hA15,hC15⟩:=print_drop_of (P:=Tryd.prog) (Value.int .u8) 0 22 5 .i64 Tryd.underlying22 hi015 hsz15 A0 c0 l0 a1 (of_decide_eq_true as_) (of_decide_eq_true as_) HC0.out;have HR616:=Aside0.mk (Kd.C_of_reads (h1:=fun _=>rfl) (hA15 _ (Kd.reads_of_C HR0.out)));have HC616:=Aside0.mk hC15;clear hA15 hC15 hi015 hsz15;go_wp2_with (first|((with_reducible refine gate_callee (f:=56) rfl ?_);refine goesL_ (some 21) rfl rfl Tryd.func56 (by kernel_rfl) rfl #[.slice A15 (l0.drop (a1:Int).toNat).length (c0-a1.toNat)] rfl (by(try simp only[List.map_toArray,List.map_cons,List.map_nil]);first|done|(rw[show(l0.drop (a1:Int).toNat).length=(l0.length-a1.toNat)from List.length_drop]<;>rfl)|rfl|(simp only[List.length_drop,List.length_take];rfl)) ?_;(with_reducible refine(utf8_DecodeRune.calls (hT:=?sideT) _ _ (l0.drop (a1:Int).toNat) t617 t618 _ ?side1 ?side2 A8.out).mono ?_);(case sideT=>first|exact HT.out|exact HT.out.below hb_|exact HT.out.drawn (by repeat(first|exact Drawn0.refl _|apply Drawn0.step|assumption)));(case side1=>exact kc_ (Kd.C_below HR616.out HB.out));(case side2=>exact HC616.out);rintro e w16 ⟨rfl,hb⟩;refine⟨_,rfl,?_⟩;replace HB:=Aside0.mk (below_step hb_ hb);try clear hb))
       go_ret3
       exact⟨rf_,hb_⟩
     ·rw[if_neg c7]at H;exact absurd H (by simp)
    ·rw[if_neg c6]at H;exact absurd H (by simp)
def impl_PairSign.j0:Nat→Int→Int→Bool→Option (Int×Bool)
 |0,_,_,_=>none
 |k+1,x0,x1,x6=>if x6=true then(some (wrap64 ((wrap64 (12353+x1))-161),true))else(if x0=165 then((impl_within.f x1 161 246).bind fun t620=>(if t620=true then(some (wrap64 ((wrap64 (12449+x1))-161),true))else(some (0,false))))else(some (0,false)))
def impl_PairSign.f (k:Nat) (a0:Int) (a1:Int):Option (Int×Bool):=if a0=164 then((impl_within.f a1 161 243).bind fun t619=>(impl_PairSign.j0 k a0 a1 t619))else(impl_PairSign.j0 k a0 a1 false)
theorem impl_PairSign.mono_l:∀k,(∀y0 y1 y2,LeO (impl_PairSign.j0 k y0 y1 y2) (impl_PairSign.j0 (k+1) y0 y1 y2))
 |0=>fun _ _ _ r h=>by simp[impl_PairSign.j0]at h
 |k+1=>by
  have ih0:=impl_PairSign.mono_l k
  ·intro y0 y1 y2;unfold impl_PairSign.j0
   repeat' first
   |(with_reducible exact ih0 _ _ _)
   |(with_reducible exact LeO.refl _)
   |(with_reducible exact LeO.none _)
   |(with_reducible refine LeO.ite ?_ ?_)
   |(with_reducible refine LeO.bind ?_ (fun _=>?_))
   |exact ih0 _ _ _
   |exact LeO.none _
   |refine LeO.ite ?_ ?_
   |refine LeO.bind ?_ (fun _=>?_)
theorem impl_PairSign.mono:∀a0 a1 k,LeO (impl_PairSign.f k a0 a1) (impl_PairSign.f (k+1) a0 a1):=by
 intro a0 a1 k;have ih0:=impl_PairSign.mono_l k;unfold impl_PairSign.f
 repeat' first
   |(with_reducible exact ih0 _ _ _)
   |(with_reducible exact LeO.refl _)
   |(with_reducible exact LeO.none _)
   |(with_reducible refine LeO.ite ?_ ?_)
   |(with_reducible refine LeO.bind ?_ (fun _=>?_))
   |exact ih0 _ _ _
   |exact LeO.none _
   |refine LeO.ite ?_ ?_
   |refine LeO.bind ?_ (fun _=>?_)
set_option maxHeartbeats 8000000 in
set_option maxRecDepth 100000 in
theorem impl_PairSign.calls (k:Nat) (a0:Int) (a1:Int) (r1:Int) (r2:Bool) (w:World) (h:impl_PairSign.f k a0 a1=some (r1,r2)):
  Calls Tryd.prog 57 #[.int .i64 a0,.int .i64 a1] w fun e w'=>e= .returned (.tuple #[.int .i64 r1,.bool r2])∧Drawn0 w w':=by
 have H:(if a0=164 then((impl_within.f a1 161 243).bind fun t619=>(impl_PairSign.j0 k a0 a1 t619))else(impl_PairSign.j0 k a0 a1 false))=some (r1,r2):=h;clear h;have HC3:=Aside0.mk H;clear H;go_enter Tryd.func57,Tryd.ntmps57
 go_upto_region 1 with (fail)
 go_cut [6] (fun v6 wc=>∃(kq:Nat) (x6_2:Bool),v6= .bool x6_2∧Aside0 (impl_PairSign.j0 kq a0 a1 x6_2=some (r1,r2))∧Aside0 (kq≤k)∧Drawn0 w wc)
 case first=>
  have H:=HC3.out;clear HC3;by_cases c4:a0=164
  ·rw[if_pos c4]at H;have c4b0:(a0==164)=true:=beq_iff_eq.mpr c4;have c4b1:(a0 != 164)=false:=bne_eq_false_iff_eq.mpr c4;clear c4;(first|rw[c4b0]|(simp only[i64_w,i32_w];rw[c4b0])|skip)
   replace H:=Option.bind_eq_some_iff.mp H;obtain⟨t619,A50,H⟩:=H;try dsimp only at H
   have A5:=Aside0.mk A50;clear A50;have H':=Aside0.mk H;clear H;go_wp2_with (first|(go_at_call 41;(with_reducible refine(impl_within.calls a1 161 243 t619 _ A5.out).mono ?_);rintro e w' ⟨rfl,⟨nd,rfl⟩⟩))
   go_meet
   case rel=>exact⟨_,(t619),(by first|rfl|(simp;done)|(simp[*];done)),H',⟨by first|omega|exact Nat.le_refl _⟩,dn_⟩
  ·rw[if_neg c4]at H;have c4b0:(a0==164)=false:=beq_eq_false_iff_ne.mpr c4;have c4b1:(a0 != 164)=true:=bne_iff_ne.mpr c4;(first|rw[c4b0]|(simp only[i64_w,i32_w];rw[c4b0])|skip)
   have H':=Aside0.mk H;clear H;go_wp2
   go_meet
   case rel=>exact⟨_,(false),(by first|rfl|(simp;done)|(simp[*];done)),H',⟨by first|omega|exact Nat.le_refl _⟩,dn_⟩
 case rest=>
  clear HC3;try clear p2
  try clear c4
  try clear c4b0
  try clear c4b1
  try clear c5
  obtain⟨kq,x6_2,rfl,HA,HJ2,⟨mc2,rfl⟩⟩:=hcut
  cases kq with
  |zero=>exact absurd HA.out (by simp[impl_PairSign.j0])
  |succ kj2=>
   have H:=HA.out;clear HA;simp only[impl_PairSign.j0]at H;by_cases c6:x6_2=true
   ·subst c6;rw[if_pos rfl]at H;simp only[Option.some.injEq,Prod.mk.injEq]at H;obtain⟨rfl,rfl⟩:=H;go_wp2
    go_ret2
    exact⟨by first|rfl|(simp;done)|(simp[*];done),dn_⟩
   ·replace c6:=Bool.eq_false_iff.mpr c6;subst c6;rw[if_neg (show ¬(false=true) by decide)]at H;by_cases c7:a0=165
    ·rw[if_pos c7]at H;have c7b0:(a0==165)=true:=beq_iff_eq.mpr c7;have c7b1:(a0 != 165)=false:=bne_eq_false_iff_eq.mpr c7;clear c7;replace H:=Option.bind_eq_some_iff.mp H;obtain⟨t620,A80,H⟩:=H;try dsimp only at H
     have A8:=Aside0.mk A80;clear A80;by_cases c9:t620=true
     ·subst c9;rw[if_pos rfl]at H;simp only[Option.some.injEq,Prod.mk.injEq]at H;obtain⟨rfl,rfl⟩:=H;go_wp2_with (first|(go_at_call 41;(with_reducible refine(impl_within.calls a1 161 246 true _ A8.out).mono ?_);rintro e w' ⟨rfl,⟨nd,rfl⟩⟩))
      go_ret2
      exact⟨by first|rfl|(simp;done)|(simp[*];done),dn_⟩
     ·replace c9:=Bool.eq_false_iff.mpr c9;subst c9;rw[if_neg (show ¬(false=true) by decide)]at H;simp only[Option.some.injEq,Prod.mk.injEq]at H;obtain⟨rfl,rfl⟩:=H;go_wp2_with (first|(go_at_call 41;(with_reducible refine(impl_within.calls a1 161 246 false _ A8.out).mono ?_);rintro e w' ⟨rfl,⟨nd,rfl⟩⟩))
      go_ret2
      exact⟨by first|rfl|(simp;done)|(simp[*];done),dn_⟩
    ·rw[if_neg c7]at H;have c7b0:(a0==165)=false:=beq_eq_false_iff_ne.mpr c7;have c7b1:(a0 != 165)=true:=bne_iff_ne.mpr c7;simp only[Option.some.injEq,Prod.mk.injEq]at H;obtain⟨rfl,rfl⟩:=H;go_wp2
     go_ret2
     exact⟨by first|rfl|(simp;done)|(simp[*];done),dn_⟩
def impl_EucSign.j0:Nat→List Int→Int→Bool→Option (Int×Int×Bool)
 |0,_,_,_=>none
 |k+1,x0,x1,x16=>if x16=true then(some (0,0,false))else(if 0≤x1 then(if x1<(x0.length:Int)then(if(rd x0 x1)≤127 then(some (wrap64 (rd x0 x1),wrap64 (x1+1),true))else(if(wrap64 (x1+1))=(x0.length:Int)then(some (0,0,false))else(if 0≤(wrap64 (x1+1))then(if(wrap64 (x1+1))<(x0.length:Int)then((impl_PairSign.f k (wrap64 (rd x0 x1)) (wrap64 (rd x0 (wrap64 (x1+1))))).bind fun bt625=>(if bt625.2=true then(some (bt625.1,wrap64 (x1+2),true))else(some (0,0,false))))else(none))else(none))))else(none))else(none))
def impl_EucSign.f (k:Nat) (l0:List Int) (a1:Int):Option (Int×Int×Bool):=if a1<0 then(impl_EucSign.j0 k l0 a1 true)else(impl_EucSign.j0 k l0 a1 (decide (a1≥(l0.length:Int))))
theorem impl_EucSign.mono_l:∀k,(∀y0 y1 y2,LeO (impl_EucSign.j0 k y0 y1 y2) (impl_EucSign.j0 (k+1) y0 y1 y2))
 |0=>fun _ _ _ r h=>by simp[impl_EucSign.j0]at h
 |k+1=>by
  have ih0:=impl_EucSign.mono_l k
  ·intro y0 y1 y2;unfold impl_EucSign.j0
   repeat' first
   |(with_reducible exact ih0 _ _ _)
   |(with_reducible exact impl_PairSign.mono _ _ _)
   |(with_reducible exact LeO.refl _)
   |(with_reducible exact LeO.none _)
   |(with_reducible refine LeO.ite ?_ ?_)
   |(with_reducible refine LeO.bind ?_ (fun _=>?_))
   |exact ih0 _ _ _
   |exact impl_PairSign.mono _ _ _
   |exact LeO.none _
   |refine LeO.ite ?_ ?_
   |refine LeO.bind ?_ (fun _=>?_)
theorem impl_EucSign.mono:∀a0 a1 k,LeO (impl_EucSign.f k a0 a1) (impl_EucSign.f (k+1) a0 a1):=by
 intro a0 a1 k;have ih0:=impl_EucSign.mono_l k;unfold impl_EucSign.f
 repeat' first
   |(with_reducible exact ih0 _ _ _)
   |(with_reducible exact impl_PairSign.mono _ _ _)
   |(with_reducible exact LeO.refl _)
   |(with_reducible exact LeO.none _)
   |(with_reducible refine LeO.ite ?_ ?_)
   |(with_reducible refine LeO.bind ?_ (fun _=>?_))
   |exact ih0 _ _ _
   |exact impl_PairSign.mono _ _ _
   |exact LeO.none _
   |refine LeO.ite ?_ ?_
   |refine LeO.bind ?_ (fun _=>?_)
set_option maxHeartbeats 8000000 in
set_option maxRecDepth 100000 in
theorem impl_EucSign.calls (k:Nat) (A0:Option Addr) (c0:Nat) (l0:List Int) (a1:Int) (r1:Int) (r2:Int) (r3:Bool) (w:World) (hr0:Kd.C (Kd.int .u8) w A0 l0.length l0) (hc0:l0.length≤c0) (h:impl_EucSign.f k l0 a1=some (r1,r2,r3)):
  Calls Tryd.prog 38 #[.slice A0 l0.length c0,.int .i64 a1] w fun e w'=>e= .returned (.tuple #[.int .i64 r1,.int .i64 r2,.bool r3])∧Drawn0 w w':=by
 have HR0:=Aside0.mk hr0;have HC0:=Aside0.mk hc0;clear hr0 hc0;have H:(if a1<0 then(impl_EucSign.j0 k l0 a1 true)else(impl_EucSign.j0 k l0 a1 (decide (a1≥(l0.length:Int)))))=some (r1,r2,r3):=h;clear h;have HC3:=Aside0.mk H;clear H;go_enter Tryd.func38,Tryd.ntmps38
 go_upto_region 1 with (fail)
 repeat(go_quiet (fail);go_upto_region 1 with (fail))
 go_cut [16] (fun v16 wc=>∃(kq:Nat) (x16_2:Bool),v16= .bool x16_2∧Aside0 (impl_EucSign.j0 kq l0 a1 x16_2=some (r1,r2,r3))∧Aside0 (kq≤k)∧Drawn0 w wc)
 case first=>
  have H:=HC3.out;clear HC3;by_cases c4:a1<0
  ·rw[if_pos c4]at H;have c4b0:decide (a1<0)=true:=decide_eq_true c4;clear c4;(first|rw[c4b0]|(simp only[i64_w,i32_w];rw[c4b0])|skip)
   have H':=Aside0.mk H;clear H;go_wp2
   repeat(go_quiet (fail);try go_wp2)
   go_meet
   case rel=>exact⟨_,(true),(by first|rfl|(simp;done)|(simp[*];done)),H',⟨by first|omega|exact Nat.le_refl _⟩,dn_⟩
  ·rw[if_neg c4]at H;have c4b0:decide (a1<0)=false:=decide_eq_false c4;clear c4;(first|rw[c4b0]|(simp only[i64_w,i32_w];rw[c4b0])|skip)
   have H':=Aside0.mk H;clear H;go_wp2
   repeat(go_quiet (fail);try go_wp2)
   go_meet
   case rel=>exact⟨_,(decide (a1≥(l0.length:Int))),(by first|rfl|(simp;done)|(simp[*];done)),H',⟨by first|omega|exact Nat.le_refl _⟩,dn_⟩
 case rest=>
  clear HC3;try clear p2
  try clear c3
  try clear c4
  try clear c4b0
  obtain⟨kq,x16_2,rfl,HA,HJ2,⟨mc2,rfl⟩⟩:=hcut
  cases kq with
  |zero=>exact absurd HA.out (by simp[impl_EucSign.j0])
  |succ kj2=>
   have H:=HA.out;clear HA;simp only[impl_EucSign.j0]at H;by_cases c5:x16_2=true
   ·subst c5;rw[if_pos rfl]at H;simp only[Option.some.injEq,Prod.mk.injEq]at H;obtain⟨rfl,rfl,rfl⟩:=H;go_wp2
    repeat(go_quiet (fail);try go_wp2)
    go_ret3
    exact⟨by first|rfl|(simp;done)|(simp[*];done),dn_⟩
   ·replace c5:=Bool.eq_false_iff.mpr c5;subst c5;rw[if_neg (show ¬(false=true) by decide)]at H;by_cases c6:0≤a1
    ·rw[if_pos c6]at H;have c6b0:decide (0≤a1)=true:=decide_eq_true c6;clear c6;by_cases c7:a1<(l0.length:Int)
     ·rw[if_pos c7]at H;have c7b0:decide (a1<(l0.length:Int))=true:=decide_eq_true c7;clear c7;by_cases c8:(rd l0 a1)≤127
      ·rw[if_pos c8]at H;have c8b0:decide ((rd l0 a1)≤127)=true:=decide_eq_true c8;clear c8;simp only[Option.some.injEq,Prod.mk.injEq]at H;obtain⟨rfl,rfl,rfl⟩:=H;have p621:0≤(a1:Int):=of_decide_eq_true as_;have q621:a1<(l0.length:Int):=of_decide_eq_true as_;obtain⟨ad621,e621,hx621_0⟩:=Kd.at_int HR0.out a1 p621 q621;cases e621;replace p621:=eq_true p621;replace q621:=eq_true q621;have p622:0≤(a1:Int):=of_decide_eq_true as_;have q622:a1<(l0.length:Int):=of_decide_eq_true as_;obtain⟨ad622,e622,hx622_0⟩:=Kd.at_int HR0.out a1 p622 q622;obtain rfl:ad621=ad622:=(by injection e622);replace p622:=eq_true p622;replace q622:=eq_true q622;go_wp2
       repeat(go_quiet (fail);try go_wp2)
       go_ret3
       exact⟨by first|rfl|(simp;done)|(simp[*];done),dn_⟩
      ·rw[if_neg c8]at H;have c8b0:decide ((rd l0 a1)≤127)=false:=decide_eq_false c8;clear c8;by_cases c9:(wrap64 (a1+1))=(l0.length:Int)
       ·rw[if_pos c9]at H;have c9b0:((wrap64 (a1+1))==(l0.length:Int))=true:=beq_iff_eq.mpr c9;have c9b1:((wrap64 (a1+1)) != (l0.length:Int))=false:=bne_eq_false_iff_eq.mpr c9;clear c9;simp only[Option.some.injEq,Prod.mk.injEq]at H;obtain⟨rfl,rfl,rfl⟩:=H;have p621:0≤(a1:Int):=of_decide_eq_true as_;have q621:a1<(l0.length:Int):=of_decide_eq_true as_;obtain⟨ad621,e621,hx621_0⟩:=Kd.at_int HR0.out a1 p621 q621;cases e621;replace p621:=eq_true p621;replace q621:=eq_true q621;go_wp2
        repeat(go_quiet (fail);try go_wp2)
        go_ret3
        exact⟨by first|rfl|(simp;done)|(simp[*];done),dn_⟩
       ·rw[if_neg c9]at H;have c9b0:((wrap64 (a1+1))==(l0.length:Int))=false:=beq_eq_false_iff_ne.mpr c9;have c9b1:((wrap64 (a1+1)) != (l0.length:Int))=true:=bne_iff_ne.mpr c9;obtain⟨ji10,hji10⟩:∃j_:Int,(wrap64 (a1+1))=j_:=⟨_,rfl⟩;replace H:(if 0≤(ji10)then(if(ji10)<(l0.length:Int)then((impl_PairSign.f kj2 (wrap64 (rd l0 a1)) (wrap64 (rd l0 (ji10)))).bind fun bt625=>(if bt625.2=true then(some (bt625.1,wrap64 (a1+2),true))else(some (0,0,false))))else(none))else(none))=some (r1,r2,r3):=by first|(rw[hji10]at H;exact H)|(simp only[hji10]at H⊢;exact H)
        (try rw[hji10]at c9b0)
        (try rw[hji10]at c9b1)
        have hji10w:(IntKind.i64.wrap (a1+1))=ji10:=(i64_w _).trans hji10;by_cases c11:0≤(ji10)
        ·rw[if_pos c11]at H;have c11b0:decide (0≤(ji10))=true:=decide_eq_true c11;clear c11;by_cases c12:(ji10)<(l0.length:Int)
         ·rw[if_pos c12]at H;have c12b0:decide ((ji10)<(l0.length:Int))=true:=decide_eq_true c12;clear c12;replace H:=Option.bind_eq_some_iff.mp H;obtain⟨⟨t625,t626⟩,A130,H⟩:=H;try dsimp only at H
          have A13:=Aside0.mk A130;clear A130;by_cases c14:t626=true
          ·subst c14;rw[if_pos rfl]at H;simp only[Option.some.injEq,Prod.mk.injEq]at H;obtain⟨rfl,rfl,rfl⟩:=H;have p621:0≤(a1:Int):=of_decide_eq_true as_;have q621:a1<(l0.length:Int):=of_decide_eq_true as_;obtain⟨ad621,e621,hx621_0⟩:=Kd.at_int HR0.out a1 p621 q621;cases e621;replace p621:=eq_true p621;replace q621:=eq_true q621;have p623:0≤(a1:Int):=of_decide_eq_true as_;have q623:a1<(l0.length:Int):=of_decide_eq_true as_;obtain⟨ad623,e623,hx623_0⟩:=Kd.at_int HR0.out a1 p623 q623;obtain rfl:ad621=ad623:=(by injection e623);replace p623:=eq_true p623;replace q623:=eq_true q623;have p624:0≤((ji10):Int):=of_decide_eq_true as_;have q624:(ji10)<(l0.length:Int):=of_decide_eq_true as_;obtain⟨ad624,e624,hx624_0⟩:=Kd.at_int HR0.out (ji10) p624 q624;obtain rfl:ad621=ad624:=(by injection e624);replace p624:=eq_true p624;replace q624:=eq_true q624;go_wp2_with (first|(go_at_call 57;(with_reducible refine(impl_PairSign.calls kj2 (wrap64 (rd l0 a1)) (wrap64 (rd l0 (ji10))) t625 true _ A13.out).mono ?_);rintro e w' ⟨rfl,⟨nd,rfl⟩⟩;(try first|exact⟨rfl,_,World.drewN_drewN _ _ _⟩|exact⟨rfl,_,Eq.trans (World.drewN_drewN _ _ _) (congrArg (World.drewN _) (Nat.add_assoc _ _ _))⟩)))
           repeat(go_quiet (first|(go_at_call 57;(with_reducible refine(impl_PairSign.calls kj2 (wrap64 (rd l0 a1)) (wrap64 (rd l0 (ji10))) t625 true _ A13.out).mono ?_);rintro e w' ⟨rfl,⟨nd,rfl⟩⟩;(try first|exact⟨rfl,_,World.drewN_drewN _ _ _⟩|exact⟨rfl,_,Eq.trans (World.drewN_drewN _ _ _) (congrArg (World.drewN _) (Nat.add_assoc _ _ _))⟩)));try go_wp2_with (first|(go_at_call 57;(with_reducible refine(impl_PairSign.calls kj2 (wrap64 (rd l0 a1)) (wrap64 (rd l0 (ji10))) t625 true _ A13.out).mono ?_);rintro e w' ⟨rfl,⟨nd,rfl⟩⟩;(try first|exact⟨rfl,_,World.drewN_drewN _ _ _⟩|exact⟨rfl,_,Eq.trans (World.drewN_drewN _ _ _) (congrArg (World.drewN _) (Nat.add_assoc _ _ _))⟩))))
           go_ret3
           exact⟨by first|rfl|(simp;done)|(simp only[←hji10]<;>(first|rfl|simp))|(simp[*];done),dn_⟩
          ·replace c14:=Bool.eq_false_iff.mpr c14;subst c14;rw[if_neg (show ¬(false=true) by decide)]at H;simp only[Option.some.injEq,Prod.mk.injEq]at H;obtain⟨rfl,rfl,rfl⟩:=H;have p621:0≤(a1:Int):=of_decide_eq_true as_;have q621:a1<(l0.length:Int):=of_decide_eq_true as_;obtain⟨ad621,e621,hx621_0⟩:=Kd.at_int HR0.out a1 p621 q621;cases e621;replace p621:=eq_true p621;replace q621:=eq_true q621;have p623:0≤(a1:Int):=of_decide_eq_true as_;have q623:a1<(l0.length:Int):=of_decide_eq_true as_;obtain⟨ad623,e623,hx623_0⟩:=Kd.at_int HR0.out a1 p623 q623;obtain rfl:ad621=ad623:=(by injection e623);replace p623:=eq_true p623;replace q623:=eq_true q623;have p624:0≤((ji10):Int):=of_decide_eq_true as_;have q624:(ji10)<(l0.length:Int):=of_decide_eq_true as_;obtain⟨ad624,e624,hx624_0⟩:=Kd.at_int HR0.out (ji10) p624 q624;obtain rfl:ad621=ad624:=(by injection e624);replace p624:=eq_true p624;replace q624:=eq_true q624;go_wp2_with (first|(go_at_call 57;(with_reducible refine(impl_PairSign.calls kj2 (wrap64 (rd l0 a1)) (wrap64 (rd l0 (ji10))) t625 false _ A13.out).mono ?_);rintro e w' ⟨rfl,⟨nd,rfl⟩⟩;(try first|exact⟨rfl,_,World.drewN_drewN _ _ _⟩|exact⟨rfl,_,Eq.trans (World.drewN_drewN _ _ _) (congrArg (World.drewN _) (Nat.add_assoc _ _ _))⟩)))
           repeat(go_quiet (first|(go_at_call 57;(with_reducible refine(impl_PairSign.calls kj2 (wrap64 (rd l0 a1)) (wrap64 (rd l0 (ji10))) t625 false _ A13.out).mono ?_);rintro e w' ⟨rfl,⟨nd,rfl⟩⟩;(try first|exact⟨rfl,_,World.drewN_drewN _ _ _⟩|exact⟨rfl,_,Eq.trans (World.drewN_drewN _ _ _) (congrArg (World.drewN _) (Nat.add_assoc _ _ _))⟩)));try go_wp2_with (first|(go_at_call 57;(with_reducible refine(impl_PairSign.calls kj2 (wrap64 (rd l0 a1)) (wrap64 (rd l0 (ji10))) t625 false _ A13.out).mono ?_);rintro e w' ⟨rfl,⟨nd,rfl⟩⟩;(try first|exact⟨rfl,_,World.drewN_drewN _ _ _⟩|exact⟨rfl,_,Eq.trans (World.drewN_drewN _ _ _) (congrArg (World.drewN _) (Nat.add_assoc _ _ _))⟩))))
           go_ret3
           exact⟨by first|rfl|(simp;done)|(simp only[←hji10]<;>(first|rfl|simp))|(simp[*];done),dn_⟩
         ·rw[if_neg c12]at H;exact absurd H (by simp)
        ·rw[if_neg c11]at H;exact absurd H (by simp)
     ·rw[if_neg c7]at H;exact absurd H (by simp)
    ·rw[if_neg c6]at H;exact absurd H (by simp)
def impl_nineSign.f (a0:Int):Option (Int):=if a0=164 then(some 8364)else(if a0=166 then(some 352)else(if a0=168 then(some 353)else(if a0=180 then(some 381)else(if a0=184 then(some 382)else(if a0=188 then(some 338)else(if a0=189 then(some 339)else(if a0=190 then(some 376)else(some a0))))))))
set_option maxHeartbeats 8000000 in
set_option maxRecDepth 100000 in
theorem impl_nineSign.calls (a0:Int) (r:Int) (w:World) (h:impl_nineSign.f a0=some r):
  Calls Tryd.prog 58 #[.int .i64 a0] w fun e w'=>e= .returned (.int .i64 r)∧Drawn0 w w':=by
 have H:(if a0=164 then(some 8364)else(if a0=166 then(some 352)else(if a0=168 then(some 353)else(if a0=180 then(some 381)else(if a0=184 then(some 382)else(if a0=188 then(some 338)else(if a0=189 then(some 339)else(if a0=190 then(some 376)else(some a0)))))))))=some r:=h;clear h;by_cases c2:a0=164
 ·rw[if_pos c2]at H;have c2b0:(a0==164)=true:=beq_iff_eq.mpr c2;have c2b1:(a0 != 164)=false:=bne_eq_false_iff_eq.mpr c2;clear c2;obtain rfl:=Option.some.inj H;go_enter Tryd.func58,Tryd.ntmps58
  go_wp2
  go_ret
  exact⟨by first|rfl|(simp;done)|(simp[*];done),dn_⟩
 ·rw[if_neg c2]at H;have c2b0:(a0==164)=false:=beq_eq_false_iff_ne.mpr c2;have c2b1:(a0 != 164)=true:=bne_iff_ne.mpr c2;by_cases c3:a0=166
  ·rw[if_pos c3]at H;have c3b0:(a0==166)=true:=beq_iff_eq.mpr c3;have c3b1:(a0 != 166)=false:=bne_eq_false_iff_eq.mpr c3;clear c3;obtain rfl:=Option.some.inj H;go_enter Tryd.func58,Tryd.ntmps58
   go_wp2
   go_ret
   exact⟨by first|rfl|(simp;done)|(simp[*];done),dn_⟩
  ·rw[if_neg c3]at H;have c3b0:(a0==166)=false:=beq_eq_false_iff_ne.mpr c3;have c3b1:(a0 != 166)=true:=bne_iff_ne.mpr c3;by_cases c4:a0=168
   ·rw[if_pos c4]at H;have c4b0:(a0==168)=true:=beq_iff_eq.mpr c4;have c4b1:(a0 != 168)=false:=bne_eq_false_iff_eq.mpr c4;clear c4;obtain rfl:=Option.some.inj H;go_enter Tryd.func58,Tryd.ntmps58
    go_wp2
    go_ret
    exact⟨by first|rfl|(simp;done)|(simp[*];done),dn_⟩
   ·rw[if_neg c4]at H;have c4b0:(a0==168)=false:=beq_eq_false_iff_ne.mpr c4;have c4b1:(a0 != 168)=true:=bne_iff_ne.mpr c4;by_cases c5:a0=180
    ·rw[if_pos c5]at H;have c5b0:(a0==180)=true:=beq_iff_eq.mpr c5;have c5b1:(a0 != 180)=false:=bne_eq_false_iff_eq.mpr c5;clear c5;obtain rfl:=Option.some.inj H;go_enter Tryd.func58,Tryd.ntmps58
     go_wp2
     go_ret
     exact⟨by first|rfl|(simp;done)|(simp[*];done),dn_⟩
    ·rw[if_neg c5]at H;have c5b0:(a0==180)=false:=beq_eq_false_iff_ne.mpr c5;have c5b1:(a0 != 180)=true:=bne_iff_ne.mpr c5;by_cases c6:a0=184
     ·rw[if_pos c6]at H;have c6b0:(a0==184)=true:=beq_iff_eq.mpr c6;have c6b1:(a0 != 184)=false:=bne_eq_false_iff_eq.mpr c6;clear c6;obtain rfl:=Option.some.inj H;go_enter Tryd.func58,Tryd.ntmps58
      go_wp2
      go_ret
      exact⟨by first|rfl|(simp;done)|(simp[*];done),dn_⟩
     ·rw[if_neg c6]at H;have c6b0:(a0==184)=false:=beq_eq_false_iff_ne.mpr c6;have c6b1:(a0 != 184)=true:=bne_iff_ne.mpr c6;by_cases c7:a0=188
      ·rw[if_pos c7]at H;have c7b0:(a0==188)=true:=beq_iff_eq.mpr c7;have c7b1:(a0 != 188)=false:=bne_eq_false_iff_eq.mpr c7;clear c7;obtain rfl:=Option.some.inj H;go_enter Tryd.func58,Tryd.ntmps58
       go_wp2
       go_ret
       exact⟨by first|rfl|(simp;done)|(simp[*];done),dn_⟩
      ·rw[if_neg c7]at H;have c7b0:(a0==188)=false:=beq_eq_false_iff_ne.mpr c7;have c7b1:(a0 != 188)=true:=bne_iff_ne.mpr c7;by_cases c8:a0=189
       ·rw[if_pos c8]at H;have c8b0:(a0==189)=true:=beq_iff_eq.mpr c8;have c8b1:(a0 != 189)=false:=bne_eq_false_iff_eq.mpr c8;clear c8;obtain rfl:=Option.some.inj H;go_enter Tryd.func58,Tryd.ntmps58
        go_wp2
        go_ret
        exact⟨by first|rfl|(simp;done)|(simp[*];done),dn_⟩
       ·rw[if_neg c8]at H;have c8b0:(a0==189)=false:=beq_eq_false_iff_ne.mpr c8;have c8b1:(a0 != 189)=true:=bne_iff_ne.mpr c8;by_cases c9:a0=190
        ·rw[if_pos c9]at H;have c9b0:(a0==190)=true:=beq_iff_eq.mpr c9;have c9b1:(a0 != 190)=false:=bne_eq_false_iff_eq.mpr c9;clear c9;obtain rfl:=Option.some.inj H;go_enter Tryd.func58,Tryd.ntmps58
         go_wp2
         go_ret
         exact⟨by first|rfl|(simp;done)|(simp[*];done),dn_⟩
        ·rw[if_neg c9]at H;have c9b0:(a0==190)=false:=beq_eq_false_iff_ne.mpr c9;have c9b1:(a0 != 190)=true:=bne_iff_ne.mpr c9;obtain rfl:=Option.some.inj H;go_enter Tryd.func58,Tryd.ntmps58
         go_wp2
         go_ret
         exact⟨by first|rfl|(simp;done)|(simp[*];done),dn_⟩
def impl_ByteSign.j0:Nat→Int→Int→Bool→Option (Int×Bool)
 |0,_,_,_=>none
 |k+1,x0,x1,x14=>if x14=true then(some (0,false))else(if x1≤127 then(some (x1,true))else(if x0=2 then((impl_nineSign.f x1).bind fun t635=>(some (t635,(t635 != 0))))else(if x0=3 then((impl_koiSign.f x1).bind fun t636=>(some (t636,(t636 != 0))))else(if x0=4 then((impl_winSign.f x1).bind fun t637=>(some (t637,(t637 != 0))))else(some (x1,(x1 != 0)))))))
def impl_ByteSign.f (k:Nat) (a0:Int) (a1:Int):Option (Int×Bool):=(impl_within.f a0 1 4).bind fun t633=>(if t633=true then((impl_within.f a1 0 255).bind fun t634=>(impl_ByteSign.j0 k a0 a1 (!t634)))else(impl_ByteSign.j0 k a0 a1 true))
theorem impl_ByteSign.mono_l:∀k,(∀y0 y1 y2,LeO (impl_ByteSign.j0 k y0 y1 y2) (impl_ByteSign.j0 (k+1) y0 y1 y2))
 |0=>fun _ _ _ r h=>by simp[impl_ByteSign.j0]at h
 |k+1=>by
  have ih0:=impl_ByteSign.mono_l k
  ·intro y0 y1 y2;unfold impl_ByteSign.j0
   repeat' first
   |(with_reducible exact ih0 _ _ _)
   |(with_reducible exact LeO.refl _)
   |(with_reducible exact LeO.none _)
   |(with_reducible refine LeO.ite ?_ ?_)
   |(with_reducible refine LeO.bind ?_ (fun _=>?_))
   |exact ih0 _ _ _
   |exact LeO.none _
   |refine LeO.ite ?_ ?_
   |refine LeO.bind ?_ (fun _=>?_)
theorem impl_ByteSign.mono:∀a0 a1 k,LeO (impl_ByteSign.f k a0 a1) (impl_ByteSign.f (k+1) a0 a1):=by
 intro a0 a1 k;have ih0:=impl_ByteSign.mono_l k;unfold impl_ByteSign.f
 repeat' first
   |(with_reducible exact ih0 _ _ _)
   |(with_reducible exact LeO.refl _)
   |(with_reducible exact LeO.none _)
   |(with_reducible refine LeO.ite ?_ ?_)
   |(with_reducible refine LeO.bind ?_ (fun _=>?_))
   |exact ih0 _ _ _
   |exact LeO.none _
   |refine LeO.ite ?_ ?_
   |refine LeO.bind ?_ (fun _=>?_)
set_option maxHeartbeats 8000000 in
set_option maxRecDepth 100000 in
theorem impl_ByteSign.calls (k:Nat) (a0:Int) (a1:Int) (r1:Int) (r2:Bool) (w:World) (h:impl_ByteSign.f k a0 a1=some (r1,r2)):
  Calls Tryd.prog 39 #[.int .i64 a0,.int .i64 a1] w fun e w'=>e= .returned (.tuple #[.int .i64 r1,.bool r2])∧Below w.heap.size w w':=by
 have HB:=Aside0.mk (Below.refl w.heap.size w);have H:((impl_within.f a0 1 4).bind fun t633=>(if t633=true then((impl_within.f a1 0 255).bind fun t634=>(impl_ByteSign.j0 k a0 a1 (!t634)))else(impl_ByteSign.j0 k a0 a1 true)))=some (r1,r2):=h;clear h;have HC3:=Aside0.mk H;clear H;go_enter Tryd.func39,Tryd.ntmps39
 go_upto_region 1 with (fail)
 go_cut [14] (fun v14 wc=>∃(kq:Nat) (x14_2:Bool),v14= .bool x14_2∧Aside0 (impl_ByteSign.j0 kq a0 a1 x14_2=some (r1,r2))∧Aside0 (kq≤k)∧Aside0 (Below w.heap.size w wc))
 case first=>
  have H:=HC3.out;clear HC3;replace H:=Option.bind_eq_some_iff.mp H;obtain⟨t633,A40,H⟩:=H;try dsimp only at H
  have A4:=Aside0.mk A40;clear A40;by_cases c5:t633=true
  ·subst c5;rw[if_pos rfl]at H;replace H:=Option.bind_eq_some_iff.mp H;obtain⟨t634,A60,H⟩:=H;try dsimp only at H
   have A6:=Aside0.mk A60;clear A60;have H':=Aside0.mk H;clear H;go_wp2_with (first|((with_reducible refine gate_callee (f:=41) rfl ?_);refine goesL_ (some 8) rfl rfl Tryd.func41 (by kernel_rfl) rfl #[.int .i64 a0,.int .i64 1,.int .i64 4] rfl ka_ ?_;(with_reducible refine(impl_within.calls a0 1 4 true _ A4.out).mono ?_);rintro e w' ⟨rfl,⟨nd,rfl⟩⟩;refine⟨_,rfl,?_⟩)|(go_at_call 41;(with_reducible refine(impl_within.calls a1 0 255 t634 _ A6.out).mono ?_);rintro e w' ⟨rfl,⟨nd,rfl⟩⟩))
   go_meet
   case rel=>exact⟨_,(!t634),(by first|rfl|(simp;done)|(simp[*];done)),H',⟨by first|omega|exact Nat.le_refl _⟩,⟨by repeat(first|(with_reducible first|exact HB.out|apply below_alloc|apply pw_below_drewN|apply below_drew1)|exact HB.out)⟩⟩
  ·replace c5:=Bool.eq_false_iff.mpr c5;subst c5;rw[if_neg (show ¬(false=true) by decide)]at H;have H':=Aside0.mk H;clear H;go_wp2_with (first|((with_reducible refine gate_callee (f:=41) rfl ?_);refine goesL_ (some 8) rfl rfl Tryd.func41 (by kernel_rfl) rfl #[.int .i64 a0,.int .i64 1,.int .i64 4] rfl ka_ ?_;(with_reducible refine(impl_within.calls a0 1 4 false _ A4.out).mono ?_);rintro e w' ⟨rfl,⟨nd,rfl⟩⟩;refine⟨_,rfl,?_⟩))
   go_meet
   case rel=>exact⟨_,(true),(by first|rfl|(simp;done)|(simp[*];done)),H',⟨by first|omega|exact Nat.le_refl _⟩,⟨by repeat(first|(with_reducible first|exact HB.out|apply below_alloc|apply pw_below_drewN|apply below_drew1)|exact HB.out)⟩⟩
 case rest=>
  clear HC3;try clear p2
  try clear c3
  try clear c4
  try clear c5
  obtain⟨kq,x14_2,rfl,HA,HJ2,HB⟩:=hcut
  cases kq with
  |zero=>exact absurd HA.out (by simp[impl_ByteSign.j0])
  |succ kj2=>
   have H:=HA.out;clear HA;simp only[impl_ByteSign.j0]at H;by_cases c7:x14_2=true
   ·subst c7;rw[if_pos rfl]at H;simp only[Option.some.injEq,Prod.mk.injEq]at H;obtain⟨rfl,rfl⟩:=H;go_wp2
    go_ret2
    exact⟨rf_,hb_⟩
   ·replace c7:=Bool.eq_false_iff.mpr c7;subst c7;rw[if_neg (show ¬(false=true) by decide)]at H;by_cases c8:a1≤127
    ·rw[if_pos c8]at H;have c8b0:decide (a1≤127)=true:=decide_eq_true c8;clear c8;simp only[Option.some.injEq,Prod.mk.injEq]at H;obtain⟨rfl,rfl⟩:=H;go_wp2
     go_ret2
     exact⟨rf_,hb_⟩
    ·rw[if_neg c8]at H;have c8b0:decide (a1≤127)=false:=decide_eq_false c8;clear c8;by_cases c9:a0=2
     ·rw[if_pos c9]at H;have c9b0:(a0==2)=true:=beq_iff_eq.mpr c9;have c9b1:(a0 != 2)=false:=bne_eq_false_iff_eq.mpr c9;clear c9;replace H:=Option.bind_eq_some_iff.mp H;obtain⟨t635,A100,H⟩:=H;try dsimp only at H
      have A10:=Aside0.mk A100;clear A100;simp only[Option.some.injEq,Prod.mk.injEq]at H;obtain⟨rfl,rfl⟩:=H;go_wp2_with (first|((with_reducible refine gate_callee (f:=58) rfl ?_);refine goesL_ (some 23) rfl rfl Tryd.func58 (by kernel_rfl) rfl #[.int .i64 a1] rfl ka_ ?_;(with_reducible refine(impl_nineSign.calls a1 t635 _ A10.out).mono ?_);rintro e w' ⟨rfl,⟨nd,rfl⟩⟩;refine⟨_,rfl,?_⟩))
      go_ret2
      exact⟨rf_,hb_⟩
     ·rw[if_neg c9]at H;have c9b0:(a0==2)=false:=beq_eq_false_iff_ne.mpr c9;have c9b1:(a0 != 2)=true:=bne_iff_ne.mpr c9;by_cases c11:a0=3
      ·rw[if_pos c11]at H;have c11b0:(a0==3)=true:=beq_iff_eq.mpr c11;have c11b1:(a0 != 3)=false:=bne_eq_false_iff_eq.mpr c11;clear c11;replace H:=Option.bind_eq_some_iff.mp H;obtain⟨t636,A120,H⟩:=H;try dsimp only at H
       have A12:=Aside0.mk A120;clear A120;simp only[Option.some.injEq,Prod.mk.injEq]at H;obtain⟨rfl,rfl⟩:=H;go_wp2_with (first|((with_reducible refine gate_callee (f:=59) rfl ?_);refine goesL_ (some 27) rfl rfl Tryd.func59 (by kernel_rfl) rfl #[.int .i64 a1] rfl ka_ ?_;(with_reducible refine(impl_koiSign.calls a1 t636 _ A12.out).mono ?_);rintro e w13 ⟨rfl,hb⟩;refine⟨_,rfl,?_⟩;replace HB:=Aside0.mk (below_step hb_ hb);try clear hb))
       go_ret2
       exact⟨rf_,hb_⟩
      ·rw[if_neg c11]at H;have c11b0:(a0==3)=false:=beq_eq_false_iff_ne.mpr c11;have c11b1:(a0 != 3)=true:=bne_iff_ne.mpr c11;by_cases c14:a0=4
       ·rw[if_pos c14]at H;have c14b0:(a0==4)=true:=beq_iff_eq.mpr c14;have c14b1:(a0 != 4)=false:=bne_eq_false_iff_eq.mpr c14;clear c14;replace H:=Option.bind_eq_some_iff.mp H;obtain⟨t637,A150,H⟩:=H;try dsimp only at H
        have A15:=Aside0.mk A150;clear A150;simp only[Option.some.injEq,Prod.mk.injEq]at H;obtain⟨rfl,rfl⟩:=H;go_wp2_with (first|((with_reducible refine gate_callee (f:=60) rfl ?_);refine goesL_ (some 31) rfl rfl Tryd.func60 (by kernel_rfl) rfl #[.int .i64 a1] rfl ka_ ?_;(with_reducible refine(impl_winSign.calls a1 t637 _ A15.out).mono ?_);rintro e w16 ⟨rfl,hb⟩;refine⟨_,rfl,?_⟩;replace HB:=Aside0.mk (below_step hb_ hb);try clear hb))
        go_ret2
        exact⟨rf_,hb_⟩
       ·rw[if_neg c14]at H;have c14b0:(a0==4)=false:=beq_eq_false_iff_ne.mpr c14;have c14b1:(a0 != 4)=true:=bne_iff_ne.mpr c14;simp only[Option.some.injEq,Prod.mk.injEq]at H;obtain⟨rfl,rfl⟩:=H;go_wp2
        go_ret2
        exact⟨rf_,hb_⟩
end Go.Proofs.YtjadcnkelffdgaaDoor.QFnStreamsBent
