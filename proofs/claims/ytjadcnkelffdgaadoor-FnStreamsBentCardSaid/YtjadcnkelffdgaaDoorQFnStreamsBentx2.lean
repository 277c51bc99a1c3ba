/- The functions that a law reaches, each as a plain function, and that Go comes to just its answer: written by the session's program pp.py (the kit's print, with a few rows turned). -/
import Derived.Test.YtjadcnkelffdgaaDoorQFnStreamsBentx0
import Derived.Test.YtjadcnkelffdgaaDoorQFnStreamsBentx1
namespace Go.Proofs.YtjadcnkelffdgaaDoor.QFnStreamsBent
open Go.RowKit Go.Proofs.YtjadcnkelffdgaaDoorW.PrintWords Go.Proofs.YtjadcnkelffdgaaDoorW.PrintLast Go.Proofs.YtjadcnkelffdgaaDoorW.PrintMore Go.Proofs.YtjadcnkelffdgaaDoor.Xw Go.Proofs.YtjadcnkelffdgaaDoor.Xs Go.Proofs.YtjadcnkelffdgaaDoor.Xr Go.Proofs.YtjadcnkelffdgaaDoor.Ext
attribute [local go_sem] max2_int min2_int max_two min_two max_three min_three max_four min_four
set_option linter.unusedVariables false
set_option linter.unusedSimpArgs false
mutual
def spec_GetSign.j0:Nat→List Int→Int→Int→Bool→Option (Int×Int×Bool)
 |0,_,_,_,_=>none
 |k+1,x0,x1,x7,x30=>if x30=true then(some (0,0,false))else(if 0≤x1 then(if x1<(x0.length:Int)then(if x7>1 then(if 0≤(IntKind.u64.wrap (x7))then(spec_GetSign.j1 k x0 x1 x7 (Go.bits .and .i64 (wrap64 (rd x0 x1)) (shr .i64 127 (IntKind.u64.wrap (x7)))))else(none))else(spec_GetSign.j1 k x0 x1 x7 (wrap64 (rd x0 x1))))else(none))else(none))
def spec_GetSign.j1:Nat→List Int→Int→Int→Int→Option (Int×Int×Bool)
 |0,_,_,_,_=>none
 |k+1,x0,x1,x7,x8=>spec_GetSign.l0 k x0 x1 x7 x8 1
def spec_GetSign.l0:Nat→List Int→Int→Int→Int→Int→Option (Int×Int×Bool)
 |0,_,_,_,_,_=>none
 |k+1,x0,x1,x7,x8,x9=>if x9<x7 then(if 0≤(wrap64 (x1+x9))then(if(wrap64 (x1+x9))<(x0.length:Int)then(if(Go.bits .and .u8 (rd x0 (wrap64 (x1+x9))) 192)=128 then(spec_GetSign.l0 k x0 x1 x7 (Go.bits .or .i64 (wrap64 (x8*64)) (wrap64 (Go.bits .and .u8 (rd x0 (wrap64 (x1+x9))) 63))) (wrap64 (x9+1)))else(some (0,0,false)))else(none))else(none))else((spec_SignOk.f x8).bind fun t166=>(if t166=true then((spec_PutSign.f (([]:List Int)) x8).bind fun t170=>(if 0≤x1 then(if x1≤(wrap64 (x1+x7))then(if(wrap64 (x1+x7))≤(x0.length:Int)then(if(strOfNums t170).toList=(strOfNums ((x0.take ((wrap64 (x1+x7)):Int).toNat).drop (x1:Int).toNat)).toList then(some (x8,wrap64 (x1+x7),true))else(some (0,0,false)))else(none))else(none))else(none)))else(some (0,0,false))))
end
def spec_GetSign.f (k:Nat) (l0:List Int) (a1:Int):Option (Int×Int×Bool):=(spec_l1In.f a1 0 (wrap64 ((l0.length:Int)-1))).bind fun t160=>(if t160=true then(if 0≤a1 then(if a1<(l0.length:Int)then((spec_l2Len.f (rd l0 a1)).bind fun t162=>(if t162=0 then(spec_GetSign.j0 k l0 a1 t162 true)else(spec_GetSign.j0 k l0 a1 t162 (decide (t162>(wrap64 ((l0.length:Int)-a1)))))))else(none))else(none))else(some (0,0,false)))
theorem spec_GetSign.mono_l:∀k,(∀y0 y1 y2 y3,LeO (spec_GetSign.j0 k y0 y1 y2 y3) (spec_GetSign.j0 (k+1) y0 y1 y2 y3))∧(∀y0 y1 y2 y3,LeO (spec_GetSign.j1 k y0 y1 y2 y3) (spec_GetSign.j1 (k+1) y0 y1 y2 y3))∧(∀y0 y1 y2 y3 y4,LeO (spec_GetSign.l0 k y0 y1 y2 y3 y4) (spec_GetSign.l0 (k+1) y0 y1 y2 y3 y4))
 |0=>⟨fun _ _ _ _ r h=>by simp[spec_GetSign.j0]at h,fun _ _ _ _ r h=>by simp[spec_GetSign.j1]at h,fun _ _ _ _ _ r h=>by simp[spec_GetSign.l0]at h⟩
 |k+1=>by
  obtain⟨ih0,ih1,ih2⟩:=spec_GetSign.mono_l k;refine⟨?_,?_,?_⟩
  ·intro y0 y1 y2 y3;unfold spec_GetSign.j0
   repeat' first
   |(with_reducible exact ih0 _ _ _ _)
   |(with_reducible exact ih1 _ _ _ _)
   |(with_reducible exact ih2 _ _ _ _ _)
   |(with_reducible exact LeO.refl _)
   |(with_reducible exact LeO.none _)
   |(with_reducible refine LeO.ite ?_ ?_)
   |(with_reducible refine LeO.bind ?_ (fun _=>?_))
   |exact ih0 _ _ _ _
   |exact ih1 _ _ _ _
   |exact ih2 _ _ _ _ _
   |exact LeO.none _
   |refine LeO.ite ?_ ?_
   |refine LeO.bind ?_ (fun _=>?_)
  ·intro y0 y1 y2 y3;unfold spec_GetSign.j1
   repeat' first
   |(with_reducible exact ih0 _ _ _ _)
   |(with_reducible exact ih1 _ _ _ _)
   |(with_reducible exact ih2 _ _ _ _ _)
   |(with_reducible exact LeO.refl _)
   |(with_reducible exact LeO.none _)
   |(with_reducible refine LeO.ite ?_ ?_)
   |(with_reducible refine LeO.bind ?_ (fun _=>?_))
   |exact ih0 _ _ _ _
   |exact ih1 _ _ _ _
   |exact ih2 _ _ _ _ _
   |exact LeO.none _
   |refine LeO.ite ?_ ?_
   |refine LeO.bind ?_ (fun _=>?_)
  ·intro y0 y1 y2 y3 y4;unfold spec_GetSign.l0
   repeat' first
   |(with_reducible exact ih0 _ _ _ _)
   |(with_reducible exact ih1 _ _ _ _)
   |(with_reducible exact ih2 _ _ _ _ _)
   |(with_reducible exact LeO.refl _)
   |(with_reducible exact LeO.none _)
   |(with_reducible refine LeO.ite ?_ ?_)
   |(with_reducible refine LeO.bind ?_ (fun _=>?_))
   |exact ih0 _ _ _ _
   |exact ih1 _ _ _ _
   |exact ih2 _ _ _ _ _
   |exact LeO.none _
   |refine LeO.ite ?_ ?_
   |refine LeO.bind ?_ (fun _=>?_)
theorem spec_GetSign.mono:∀a0 a1 k,LeO (spec_GetSign.f k a0 a1) (spec_GetSign.f (k+1) a0 a1):=by
 intro a0 a1 k;obtain⟨ih0,ih1,ih2⟩:=spec_GetSign.mono_l k;unfold spec_GetSign.f
 repeat' first
   |(with_reducible exact ih0 _ _ _ _)
   |(with_reducible exact ih1 _ _ _ _)
   |(with_reducible exact ih2 _ _ _ _ _)
   |(with_reducible exact LeO.refl _)
   |(with_reducible exact LeO.none _)
   |(with_reducible refine LeO.ite ?_ ?_)
   |(with_reducible refine LeO.bind ?_ (fun _=>?_))
   |exact ih0 _ _ _ _
   |exact ih1 _ _ _ _
   |exact ih2 _ _ _ _ _
   |exact LeO.none _
   |refine LeO.ite ?_ ?_
   |refine LeO.bind ?_ (fun _=>?_)
def spec_GetSign.T15:Bool×List (List Nat×List Nat):=(true,[([],[]),([0],[0]),([1],[1]),([2,1],[2]),([3],[3]),([3],[3]),([4,5,3,3],[3,4,5]),([6,3],[3,6]),([3],[3]),([3],[3]),([3],[3]),([3],[3]),([10,11,3],[3,10,11]),([8,9,12,3],[3,8,9,12]),([13,3],[3,13]),([7,14,3],[3,7,14]),([3,15],[3,15])])
def spec_GetSign.B15:List Nat:=[0,1,3,7,15,15,63,127,15,15,15,15,3087,7951,16143,32767,65535]
theorem spec_GetSign.tab15:rtab .any (opsOf Tryd.f44 15)=spec_GetSign.T15:=by kernel_rfl
theorem spec_GetSign.bits15:waitsOk spec_GetSign.T15.2 spec_GetSign.B15=true:=by kernel_rfl
set_option maxHeartbeats 8000000 in
set_option maxRecDepth 100000 in
theorem spec_GetSign.calls (k:Nat) (A0:Option Addr) (c0:Nat) (l0:List Int) (a1:Int) (r1:Int) (r2:Int) (r3:Bool) (w:World) (hr0:Kd.C (Kd.int .u8) w A0 l0.length l0) (hc0:l0.length≤c0) (h:spec_GetSign.f k l0 a1=some (r1,r2,r3)):
  Calls Tryd.prog 44 #[.slice A0 l0.length c0,.int .i64 a1] w fun e w'=>e= .returned (.tuple #[.int .i64 r1,.int .i64 r2,.bool r3])∧Below w.heap.size w w':=by
 have HR0:=Aside0.mk hr0;have HC0:=Aside0.mk hc0;clear hr0 hc0;have HB:=Aside0.mk (Below.refl w.heap.size w);have H:((spec_l1In.f a1 0 (wrap64 ((l0.length:Int)-1))).bind fun t160=>(if t160=true then(if 0≤a1 then(if a1<(l0.length:Int)then((spec_l2Len.f (rd l0 a1)).bind fun t162=>(if t162=0 then(spec_GetSign.j0 k l0 a1 t162 true)else(spec_GetSign.j0 k l0 a1 t162 (decide (t162>(wrap64 ((l0.length:Int)-a1)))))))else(none))else(none))else(some (0,0,false))))=some (r1,r2,r3):=h;clear h;replace H:=Option.bind_eq_some_iff.mp H;obtain⟨t160,A30,H⟩:=H;try dsimp only at H
 have A3:=Aside0.mk A30;clear A30;by_cases c4:t160=true
 ·subst c4;rw[if_pos rfl]at H;by_cases c5:0≤a1
  ·rw[if_pos c5]at H;have c5b0:decide (0≤a1)=true:=decide_eq_true c5;clear c5;by_cases c6:a1<(l0.length:Int)
   ·rw[if_pos c6]at H;have c6b0:decide (a1<(l0.length:Int))=true:=decide_eq_true c6;clear c6;replace H:=Option.bind_eq_some_iff.mp H;obtain⟨t162,A70,H⟩:=H;try dsimp only at H
    have A7:=Aside0.mk A70;clear A70;have HC8:=Aside0.mk H;clear H;go_enter Tryd.func44,Tryd.ntmps44
    go_upto_region 4 with (first|((with_reducible refine gate_callee (f:=49) rfl ?_);refine goesL_ (some 14) rfl rfl Tryd.func49 (by kernel_rfl) rfl #[.int .i64 a1,.int .i64 0,.int .i64 (wrap64 ((l0.length:Int)-1))] rfl ka_ ?_;(with_reducible refine(spec_l1In.calls a1 0 (wrap64 ((l0.length:Int)-1)) true _ A3.out).mono ?_);rintro e w' ⟨rfl,⟨nd,rfl⟩⟩;refine⟨_,rfl,?_⟩;have p161:0≤(a1:Int):=of_decide_eq_true as_;have q161:a1<(l0.length:Int):=of_decide_eq_true as_;obtain⟨ad161,e161,hx161_0⟩:=Kd.at_int HR0.out a1 p161 q161;cases e161;replace p161:=eq_true p161;replace q161:=eq_true q161)|((with_reducible refine gate_callee (f:=62) rfl ?_);refine goesL_ (some 20) rfl rfl Tryd.func62 (by kernel_rfl) rfl #[.int .u8 (rd l0 a1)] rfl ka_ ?_;(with_reducible refine(spec_l2Len.calls (rd l0 a1) t162 _ A7.out).mono ?_);rintro e w' ⟨rfl,⟨nd,rfl⟩⟩;refine⟨_,rfl,?_⟩))
    (try simp only[Act.put,List.setIfInBounds_toArray,List.set_cons_zero,List.set_cons_succ])
    go_cut [30] (fun v30 wc=>∃(kq:Nat) (x30_7:Bool),v30= .bool x30_7∧Aside0 (spec_GetSign.j0 kq l0 a1 t162 x30_7=some (r1,r2,r3))∧Aside0 (kq≤k)∧Aside0 (Below w.heap.size w wc))
    case first=>
     have H:=HC8.out;clear HC8;by_cases c9:t162=0
     ·rw[if_pos c9]at H;have c9b0:(t162==0)=true:=beq_iff_eq.mpr c9;have c9b1:(t162 != 0)=false:=bne_eq_false_iff_eq.mpr c9;clear c9;(first|rw[c9b0]|(simp only[i64_w,i32_w];rw[c9b0])|skip)
      have H':=Aside0.mk H;clear H;go_wp2
      go_meet
      case rel=>exact⟨_,(true),(by first|rfl|(simp;done)|(simp[*];done)),H',⟨by first|omega|exact Nat.le_refl _⟩,⟨by repeat(first|(with_reducible first|exact HB.out|apply below_alloc|apply pw_below_drewN|apply below_drew1)|exact HB.out)⟩⟩
     ·rw[if_neg c9]at H;have c9b0:(t162==0)=false:=beq_eq_false_iff_ne.mpr c9;have c9b1:(t162 != 0)=true:=bne_iff_ne.mpr c9;(first|rw[c9b0]|(simp only[i64_w,i32_w];rw[c9b0])|skip)
      have H':=Aside0.mk H;clear H;go_wp2
      go_meet
      case rel=>exact⟨_,(decide (t162>(wrap64 ((l0.length:Int)-a1)))),(by first|rfl|(simp;done)|(simp[*];done)),H',⟨by first|omega|exact Nat.le_refl _⟩,⟨by repeat(first|(with_reducible first|exact HB.out|apply below_alloc|apply pw_below_drewN|apply below_drew1)|exact HB.out)⟩⟩
    case rest=>
     clear HC8;try clear p1
     try clear q1
     try clear hx1
     try clear p2
     try clear c4
     try clear c5
     try clear c5b0
     try clear c6
     try clear c6b0
     try clear p6
     try clear c9
     try clear c9b0
     try clear c9b1
     try clear hx161_0
     try clear p161
     try clear q161
     obtain⟨kq,x30_7,rfl,HA,HJ7,HB⟩:=hcut
     cases kq with
     |zero=>exact absurd HA.out (by simp[spec_GetSign.j0])
     |succ kj7=>
      have H:=HA.out;clear HA;simp only[spec_GetSign.j0]at H;by_cases c10:x30_7=true
      ·subst c10;rw[if_pos rfl]at H;simp only[Option.some.injEq,Prod.mk.injEq]at H;obtain⟨rfl,rfl,rfl⟩:=H;go_wp2
       go_ret3
       exact⟨rf_,hb_⟩
      ·replace c10:=Bool.eq_false_iff.mpr c10;subst c10;rw[if_neg (show ¬(false=true) by decide)]at H;by_cases c11:0≤a1
       ·rw[if_pos c11]at H;have c11b0:decide (0≤a1)=true:=decide_eq_true c11;clear c11;by_cases c12:a1<(l0.length:Int)
        ·rw[if_pos c12]at H;have c12b0:decide (a1<(l0.length:Int))=true:=decide_eq_true c12;clear c12;have HC13:=Aside0.mk H;clear H;have p163:0≤(a1:Int):=of_decide_eq_true as_;have q163:a1<(l0.length:Int):=of_decide_eq_true as_;obtain⟨ad163,e163,hx163_0⟩:=Kd.at_int HR0.out a1 p163 q163;obtain rfl:ad161=ad163:=(by injection e163);replace hx163_0:=(HB.out.cell (World.block_lt_of_cell? w _ hx163_0)).trans hx163_0;replace p163:=eq_true p163;replace q163:=eq_true q163;go_upto_if 37 with (fail)
         go_cut [8] (fun v8 wc=>∃(kq:Nat) (x8_12:Int),v8= .int .i64 x8_12∧Aside0 (spec_GetSign.j1 kq l0 a1 t162 x8_12=some (r1,r2,r3))∧Aside0 (kq≤kj7)∧Aside0 (Below w.heap.size w wc))
         case first=>
          have H:=HC13.out;clear HC13;by_cases c14:t162>1
          ·rw[if_pos c14]at H;have c14b0:decide (1<t162)=true:=decide_eq_true c14;clear c14;(first|rw[c14b0]|(simp only[i64_w,i32_w];rw[c14b0])|skip)
           obtain⟨ji15,hji15⟩:∃j_:Int,(IntKind.u64.wrap (t162))=j_:=⟨_,rfl⟩;replace H:(if 0≤(ji15)then(spec_GetSign.j1 kj7 l0 a1 t162 (Go.bits .and .i64 (wrap64 (rd l0 a1)) (shr .i64 127 (ji15))))else(none))=some (r1,r2,r3):=by first|(rw[hji15]at H;exact H)|(simp only[hji15]at H⊢;exact H)
           by_cases c16:0≤(ji15)
           ·rw[if_pos c16]at H;have c16b0:=eq_true c16;have c16b1:decide (0≤(ji15))=true:=decide_eq_true c16;clear c16;obtain⟨ji17,hji17⟩:∃j_:Int,(shr .i64 127 (ji15))=j_:=⟨_,rfl⟩;replace H:(spec_GetSign.j1 kj7 l0 a1 t162 (Go.bits .and .i64 (wrap64 (rd l0 a1)) (ji17)))=some (r1,r2,r3):=by first|(rw[hji17]at H;exact H)|(simp only[hji17]at H⊢;exact H)
            have hji17_:(127/2^min (ji15).toNat 64)=ji17:=hji17;have hji17z:(ji15)≤64→(127/2^(ji15).toNat)=ji17:=shr_small hji17;have H':=Aside0.mk H;clear H;go_wp2
            go_meet
            case rel=>exact⟨_,(Go.bits .and .i64 (wrap64 (rd l0 a1)) (ji17)),(by first|rfl|(simp;done)|(simp only[←hji17]<;>(first|rfl|simp))|(simp[*];done)),H',⟨by have:=HJ7.out;first|omega|exact Nat.le_refl _⟩,⟨by repeat(first|(with_reducible first|exact HB.out|apply below_alloc|apply pw_below_drewN|apply below_drew1)|exact HB.out)⟩⟩
           ·rw[if_neg c16]at H;exact absurd H (by simp)
          ·rw[if_neg c14]at H;have c14b0:decide (1<t162)=false:=decide_eq_false c14;clear c14;(first|rw[c14b0]|(simp only[i64_w,i32_w];rw[c14b0])|skip)
           have H':=Aside0.mk H;clear H;go_wp2
           go_meet
           case rel=>exact⟨_,(wrap64 (rd l0 a1)),(by first|rfl|(simp;done)|(simp[*];done)),H',⟨by have:=HJ7.out;first|omega|exact Nat.le_refl _⟩,⟨by repeat(first|(with_reducible first|exact HB.out|apply below_alloc|apply pw_below_drewN|apply below_drew1)|exact HB.out)⟩⟩
         case rest=>
          clear HC13;try clear c1
          try clear p1
          try clear q1
          try clear hx1
          try clear p2
          try clear c4
          try clear c5
          try clear c5b0
          try clear c6
          try clear c6b0
          try clear p6
          try clear c9
          try clear c9b0
          try clear c9b1
          try clear c10
          try clear c11
          try clear c11b0
          try clear c12
          try clear c12b0
          try clear c14
          try clear c14b0
          try clear c16
          try clear c16b0
          try clear c16b1
          try clear p16
          try clear q16
          try clear hx16
          try clear hx161_0
          try clear hx163_0
          try clear p1
          try clear p161
          try clear p163
          try clear p2
          try clear p6
          try clear q1
          try clear q161
          try clear q163
          obtain⟨kq,x8_12,rfl,HA,HJ12,HB⟩:=hcut
          cases kq with
          |zero=>exact absurd HA.out (by simp[spec_GetSign.j1])
          |succ kj12=>
           have H:=HA.out;clear HA;simp only[spec_GetSign.j1]at H;have H':=Aside0.mk H;clear H;go_wp2
           go_loopg [8,9] kj12 (fun kq v8 v9 w'=>∃(x8_3:Int) (x9_3:Int),v8= .int .i64 x8_3∧v9= .int .i64 x9_3∧Aside0 (spec_GetSign.l0 kq l0 a1 t162 x8_3 x9_3=some (r1,r2,r3))∧Aside0 (kq≤kj12)∧Aside0 (Below w.heap.size w w'))
           case atStart=>exact⟨(x8_12),(1),(by first|rfl|(simp;done)|(simp[*];done)),(by first|rfl|(simp;done)|(simp[*];done)),H',⟨Nat.le_refl _⟩,⟨by repeat(first|(with_reducible first|exact HB.out|apply below_alloc|apply pw_below_drewN|apply below_drew1)|exact HB.out)⟩⟩
           case round=>
            clear H';try clear c1
            try clear p1
            try clear q1
            try clear hx1
            try clear p2
            try clear c4
            try clear c5
            try clear c5b0
            try clear c6
            try clear c6b0
            try clear p6
            try clear c9
            try clear c9b0
            try clear c9b1
            try clear c10
            try clear c11
            try clear c11b0
            try clear c12
            try clear c12b0
            try clear c14
            try clear c14b0
            try clear c16
            try clear c16b0
            try clear c16b1
            try clear p16
            try clear q16
            try clear hx16
            try clear hx161_0
            try clear hx163_0
            try clear p1
            try clear p16
            try clear p161
            try clear p163
            try clear p2
            try clear p6
            try clear q1
            try clear q16
            try clear q161
            try clear q163
            obtain⟨x8_3,x9_3,rfl,rfl,HA,HK3,HB⟩:=hrel
            cases gk with
            |zero=>exact absurd HA.out (by simp[spec_GetSign.l0])
            |succ k3=>
             have H:=HA.out;clear HA;simp only[spec_GetSign.l0]at H;by_cases c18:x9_3<t162
             ·rw[if_pos c18]at H;have c18b0:decide (x9_3<t162)=true:=decide_eq_true c18;clear c18;obtain⟨ji19,hji19⟩:∃j_:Int,(wrap64 (a1+x9_3))=j_:=⟨_,rfl⟩;replace H:(if 0≤(ji19)then(if(ji19)<(l0.length:Int)then(if(Go.bits .and .u8 (rd l0 (ji19)) 192)=128 then(spec_GetSign.l0 k3 l0 a1 t162 (Go.bits .or .i64 (wrap64 (x8_3*64)) (wrap64 (Go.bits .and .u8 (rd l0 (ji19)) 63))) (wrap64 (x9_3+1)))else(some (0,0,false)))else(none))else(none))=some (r1,r2,r3):=by first|(rw[hji19]at H;exact H)|(simp only[hji19]at H⊢;exact H)
              have hji19w:(IntKind.i64.wrap (a1+x9_3))=ji19:=(i64_w _).trans hji19;by_cases c20:0≤(ji19)
              ·rw[if_pos c20]at H;have c20b0:decide (0≤(ji19))=true:=decide_eq_true c20;clear c20;by_cases c21:(ji19)<(l0.length:Int)
               ·rw[if_pos c21]at H;have c21b0:decide ((ji19)<(l0.length:Int))=true:=decide_eq_true c21;clear c21;by_cases c22:(Go.bits .and .u8 (rd l0 (ji19)) 192)=128
                ·rw[if_pos c22]at H;have c22b0:((Go.bits .and .u8 (rd l0 (ji19)) 192)==128)=true:=beq_iff_eq.mpr c22;have c22b1:((Go.bits .and .u8 (rd l0 (ji19)) 192) != 128)=false:=bne_eq_false_iff_eq.mpr c22;clear c22;have H':=Aside0.mk H;clear H;have p164:0≤((ji19):Int):=of_decide_eq_true as_;have q164:(ji19)<(l0.length:Int):=of_decide_eq_true as_;obtain⟨ad164,e164,hx164_0⟩:=Kd.at_int HR0.out (ji19) p164 q164;obtain rfl:ad161=ad164:=(by injection e164);replace hx164_0:=(HB.out.cell (World.block_lt_of_cell? w _ hx164_0)).trans hx164_0;replace p164:=eq_true p164;replace q164:=eq_true q164;have p165:0≤((ji19):Int):=of_decide_eq_true as_;have q165:(ji19)<(l0.length:Int):=of_decide_eq_true as_;obtain⟨ad165,e165,hx165_0⟩:=Kd.at_int HR0.out (ji19) p165 q165;obtain rfl:ad161=ad165:=(by injection e165);replace hx165_0:=(HB.out.cell (World.block_lt_of_cell? w _ hx165_0)).trans hx165_0;replace p165:=eq_true p165;replace q165:=eq_true q165;go_wp2
                 go_roundg k3
                 case measure=>have:=HJ7.out;have:=HJ12.out;have:=HK3.out;omega
                 case rel=>exact⟨(Go.bits .or .i64 (wrap64 (x8_3*64)) (wrap64 (Go.bits .and .u8 (rd l0 (ji19)) 63))),(wrap64 (x9_3+1)),(by first|rfl|(simp;done)|(simp only[←hji19]<;>(first|rfl|simp))|(simp[*];done)),(by first|rfl|(simp;done)|(simp[*];done)),H',⟨by have:=HJ7.out;have:=HJ12.out;have:=HK3.out;omega⟩,⟨by repeat(first|(with_reducible first|exact HB.out|apply below_alloc|apply pw_below_drewN|apply below_drew1)|exact HB.out)⟩⟩
                ·rw[if_neg c22]at H;have c22b0:((Go.bits .and .u8 (rd l0 (ji19)) 192)==128)=false:=beq_eq_false_iff_ne.mpr c22;have c22b1:((Go.bits .and .u8 (rd l0 (ji19)) 192) != 128)=true:=bne_iff_ne.mpr c22;simp only[Option.some.injEq,Prod.mk.injEq]at H;obtain⟨rfl,rfl,rfl⟩:=H;have p164:0≤((ji19):Int):=of_decide_eq_true as_;have q164:(ji19)<(l0.length:Int):=of_decide_eq_true as_;obtain⟨ad164,e164,hx164_0⟩:=Kd.at_int HR0.out (ji19) p164 q164;obtain rfl:ad161=ad164:=(by injection e164);replace hx164_0:=(HB.out.cell (World.block_lt_of_cell? w _ hx164_0)).trans hx164_0;replace p164:=eq_true p164;replace q164:=eq_true q164;go_wp2
                 go_ret3
                 exact⟨by first|rfl|(simp[errW_none,errW_some]<;>rfl)|(simp only[←hji19];first|rfl|(simp[errW_none,errW_some]<;>rfl))|(simp[*,errW_none,errW_some]<;>rfl),hb_⟩
               ·rw[if_neg c21]at H;exact absurd H (by simp)
              ·rw[if_neg c20]at H;exact absurd H (by simp)
             ·rw[if_neg c18]at H;have c18b0:decide (x9_3<t162)=false:=decide_eq_false c18;clear c18;replace H:=Option.bind_eq_some_iff.mp H;obtain⟨t166,A230,H⟩:=H;try dsimp only at H
              have A23:=Aside0.mk A230;clear A230;by_cases c24:t166=true
              ·subst c24;rw[if_pos rfl]at H;obtain⟨y167,hy167⟩:∃y_:List Int,y_=(([]:List Int)):=⟨_,rfl⟩;replace H:((spec_PutSign.f y167 x8_3).bind fun t170=>(if 0≤a1 then(if a1≤(wrap64 (a1+t162))then(if(wrap64 (a1+t162))≤(l0.length:Int)then(if(strOfNums t170).toList=(strOfNums ((l0.take ((wrap64 (a1+t162)):Int).toNat).drop (a1:Int).toNat)).toList then(some (x8_3,wrap64 (a1+t162),true))else(some (0,0,false)))else(none))else(none))else(none)))=some (r1,r2,r3):=by first|(rw[hy167];with_reducible exact H)|(have H2_:=(Option.bind_some _ _).symm.trans H;rw[hy167];with_reducible exact H2_)|(have H2_:=(Option.bind_some _ _).symm.trans H;with_reducible exact H2_)|with_reducible exact H|(rw[hy167];exact H)|exact H
               have Ny167:=Aside0.mk hy167;clear hy167;replace H:=Option.bind_eq_some_iff.mp H;obtain⟨t170,A250,H⟩:=H;try dsimp only at H
               have A25:=Aside0.mk A250;clear A250;by_cases c26:0≤a1
               ·rw[if_pos c26]at H;have c26b0:=eq_true c26;have c26b1:decide (0≤a1)=true:=decide_eq_true c26;clear c26;by_cases c27:a1≤(wrap64 (a1+t162))
                ·rw[if_pos c27]at H;have c27b0:=eq_true c27;have c27b1:decide (a1≤(wrap64 (a1+t162)))=true:=decide_eq_true c27;by_cases c28:(wrap64 (a1+t162))≤(l0.length:Int)
                 ·rw[if_pos c28]at H;have c28b0:=eq_true c28;have c28b1:decide ((wrap64 (a1+t162))≤(l0.length:Int))=true:=decide_eq_true c28;by_cases c29:(strOfNums t170).toList=(strOfNums ((l0.take ((wrap64 (a1+t162)):Int).toNat).drop (a1:Int).toNat)).toList
                  ·rw[if_pos c29]at H;have c29b0:((strOfNums t170).toList==(strOfNums ((l0.take ((wrap64 (a1+t162)):Int).toNat).drop (a1:Int).toNat)).toList)=true:=beq_iff_eq.mpr c29;have c29b1:((strOfNums t170).toList != (strOfNums ((l0.take ((wrap64 (a1+t162)):Int).toNat).drop (a1:Int).toNat)).toList)=false:=bne_eq_false_iff_eq.mpr c29;clear c29;simp only[Option.some.injEq,Prod.mk.injEq]at H;obtain⟨rfl,rfl,rfl⟩:=H;try go_wp2
                   replace HB:=Aside0.mk (below_drew1 HB.out);obtain⟨i031,hi031,_,hsz31,_⟩:=info_parts info5;obtain⟨A31,hcut31,hA31,hC31⟩:=print_mid_of (P:=Tryd.prog) (Value.int .u8) 0 22 5 .i64 .i64 Tryd.underlying22 hi031 hsz31 (some ad161) c0 l0 a1 (wrap64 (a1+t162)) (of_decide_eq_true as_) (by first|omega|exact of_decide_eq_true as_) (of_decide_eq_true as_) HC0.out;have HR173:=Aside0.mk (Kd.C_of_reads (h1:=fun _=>rfl) (hA31 _ (Kd.reads_of_C HR0.out)));have HC173:=Aside0.mk hC31;clear hA31 hC31 hi031 hsz31;refine start_ (n:=17) (S:=fun w'=>(convert 22 9 (.slice A31 ((wrap64 (a1+t162)).toNat-a1.toNat) (c0-a1.toNat))).run Tryd.prog w'= .ok (.string (strOfNums ((l0.take ((wrap64 (a1+t162)):Int).toNat).drop (a1:Int).toNat))) w') (ds:=[]) #[false,false,false,false,false,false,false,false,false,false,false,false,false,false,false,false,false] (by kernel_rfl) rfl rfl ((by have hcv_:=fun(w_:World) (hb_:Below w.heap.size w w_)=>Kd.C_string (P:=Tryd.prog) (A:=A31) (c:=(c0-a1.toNat)) Tryd.underlying22 Tryd.underlying5 Tryd.underlying9 (Kd.C_below HR173.out hb_);simp only[show((l0.take ((wrap64 (a1+t162)):Int).toNat).drop (a1:Int).toNat).length=((wrap64 (a1+t162)).toNat-a1.toNat)from(by rw[List.length_drop,List.length_take];have h_:((wrap64 (a1+t162)):Int)≤(l0.length:Int):=of_decide_eq_true as_;omega)]at hcv_;exact hcv_ _ hb_)) (fun hHeld=>?_);refine with_tabW spec_GetSign.tab15 spec_GetSign.bits15 (fun HT_ HW_=>?_);generalize wr.drew=w30 at HB HR173 hHeld⊢;refine pu_ 0 67 #[true,false,false,false,false,false,false,false,false,false,false,false,false,false,false,false,false] ?_ (hc:=any_of HT_.out (by kernel_rfl));refine one_ (i:=1) (N:=some 68) #[true,true,false,false,false,false,false,false,false,false,false,false,false,false,false,false,false] rfl rfl (one_of HT_.out (by kernel_rfl)) (by decide) (fun K hK=>?_);refine goes_ Tryd.func47 (by kernel_rfl) rfl #[.int .i64 x8_3] (by rfl) rfl rfl ka_ ?_;with_reducible refine(spec_SignOk.calls x8_3 true _ A23.out).mono ?_
                   rintro e w' ⟨rfl,⟨nd,rfl⟩⟩;refine⟨_,rfl,?_⟩;refine hK.out _ _ ((by have hcv_:=fun(w_:World) (hb_:Below w.heap.size w w_)=>Kd.C_string (P:=Tryd.prog) (A:=A31) (c:=(c0-a1.toNat)) Tryd.underlying22 Tryd.underlying5 Tryd.underlying9 (Kd.C_below HR173.out hb_);simp only[show((l0.take ((wrap64 (a1+t162)):Int).toNat).drop (a1:Int).toNat).length=((wrap64 (a1+t162)).toNat-a1.toNat)from(by rw[List.length_drop,List.length_take];have h_:((wrap64 (a1+t162)):Int)≤(l0.length:Int):=of_decide_eq_true as_;omega)]at hcv_;exact hcv_ _ hb_)) (fun hHeld=>?_);clear hK K;refine norm_ (a':=?_) ?_ ?_;rotate_left
                   ·show Act.put _ (some 68) _=_;simp only[Act.put,List.setIfInBounds_toArray,List.set_cons_zero,List.set_cons_succ,i64_w,i32_w];rfl
                   refine pu_ 2 69 #[true,true,true,false,false,false,false,false,false,false,false,false,false,false,false,false,false] ?_ (hc:=any_of HT_.out (by kernel_rfl));refine pu_ 3 70 #[true,true,true,true,false,false,false,false,false,false,false,false,false,false,false,false,false] ?_ (hc:=any_of HT_.out (by kernel_rfl));refine pu_ 5 72 #[true,true,true,true,false,true,false,false,false,false,false,false,false,false,false,false,false] ?_ (hc:=any_of HT_.out (by kernel_rfl));refine pu_ 8 75 #[true,true,true,true,false,true,false,false,true,false,false,false,false,false,false,false,false] ?_ (hc:=any_of HT_.out (by kernel_rfl));refine pu_ 9 76 #[true,true,true,true,false,true,false,false,true,true,false,false,false,false,false,false,false] ?_ (hc:=any_of HT_.out (by kernel_rfl));refine pu_ 10 77 #[true,true,true,true,false,true,false,false,true,true,true,false,false,false,false,false,false] ?_ (hc:=any_of HT_.out (by kernel_rfl));refine pu_ 11 78 #[true,true,true,true,false,true,false,false,true,true,true,true,false,false,false,false,false] ?_ (hc:=any_of HT_.out (by kernel_rfl));refine pu_ 12 79 #[true,true,true,true,false,true,false,false,true,true,true,true,true,false,false,false,false] ?_ (hc:=any_of HT_.out (by kernel_rfl));refine pu_ 13 80 #[true,true,true,true,false,true,false,false,true,true,true,true,true,true,false,false,false] ?_ (hc:=any_of HT_.out (by kernel_rfl));refine take_ (i:=14) (N:=some 81) (v:=?_) (a':=?_) #[true,true,true,true,false,true,false,false,true,true,true,true,true,true,true,false,false] rfl rfl (take_ofW HT_.out HW_.out (by kernel_rfl)) (fun _ _ _ h=>h) (Or.inl ⟨by rfl,?_⟩) hHeld ?_ ?_;rotate_left
                   ·intro w' s0;go_simp;with_reducible rfl
                   rotate_left
                   ·simp only[Act.put,List.setIfInBounds_toArray,List.set_cons_zero,List.set_cons_succ,i64_w,i32_w];rfl
                   refine one_ (i:=4) (N:=some 71) #[true,true,true,true,true,true,false,false,true,true,true,true,true,true,true,false,false] rfl rfl (one_of HT_.out (by kernel_rfl)) (by decide) (fun K hK=>?_);refine Kd.R_lit_step (Kd.int .u8) _ 5 ?hg (N:=71) ?hd (xs:=([]:List Int)) (inner:=[]) (ok:=fun _=>True) (okp:=fun _=>True) ?hr ?hp (fun _ hk=>hk) trivial (Below.refl _ _) (Nat.le_refl _) (by simp) ?_;(case hd=>rfl);(case hg=>rfl);(case hr=>first|(go_simp;done)|(go_simp;rfl));(case hp=>exact(Reps.none _ _));intro v168 w32 ho33 hb hg_ hnew_;clear hg_ hnew_;(first|rw[←Ny167.out]at ho33|(simp only[Int.reduceToNat]at ho33;rw[←Ny167.out]at ho33))
                   have HO169:=Aside0.mk (Kd.R_lower ho33 (below_size hb_));replace HB:=Aside0.mk (below_step hb_ hb);clear hb ho33;obtain⟨Ao34,co34,eo34⟩:=Kd.R_slice HO169.out;(first|subst eo34|(injection eo34 with f1_ f2_ f3_;have f4_:=f1_.symm;have f5_:=f3_.symm;clear f1_ f2_ f3_;subst f4_;subst f5_))
                   refine hK.out _ _ ((by have hcv_:=fun(w_:World) (hb_:Below w.heap.size w w_)=>Kd.C_string (P:=Tryd.prog) (A:=A31) (c:=(c0-a1.toNat)) Tryd.underlying22 Tryd.underlying5 Tryd.underlying9 (Kd.C_below HR173.out hb_);simp only[show((l0.take ((wrap64 (a1+t162)):Int).toNat).drop (a1:Int).toNat).length=((wrap64 (a1+t162)).toNat-a1.toNat)from(by rw[List.length_drop,List.length_take];have h_:((wrap64 (a1+t162)):Int)≤(l0.length:Int):=of_decide_eq_true as_;omega)]at hcv_;exact hcv_ _ hb_)) (fun hHeld=>?_);clear hK K;refine norm_ (a':=?_) ?_ ?_;rotate_left
                   ·show Act.put _ (some 71) _=_;simp only[Act.put,List.setIfInBounds_toArray,List.set_cons_zero,List.set_cons_succ,i64_w,i32_w];rfl
                   refine one_ (i:=6) (N:=some 73) #[true,true,true,true,true,true,true,false,true,true,true,true,true,true,true,false,false] rfl rfl (one_of HT_.out (by kernel_rfl)) (by decide) (fun K hK=>?_);refine goes_ Tryd.func24 (by kernel_rfl) rfl #[.slice Ao34 y167.length co34,.int .i64 x8_3] (by rfl) rfl rfl ka_ ?_;with_reducible refine(spec_PutSign.calls _ _ y167 x8_3 t170 _ ?side1 ?side2 A25.out).mono ?_
                   (case side1=>exact kc_ (Kd.R_reads' HO169.out).2.2)
                   (case side2=>exact(Kd.R_reads' HO169.out).2.1)
                   rintro e w35 ⟨v171,rfl,ho0,hb⟩;refine⟨_,rfl,?_⟩;have HO172:=Aside0.mk (Kd.R_lower (Kd.R_new' ho0 (Kd.R_lt (kr_ HO169))) (below_size hb_));replace HO169:=Aside0.mk (Kd.R_elder' (kr_ HO169) (Kd.R_base ho0) hb);replace HB:=Aside0.mk (below_step hb_ hb);(try clear hb)
                   (try clear hb2)
                   (try clear hk)
                   (try clear hi)
                   (try clear ho0)
                   refine hK.out _ _ ((by have hcv_:=fun(w_:World) (hb_:Below w.heap.size w w_)=>Kd.C_string (P:=Tryd.prog) (A:=A31) (c:=(c0-a1.toNat)) Tryd.underlying22 Tryd.underlying5 Tryd.underlying9 (Kd.C_below HR173.out hb_);simp only[show((l0.take ((wrap64 (a1+t162)):Int).toNat).drop (a1:Int).toNat).length=((wrap64 (a1+t162)).toNat-a1.toNat)from(by rw[List.length_drop,List.length_take];have h_:((wrap64 (a1+t162)):Int)≤(l0.length:Int):=of_decide_eq_true as_;omega)]at hcv_;exact hcv_ _ hb_)) (fun hHeld=>?_);clear hK K;refine norm_ (a':=?_) ?_ ?_;rotate_left
                   ·show Act.put _ (some 73) _=_;simp only[Act.put,List.setIfInBounds_toArray,List.set_cons_zero,List.set_cons_succ,i64_w,i32_w];rfl
                   refine one_ (i:=7) (N:=some 74) #[true,true,true,true,true,true,true,true,true,true,true,true,true,true,true,false,false] rfl rfl (one_of HT_.out (by kernel_rfl)) (by decide) (fun K hK=>?_);have hcv36:=own_string (P:=Tryd.prog) Tryd.underlying22 Tryd.underlying5 Tryd.underlying9 (Kd.own_of_R HO172.out);refine value_ (w1:=?_) (v:=?_) (by rfl) rfl ?_ ?_;rotate_left 2
                   ·go_simp;constructor
                    ·rfl
                    ·rfl
                   clear hcv36;refine hK.out _ _ ((by have hcv_:=fun(w_:World) (hb_:Below w.heap.size w w_)=>Kd.C_string (P:=Tryd.prog) (A:=A31) (c:=(c0-a1.toNat)) Tryd.underlying22 Tryd.underlying5 Tryd.underlying9 (Kd.C_below HR173.out hb_);simp only[show((l0.take ((wrap64 (a1+t162)):Int).toNat).drop (a1:Int).toNat).length=((wrap64 (a1+t162)).toNat-a1.toNat)from(by rw[List.length_drop,List.length_take];have h_:((wrap64 (a1+t162)):Int)≤(l0.length:Int):=of_decide_eq_true as_;omega)]at hcv_;exact hcv_ _ hb_)) (fun hHeld=>?_);clear hK K;refine norm_ (a':=?_) ?_ ?_;rotate_left
                   ·show Act.put _ (some 74) _=_;simp only[Act.put,List.setIfInBounds_toArray,List.set_cons_zero,List.set_cons_succ,i64_w,i32_w];rfl
                   refine pu_ 15 82 #[true,true,true,true,true,true,true,true,true,true,true,true,true,true,true,true,false] ?_ (hc:=any_of HT_.out (by kernel_rfl));refine pu_ 16 83 #[true,true,true,true,true,true,true,true,true,true,true,true,true,true,true,true,true] ?_ (hc:=any_of HT_.out (by kernel_rfl));refine done_ (done_of HT_.out (by kernel_rfl)) ?_;try go_wp2
                   go_ret3
                   exact⟨rf_,hb_⟩
                  ·rw[if_neg c29]at H;have c29b0:((strOfNums t170).toList==(strOfNums ((l0.take ((wrap64 (a1+t162)):Int).toNat).drop (a1:Int).toNat)).toList)=false:=beq_eq_false_iff_ne.mpr c29;have c29b1:((strOfNums t170).toList != (strOfNums ((l0.take ((wrap64 (a1+t162)):Int).toNat).drop (a1:Int).toNat)).toList)=true:=bne_iff_ne.mpr c29;simp only[Option.some.injEq,Prod.mk.injEq]at H;obtain⟨rfl,rfl,rfl⟩:=H;try go_wp2
                   replace HB:=Aside0.mk (below_drew1 HB.out);obtain⟨i039,hi039,_,hsz39,_⟩:=info_parts info5;obtain⟨A39,hcut39,hA39,hC39⟩:=print_mid_of (P:=Tryd.prog) (Value.int .u8) 0 22 5 .i64 .i64 Tryd.underlying22 hi039 hsz39 (some ad161) c0 l0 a1 (wrap64 (a1+t162)) (of_decide_eq_true as_) (by first|omega|exact of_decide_eq_true as_) (of_decide_eq_true as_) HC0.out;have HR173:=Aside0.mk (Kd.C_of_reads (h1:=fun _=>rfl) (hA39 _ (Kd.reads_of_C HR0.out)));have HC173:=Aside0.mk hC39;clear hA39 hC39 hi039 hsz39;refine start_ (n:=17) (S:=fun w'=>(convert 22 9 (.slice A39 ((wrap64 (a1+t162)).toNat-a1.toNat) (c0-a1.toNat))).run Tryd.prog w'= .ok (.string (strOfNums ((l0.take ((wrap64 (a1+t162)):Int).toNat).drop (a1:Int).toNat))) w') (ds:=[]) #[false,false,false,false,false,false,false,false,false,false,false,false,false,false,false,false,false] (by kernel_rfl) rfl rfl ((by have hcv_:=fun(w_:World) (hb_:Below w.heap.size w w_)=>Kd.C_string (P:=Tryd.prog) (A:=A39) (c:=(c0-a1.toNat)) Tryd.underlying22 Tryd.underlying5 Tryd.underlying9 (Kd.C_below HR173.out hb_);simp only[show((l0.take ((wrap64 (a1+t162)):Int).toNat).drop (a1:Int).toNat).length=((wrap64 (a1+t162)).toNat-a1.toNat)from(by rw[List.length_drop,List.length_take];have h_:((wrap64 (a1+t162)):Int)≤(l0.length:Int):=of_decide_eq_true as_;omega)]at hcv_;exact hcv_ _ hb_)) (fun hHeld=>?_);refine with_tabW spec_GetSign.tab15 spec_GetSign.bits15 (fun HT_ HW_=>?_);generalize wr.drew=w38 at HB HR173 hHeld⊢;refine pu_ 0 67 #[true,false,false,false,false,false,false,false,false,false,false,false,false,false,false,false,false] ?_ (hc:=any_of HT_.out (by kernel_rfl));refine one_ (i:=1) (N:=some 68) #[true,true,false,false,false,false,false,false,false,false,false,false,false,false,false,false,false] rfl rfl (one_of HT_.out (by kernel_rfl)) (by decide) (fun K hK=>?_);refine goes_ Tryd.func47 (by kernel_rfl) rfl #[.int .i64 x8_3] (by rfl) rfl rfl ka_ ?_;with_reducible refine(spec_SignOk.calls x8_3 true _ A23.out).mono ?_
                   rintro e w' ⟨rfl,⟨nd,rfl⟩⟩;refine⟨_,rfl,?_⟩;refine hK.out _ _ ((by have hcv_:=fun(w_:World) (hb_:Below w.heap.size w w_)=>Kd.C_string (P:=Tryd.prog) (A:=A39) (c:=(c0-a1.toNat)) Tryd.underlying22 Tryd.underlying5 Tryd.underlying9 (Kd.C_below HR173.out hb_);simp only[show((l0.take ((wrap64 (a1+t162)):Int).toNat).drop (a1:Int).toNat).length=((wrap64 (a1+t162)).toNat-a1.toNat)from(by rw[List.length_drop,List.length_take];have h_:((wrap64 (a1+t162)):Int)≤(l0.length:Int):=of_decide_eq_true as_;omega)]at hcv_;exact hcv_ _ hb_)) (fun hHeld=>?_);clear hK K;refine norm_ (a':=?_) ?_ ?_;rotate_left
                   ·show Act.put _ (some 68) _=_;simp only[Act.put,List.setIfInBounds_toArray,List.set_cons_zero,List.set_cons_succ,i64_w,i32_w];rfl
                   refine pu_ 2 69 #[true,true,true,false,false,false,false,false,false,false,false,false,false,false,false,false,false] ?_ (hc:=any_of HT_.out (by kernel_rfl));refine pu_ 3 70 #[true,true,true,true,false,false,false,false,false,false,false,false,false,false,false,false,false] ?_ (hc:=any_of HT_.out (by kernel_rfl));refine pu_ 5 72 #[true,true,true,true,false,true,false,false,false,false,false,false,false,false,false,false,false] ?_ (hc:=any_of HT_.out (by kernel_rfl));refine pu_ 8 75 #[true,true,true,true,false,true,false,false,true,false,false,false,false,false,false,false,false] ?_ (hc:=any_of HT_.out (by kernel_rfl));refine pu_ 9 76 #[true,true,true,true,false,true,false,false,true,true,false,false,false,false,false,false,false] ?_ (hc:=any_of HT_.out (by kernel_rfl));refine pu_ 10 77 #[true,true,true,true,false,true,false,false,true,true,true,false,false,false,false,false,false] ?_ (hc:=any_of HT_.out (by kernel_rfl));refine pu_ 11 78 #[true,true,true,true,false,true,false,false,true,true,true,true,false,false,false,false,false] ?_ (hc:=any_of HT_.out (by kernel_rfl));refine pu_ 12 79 #[true,true,true,true,false,true,false,false,true,true,true,true,true,false,false,false,false] ?_ (hc:=any_of HT_.out (by kernel_rfl));refine pu_ 13 80 #[true,true,true,true,false,true,false,false,true,true,true,true,true,true,false,false,false] ?_ (hc:=any_of HT_.out (by kernel_rfl));refine take_ (i:=14) (N:=some 81) (v:=?_) (a':=?_) #[true,true,true,true,false,true,false,false,true,true,true,true,true,true,true,false,false] rfl rfl (take_ofW HT_.out HW_.out (by kernel_rfl)) (fun _ _ _ h=>h) (Or.inl ⟨by rfl,?_⟩) hHeld ?_ ?_;rotate_left
                   ·intro w' s0;go_simp;with_reducible rfl
                   rotate_left
                   ·simp only[Act.put,List.setIfInBounds_toArray,List.set_cons_zero,List.set_cons_succ,i64_w,i32_w];rfl
                   refine one_ (i:=4) (N:=some 71) #[true,true,true,true,true,true,false,false,true,true,true,true,true,true,true,false,false] rfl rfl (one_of HT_.out (by kernel_rfl)) (by decide) (fun K hK=>?_);refine Kd.R_lit_step (Kd.int .u8) _ 5 ?hg (N:=71) ?hd (xs:=([]:List Int)) (inner:=[]) (ok:=fun _=>True) (okp:=fun _=>True) ?hr ?hp (fun _ hk=>hk) trivial (Below.refl _ _) (Nat.le_refl _) (by simp) ?_;(case hd=>rfl);(case hg=>rfl);(case hr=>first|(go_simp;done)|(go_simp;rfl));(case hp=>exact(Reps.none _ _));intro v168 w40 ho41 hb hg_ hnew_;clear hg_ hnew_;(first|rw[←Ny167.out]at ho41|(simp only[Int.reduceToNat]at ho41;rw[←Ny167.out]at ho41))
                   have HO169:=Aside0.mk (Kd.R_lower ho41 (below_size hb_));replace HB:=Aside0.mk (below_step hb_ hb);clear hb ho41;obtain⟨Ao42,co42,eo42⟩:=Kd.R_slice HO169.out;(first|subst eo42|(injection eo42 with f1_ f2_ f3_;have f4_:=f1_.symm;have f5_:=f3_.symm;clear f1_ f2_ f3_;subst f4_;subst f5_))
                   refine hK.out _ _ ((by have hcv_:=fun(w_:World) (hb_:Below w.heap.size w w_)=>Kd.C_string (P:=Tryd.prog) (A:=A39) (c:=(c0-a1.toNat)) Tryd.underlying22 Tryd.underlying5 Tryd.underlying9 (Kd.C_below HR173.out hb_);simp only[show((l0.take ((wrap64 (a1+t162)):Int).toNat).drop (a1:Int).toNat).length=((wrap64 (a1+t162)).toNat-a1.toNat)from(by rw[List.length_drop,List.length_take];have h_:((wrap64 (a1+t162)):Int)≤(l0.length:Int):=of_decide_eq_true as_;omega)]at hcv_;exact hcv_ _ hb_)) (fun hHeld=>?_);clear hK K;refine norm_ (a':=?_) ?_ ?_;rotate_left
                   ·show Act.put _ (some 71) _=_;simp only[Act.put,List.setIfInBounds_toArray,List.set_cons_zero,List.set_cons_succ,i64_w,i32_w];rfl
                   refine one_ (i:=6) (N:=some 73) #[true,true,true,true,true,true,true,false,true,true,true,true,true,true,true,false,false] rfl rfl (one_of HT_.out (by kernel_rfl)) (by decide) (fun K hK=>?_);refine goes_ Tryd.func24 (by kernel_rfl) rfl #[.slice Ao42 y167.length co42,.int .i64 x8_3] (by rfl) rfl rfl ka_ ?_;with_reducible refine(spec_PutSign.calls _ _ y167 x8_3 t170 _ ?side1 ?side2 A25.out).mono ?_
                   (case side1=>exact kc_ (Kd.R_reads' HO169.out).2.2)
                   (case side2=>exact(Kd.R_reads' HO169.out).2.1)
                   rintro e w43 ⟨v171,rfl,ho0,hb⟩;refine⟨_,rfl,?_⟩;have HO172:=Aside0.mk (Kd.R_lower (Kd.R_new' ho0 (Kd.R_lt (kr_ HO169))) (below_size hb_));replace HO169:=Aside0.mk (Kd.R_elder' (kr_ HO169) (Kd.R_base ho0) hb);replace HB:=Aside0.mk (below_step hb_ hb);(try clear hb)
                   (try clear hb2)
                   (try clear hk)
                   (try clear hi)
                   (try clear ho0)
                   refine hK.out _ _ ((by have hcv_:=fun(w_:World) (hb_:Below w.heap.size w w_)=>Kd.C_string (P:=Tryd.prog) (A:=A39) (c:=(c0-a1.toNat)) Tryd.underlying22 Tryd.underlying5 Tryd.underlying9 (Kd.C_below HR173.out hb_);simp only[show((l0.take ((wrap64 (a1+t162)):Int).toNat).drop (a1:Int).toNat).length=((wrap64 (a1+t162)).toNat-a1.toNat)from(by rw[List.length_drop,List.length_take];have h_:((wrap64 (a1+t162)):Int)≤(l0.length:Int):=of_decide_eq_true as_;omega)]at hcv_;exact hcv_ _ hb_)) (fun hHeld=>?_);clear hK K;refine norm_ (a':=?_) ?_ ?_;rotate_left
                   ·show Act.put _ (some 73) _=_;simp only[Act.put,List.setIfInBounds_toArray,List.set_cons_zero,List.set_cons_succ,i64_w,i32_w];rfl
                   refine one_ (i:=7) (N:=some 74) #[true,true,true,true,true,true,true,true,true,true,true,true,true,true,true,false,false] rfl rfl (one_of HT_.out (by kernel_rfl)) (by decide) (fun K hK=>?_);have hcv44:=own_string (P:=Tryd.prog) Tryd.underlying22 Tryd.underlying5 Tryd.underlying9 (Kd.own_of_R HO172.out);refine value_ (w1:=?_) (v:=?_) (by rfl) rfl ?_ ?_;rotate_left 2
                   ·go_simp;constructor
                    ·rfl
                    ·rfl
                   clear hcv44;refine hK.out _ _ ((by have hcv_:=fun(w_:World) (hb_:Below w.heap.size w w_)=>Kd.C_string (P:=Tryd.prog) (A:=A39) (c:=(c0-a1.toNat)) Tryd.underlying22 Tryd.underlying5 Tryd.underlying9 (Kd.C_below HR173.out hb_);simp only[show((l0.take ((wrap64 (a1+t162)):Int).toNat).drop (a1:Int).toNat).length=((wrap64 (a1+t162)).toNat-a1.toNat)from(by rw[List.length_drop,List.length_take];have h_:((wrap64 (a1+t162)):Int)≤(l0.length:Int):=of_decide_eq_true as_;omega)]at hcv_;exact hcv_ _ hb_)) (fun hHeld=>?_);clear hK K;refine norm_ (a':=?_) ?_ ?_;rotate_left
                   ·show Act.put _ (some 74) _=_;simp only[Act.put,List.setIfInBounds_toArray,List.set_cons_zero,List.set_cons_succ,i64_w,i32_w];rfl
                   refine pu_ 15 82 #[true,true,true,true,true,true,true,true,true,true,true,true,true,true,true,true,false] ?_ (hc:=any_of HT_.out (by kernel_rfl));refine pu_ 16 83 #[true,true,true,true,true,true,true,true,true,true,true,true,true,true,true,true,true] ?_ (hc:=any_of HT_.out (by kernel_rfl));refine done_ (done_of HT_.out (by kernel_rfl)) ?_;try go_wp2
                   go_ret3
                   exact⟨rf_,hb_⟩
                 ·rw[if_neg c28]at H;exact absurd H (by simp)
                ·rw[if_neg c27]at H;exact absurd H (by simp)
               ·rw[if_neg c26]at H;exact absurd H (by simp)
              ·replace c24:=Bool.eq_false_iff.mpr c24;subst c24;rw[if_neg (show ¬(false=true) by decide)]at H;simp only[Option.some.injEq,Prod.mk.injEq]at H;obtain⟨rfl,rfl,rfl⟩:=H;try go_wp2
               replace HB:=Aside0.mk (below_drew1 HB.out);refine start_ (n:=17) (S:=fun w'=>True) (ds:=[]) #[false,false,false,false,false,false,false,false,false,false,false,false,false,false,false,false,false] (by kernel_rfl) rfl rfl trivial (fun hHeld=>?_);refine with_tabW spec_GetSign.tab15 spec_GetSign.bits15 (fun HT_ HW_=>?_);generalize wr.drew=w46 at HB hHeld⊢;refine pu_ 0 67 #[true,false,false,false,false,false,false,false,false,false,false,false,false,false,false,false,false] ?_ (hc:=any_of HT_.out (by kernel_rfl));refine one_ (i:=1) (N:=some 68) #[true,true,false,false,false,false,false,false,false,false,false,false,false,false,false,false,false] rfl rfl (one_of HT_.out (by kernel_rfl)) (by decide) (fun K hK=>?_);refine goes_ Tryd.func47 (by kernel_rfl) rfl #[.int .i64 x8_3] (by rfl) rfl rfl ka_ ?_;with_reducible refine(spec_SignOk.calls x8_3 false _ A23.out).mono ?_
               rintro e w' ⟨rfl,⟨nd,rfl⟩⟩;refine⟨_,rfl,?_⟩;refine hK.out _ _ trivial (fun hHeld=>?_);clear hK K;refine norm_ (a':=?_) ?_ ?_;rotate_left
               ·show Act.put _ (some 68) _=_;simp only[Act.put,List.setIfInBounds_toArray,List.set_cons_zero,List.set_cons_succ,i64_w,i32_w];rfl
               refine pu_ 2 69 #[true,true,true,false,false,false,false,false,false,false,false,false,false,false,false,false,false] ?_ (hc:=any_of HT_.out (by kernel_rfl));refine pu_ 3 70 #[true,true,true,true,false,false,false,false,false,false,false,false,false,false,false,false,false] ?_ (hc:=any_of HT_.out (by kernel_rfl));refine pure_ (i:=4) (N:=some 71) (v:=undef) (a':=?_) #[true,true,true,true,true,false,false,false,false,false,false,false,false,false,false,false,false] rfl rfl (any_of HT_.out (by kernel_rfl)) (fun _ _ _ h=>h) (Or.inr ⟨by rfl,rfl⟩) ?_ ?_;rotate_left
               ·simp only[Act.put,List.setIfInBounds_toArray,List.set_cons_zero,List.set_cons_succ,i64_w,i32_w];rfl
               refine pure_ (i:=5) (N:=some 72) (v:=undef) (a':=?_) #[true,true,true,true,true,true,false,false,false,false,false,false,false,false,false,false,false] rfl rfl (any_of HT_.out (by kernel_rfl)) (fun _ _ _ h=>h) (Or.inr ⟨by rfl,rfl⟩) ?_ ?_;rotate_left
               ·simp only[Act.put,List.setIfInBounds_toArray,List.set_cons_zero,List.set_cons_succ,i64_w,i32_w];rfl
               refine pure_ (i:=6) (N:=some 73) (v:=undef) (a':=?_) #[true,true,true,true,true,true,true,false,false,false,false,false,false,false,false,false,false] rfl rfl (any_of HT_.out (by kernel_rfl)) (fun _ _ _ h=>h) (Or.inr ⟨by rfl,rfl⟩) ?_ ?_;rotate_left
               ·simp only[Act.put,List.setIfInBounds_toArray,List.set_cons_zero,List.set_cons_succ,i64_w,i32_w];rfl
               refine pure_ (i:=7) (N:=some 74) (v:=undef) (a':=?_) #[true,true,true,true,true,true,true,true,false,false,false,false,false,false,false,false,false] rfl rfl (any_of HT_.out (by kernel_rfl)) (fun _ _ _ h=>h) (Or.inr ⟨by rfl,rfl⟩) ?_ ?_;rotate_left
               ·simp only[Act.put,List.setIfInBounds_toArray,List.set_cons_zero,List.set_cons_succ,i64_w,i32_w];rfl
               refine pure_ (i:=8) (N:=some 75) (v:=undef) (a':=?_) #[true,true,true,true,true,true,true,true,true,false,false,false,false,false,false,false,false] rfl rfl (any_of HT_.out (by kernel_rfl)) (fun _ _ _ h=>h) (Or.inr ⟨by rfl,rfl⟩) ?_ ?_;rotate_left
               ·simp only[Act.put,List.setIfInBounds_toArray,List.set_cons_zero,List.set_cons_succ,i64_w,i32_w];rfl
               refine pure_ (i:=9) (N:=some 76) (v:=undef) (a':=?_) #[true,true,true,true,true,true,true,true,true,true,false,false,false,false,false,false,false] rfl rfl (any_of HT_.out (by kernel_rfl)) (fun _ _ _ h=>h) (Or.inr ⟨by rfl,rfl⟩) ?_ ?_;rotate_left
               ·simp only[Act.put,List.setIfInBounds_toArray,List.set_cons_zero,List.set_cons_succ,i64_w,i32_w];rfl
               refine pure_ (i:=10) (N:=some 77) (v:=undef) (a':=?_) #[true,true,true,true,true,true,true,true,true,true,true,false,false,false,false,false,false] rfl rfl (any_of HT_.out (by kernel_rfl)) (fun _ _ _ h=>h) (Or.inr ⟨by rfl,rfl⟩) ?_ ?_;rotate_left
               ·simp only[Act.put,List.setIfInBounds_toArray,List.set_cons_zero,List.set_cons_succ,i64_w,i32_w];rfl
               refine pure_ (i:=11) (N:=some 78) (v:=undef) (a':=?_) #[true,true,true,true,true,true,true,true,true,true,true,true,false,false,false,false,false] rfl rfl (any_of HT_.out (by kernel_rfl)) (fun _ _ _ h=>h) (Or.inr ⟨by rfl,rfl⟩) ?_ ?_;rotate_left
               ·simp only[Act.put,List.setIfInBounds_toArray,List.set_cons_zero,List.set_cons_succ,i64_w,i32_w];rfl
               refine pure_ (i:=12) (N:=some 79) (v:=undef) (a':=?_) #[true,true,true,true,true,true,true,true,true,true,true,true,true,false,false,false,false] rfl rfl (any_of HT_.out (by kernel_rfl)) (fun _ _ _ h=>h) (Or.inr ⟨by rfl,rfl⟩) ?_ ?_;rotate_left
               ·simp only[Act.put,List.setIfInBounds_toArray,List.set_cons_zero,List.set_cons_succ,i64_w,i32_w];rfl
               refine pure_ (i:=13) (N:=some 80) (v:=undef) (a':=?_) #[true,true,true,true,true,true,true,true,true,true,true,true,true,true,false,false,false] rfl rfl (any_of HT_.out (by kernel_rfl)) (fun _ _ _ h=>h) (Or.inr ⟨by rfl,rfl⟩) ?_ ?_;rotate_left
               ·simp only[Act.put,List.setIfInBounds_toArray,List.set_cons_zero,List.set_cons_succ,i64_w,i32_w];rfl
               refine pure_ (i:=14) (N:=some 81) (v:=undef) (a':=?_) #[true,true,true,true,true,true,true,true,true,true,true,true,true,true,true,false,false] rfl rfl (any_of HT_.out (by kernel_rfl)) (fun _ _ _ h=>h) (Or.inr ⟨by rfl,rfl⟩) ?_ ?_;rotate_left
               ·simp only[Act.put,List.setIfInBounds_toArray,List.set_cons_zero,List.set_cons_succ,i64_w,i32_w];rfl
               refine pure_ (i:=15) (N:=some 82) (v:=undef) (a':=?_) #[true,true,true,true,true,true,true,true,true,true,true,true,true,true,true,true,false] rfl rfl (any_of HT_.out (by kernel_rfl)) (fun _ _ _ h=>h) (Or.inr ⟨by rfl,rfl⟩) ?_ ?_;rotate_left
               ·simp only[Act.put,List.setIfInBounds_toArray,List.set_cons_zero,List.set_cons_succ,i64_w,i32_w];rfl
               refine pu_ 16 83 #[true,true,true,true,true,true,true,true,true,true,true,true,true,true,true,true,true] ?_ (hc:=any_of HT_.out (by kernel_rfl));refine done_ (done_of HT_.out (by kernel_rfl)) ?_;try go_wp2
               go_ret3
               exact⟨rf_,hb_⟩
        ·rw[if_neg c12]at H;exact absurd H (by simp)
       ·rw[if_neg c11]at H;exact absurd H (by simp)
   ·rw[if_neg c6]at H;exact absurd H (by simp)
  ·rw[if_neg c5]at H;exact absurd H (by simp)
 ·replace c4:=Bool.eq_false_iff.mpr c4;subst c4;rw[if_neg (show ¬(false=true) by decide)]at H;simp only[Option.some.injEq,Prod.mk.injEq]at H;obtain⟨rfl,rfl,rfl⟩:=H;go_enter Tryd.func44,Tryd.ntmps44
  go_wp2_with (first|((with_reducible refine gate_callee (f:=49) rfl ?_);refine goesL_ (some 14) rfl rfl Tryd.func49 (by kernel_rfl) rfl #[.int .i64 a1,.int .i64 0,.int .i64 (wrap64 ((l0.length:Int)-1))] rfl ka_ ?_;(with_reducible refine(spec_l1In.calls a1 0 (wrap64 ((l0.length:Int)-1)) false _ A3.out).mono ?_);rintro e w' ⟨rfl,⟨nd,rfl⟩⟩;refine⟨_,rfl,?_⟩))
  go_ret3
  exact⟨rf_,hb_⟩
end Go.Proofs.YtjadcnkelffdgaaDoor.QFnStreamsBent
