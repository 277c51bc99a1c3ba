/- Contracts of functions that are walked by hand: two that keep a row of 32 numbers in a variable of their own; no condition beyond what their plain functions name. -/
import Derived.Test.YtjadcnkelffdgaaDoorProg
import Derived.WalkKit
import Derived.Below
import Derived.KernelRfl
import Derived.Tactics
import Derived.Deep.WholeRow
import Derived.Lib.OthersKept
import Derived.LoopTactic
import Derived.Test.YtjadcnkelffdgaaDoorLay
import Derived.Test.YtjadcnkelffdgaaDoorModelU
namespace Go.Proofs.YtjadcnkelffdgaaDoor.Ext
open Go.RowKit Go.Proofs.YtjadcnkelffdgaaDoorW.PrintWords Go.Proofs.YtjadcnkelffdgaaDoor.Xw Go.Proofs.YtjadcnkelffdgaaDoor
def koiTab:List Int:=[1102,1072,1073,1094,1076,1077,1092,1075,1093,1080,1081,1082,1083,1084,1085,1086,1087,1103,1088,1089,1090,1091,1078,1074,1100,1099,1079,1096,1101,1097,1095,1098]
def winTab:List Int:=[8364,0,8218,402,8222,8230,8224,8225,710,8240,352,8249,338,0,381,0,0,8216,8217,8220,8221,8226,8211,8212,732,8482,353,8250,339,0,382,376]
def impl_koiSign.f (a0:Int):Option Int:=if a0≥224 then(if a0<256 then some (rd koiTab (a0-224)-32)else none)else if a0≥192 then some (rd koiTab (a0-192))else if a0=163 then some 1105 else if a0=179 then some 1025 else some 0
def impl_winSign.f (a0:Int):Option Int:=if a0≥160 then some a0 else if a0≥128 then some (rd winTab (a0-128))else none
theorem run_alloc_row {P:Program} {t n:Nat} {c:Array Value} (hi:(P.info? t).map (fun i=>(i.zero,i.size))=some (some (.agg c),n))
    (ev:Operand→Value) (o:Oper) (W:World) (ho:o.op= .alloc t):(execOp ev o).run P W= .ok (.value (.pointer (some ⟨W.heap.size,0,none⟩))) (W.alloc (.cells c t)):=by
  have hz:=(zero_of_info hi).1;simp only[execOp,ho,Instr.alloc];simp[hz,newVar,Value.cells,newRow]
theorem ints_one (l:List Int):((l.map (Value.int .i64)).toArray.all (·.oneCell'))=true:=by simp[Value.oneCell']
theorem run_store_row {P:Program} {t n:Nat} {c c':Array Value} (hi:(P.info? t).map (·.size)=some n) (hn:c'.size=n) (ho:c.size=c'.size) (h1:c'.all (·.oneCell')=true)
    (ev:Operand→Value) (o:Oper) (W:World) (p x:Operand) (hop:o.op= .store t p x) (hp:ev p= .pointer (some ⟨W.heap.size,0,none⟩)) (hx:ev x= .agg c'):(execOp ev o).run P (W.alloc (.cells c t))= .ok .skip (W.alloc (.cells c' t)):=by
  simp only[execOp,hop,hp,hx];have:=run_storeAt_new (P:=P) W t c c' (by rw[hi,hn]) ho h1;simp[this]
theorem rd_some (l:List Int) (j:Nat) (h:j<l.length):l[j]? =some (rd l (j:Int)):=by
  rw[List.getElem?_eq_getElem h];simp[rd,List.getD_eq_getElem?_getD,List.getElem?_eq_getElem h]
theorem tab_all:∀x∈koiTab,1072≤x∧x≤1103:=by decide
theorem tab_range (j:Nat) (h:j<koiTab.length):1072≤rd koiTab (j:Int)∧rd koiTab (j:Int)≤1103:=by
  have:=rd_some koiTab j h;exact tab_all _ (List.mem_of_getElem? this)
theorem infoRow:(Tryd.prog.info? 77).map (fun i=>(i.zero,i.size))=some (some (.agg (Array.replicate 32 (.int .i64 0))),32):=by kernel_rfl
set_option maxRecDepth 100000 in
set_option maxHeartbeats 400000 in
theorem koi_e0 (j:Nat) (v:Int) (h:j<32) (hk:koiTab[j]? =some v) (h0:0≤v) (h2:v≤2000) (w:World):
    Calls Tryd.prog 59 #[.int .i64 (224+(j:Int))] w fun e w'=>e= .returned (.int .i64 (v-32))∧Below w.heap.size w w':=by
  have h1:decide ((224:Int)≤224+(j:Int))=true:=decide_eq_true (by omega);obtain⟨C,hC⟩:∃C:Array Value,C=(koiTab.map (Value.int .i64)).toArray:=⟨_,rfl⟩;go_enter Tryd.func59,Tryd.ntmps59
  go_wp2_with (first|((with_reducible refine gate_dst (N:=4) rfl ?_);refine Kd.event_run (w1:=w) (v:=.agg (koiTab.map (Value.int .i64)).toArray) rfl ?hr ?_;(case hr=>kernel_rfl);rw[←hC])|((with_reducible refine gate_dst (N:=3) rfl ?_);refine Kd.event_run rfl (run_alloc_row infoRow _ _ _ rfl) ?_)|((with_reducible refine gate_store (t:=77) (p:=3) rfl ?_);refine store_event (t:=77) (p:=3) (v:=?vo) (w1:=w.alloc (.cells C 77)) ?hg ?ho ?hn ?hr ?_;(case ho=>rfl);(case hg=>rfl);(case hn=>rfl);(case hr=>exact run_store_row (c':=C) ((zero_of_info infoRow).2) (by rw[hC];rfl) (by rw[hC];rfl) (by rw[hC];exact ints_one _) _ _ _ _ _ rfl rfl rfl);intro w' hw;subst hw))
  go_ret
  exact⟨rfl,(Below.refl _ _).alloc (Nat.le_refl _) _⟩
set_option maxRecDepth 100000 in
set_option maxHeartbeats 400000 in
theorem koi_c0 (j:Nat) (v:Int) (h:j<32) (hk:koiTab[j]? =some v) (w:World):
    Calls Tryd.prog 59 #[.int .i64 (192+(j:Int))] w fun e w'=>e= .returned (.int .i64 v)∧Below w.heap.size w w':=by
  have h1:decide ((224:Int)≤192+(j:Int))=false:=decide_eq_false (by omega);have h1':decide ((192:Int)≤192+(j:Int))=true:=decide_eq_true (by omega);obtain⟨C,hC⟩:∃C:Array Value,C=(koiTab.map (Value.int .i64)).toArray:=⟨_,rfl⟩;go_enter Tryd.func59,Tryd.ntmps59
  go_wp2_with (first|((with_reducible refine gate_dst (N:=4) rfl ?_);refine Kd.event_run (w1:=w) (v:=.agg (koiTab.map (Value.int .i64)).toArray) rfl ?hr ?_;(case hr=>kernel_rfl);rw[←hC])|((with_reducible refine gate_dst (N:=3) rfl ?_);refine Kd.event_run rfl (run_alloc_row infoRow _ _ _ rfl) ?_)|((with_reducible refine gate_store (t:=77) (p:=3) rfl ?_);refine store_event (t:=77) (p:=3) (v:=?vo) (w1:=w.alloc (.cells C 77)) ?hg ?ho ?hn ?hr ?_;(case ho=>rfl);(case hg=>rfl);(case hn=>rfl);(case hr=>exact run_store_row (c':=C) ((zero_of_info infoRow).2) (by rw[hC];rfl) (by rw[hC];rfl) (by rw[hC];exact ints_one _) _ _ _ _ _ rfl rfl rfl);intro w' hw;subst hw))
  go_ret
  exact⟨rfl,(Below.refl _ _).alloc (Nat.le_refl _) _⟩
set_option maxRecDepth 100000 in
set_option maxHeartbeats 400000 in
theorem koi_a3 (w:World):
    Calls Tryd.prog 59 #[.int .i64 163] w fun e w'=>e= .returned (.int .i64 1105)∧Below w.heap.size w w':=by
  obtain⟨C,hC⟩:∃C:Array Value,C=(koiTab.map (Value.int .i64)).toArray:=⟨_,rfl⟩;go_enter Tryd.func59,Tryd.ntmps59
  go_wp2_with (first|((with_reducible refine gate_dst (N:=4) rfl ?_);refine Kd.event_run (w1:=w) (v:=.agg (koiTab.map (Value.int .i64)).toArray) rfl ?hr ?_;(case hr=>kernel_rfl);rw[←hC])|((with_reducible refine gate_dst (N:=3) rfl ?_);refine Kd.event_run rfl (run_alloc_row infoRow _ _ _ rfl) ?_)|((with_reducible refine gate_store (t:=77) (p:=3) rfl ?_);refine store_event (t:=77) (p:=3) (v:=?vo) (w1:=w.alloc (.cells C 77)) ?hg ?ho ?hn ?hr ?_;(case ho=>rfl);(case hg=>rfl);(case hn=>rfl);(case hr=>exact run_store_row (c':=C) ((zero_of_info infoRow).2) (by rw[hC];rfl) (by rw[hC];rfl) (by rw[hC];exact ints_one _) _ _ _ _ _ rfl rfl rfl);intro w' hw;subst hw))
  go_ret
  exact⟨rfl,(Below.refl _ _).alloc (Nat.le_refl _) _⟩
set_option maxRecDepth 100000 in
set_option maxHeartbeats 400000 in
theorem koi_b3 (w:World):
    Calls Tryd.prog 59 #[.int .i64 179] w fun e w'=>e= .returned (.int .i64 1025)∧Below w.heap.size w w':=by
  obtain⟨C,hC⟩:∃C:Array Value,C=(koiTab.map (Value.int .i64)).toArray:=⟨_,rfl⟩;go_enter Tryd.func59,Tryd.ntmps59
  go_wp2_with (first|((with_reducible refine gate_dst (N:=4) rfl ?_);refine Kd.event_run (w1:=w) (v:=.agg (koiTab.map (Value.int .i64)).toArray) rfl ?hr ?_;(case hr=>kernel_rfl);rw[←hC])|((with_reducible refine gate_dst (N:=3) rfl ?_);refine Kd.event_run rfl (run_alloc_row infoRow _ _ _ rfl) ?_)|((with_reducible refine gate_store (t:=77) (p:=3) rfl ?_);refine store_event (t:=77) (p:=3) (v:=?vo) (w1:=w.alloc (.cells C 77)) ?hg ?ho ?hn ?hr ?_;(case ho=>rfl);(case hg=>rfl);(case hn=>rfl);(case hr=>exact run_store_row (c':=C) ((zero_of_info infoRow).2) (by rw[hC];rfl) (by rw[hC];rfl) (by rw[hC];exact ints_one _) _ _ _ _ _ rfl rfl rfl);intro w' hw;subst hw))
  go_ret
  exact⟨rfl,(Below.refl _ _).alloc (Nat.le_refl _) _⟩
set_option maxRecDepth 100000 in
set_option maxHeartbeats 400000 in
theorem koi_no (b:Int) (hb:b<192) (n1:b≠163) (n2:b≠179) (w:World):
    Calls Tryd.prog 59 #[.int .i64 b] w fun e w'=>e= .returned (.int .i64 0)∧Below w.heap.size w w':=by
  have h1:decide ((224:Int)≤b)=false:=decide_eq_false (by omega);have h2:decide ((192:Int)≤b)=false:=decide_eq_false (by omega);have h3:(b==163)=false:=beq_eq_false_iff_ne.mpr n1;have h4:(b==179)=false:=beq_eq_false_iff_ne.mpr n2;obtain⟨C,hC⟩:∃C:Array Value,C=(koiTab.map (Value.int .i64)).toArray:=⟨_,rfl⟩;go_enter Tryd.func59,Tryd.ntmps59
  go_wp2_with (first|((with_reducible refine gate_dst (N:=4) rfl ?_);refine Kd.event_run (w1:=w) (v:=.agg (koiTab.map (Value.int .i64)).toArray) rfl ?hr ?_;(case hr=>kernel_rfl);rw[←hC])|((with_reducible refine gate_dst (N:=3) rfl ?_);refine Kd.event_run rfl (run_alloc_row infoRow _ _ _ rfl) ?_)|((with_reducible refine gate_store (t:=77) (p:=3) rfl ?_);refine store_event (t:=77) (p:=3) (v:=?vo) (w1:=w.alloc (.cells C 77)) ?hg ?ho ?hn ?hr ?_;(case ho=>rfl);(case hg=>rfl);(case hn=>rfl);(case hr=>exact run_store_row (c':=C) ((zero_of_info infoRow).2) (by rw[hC];rfl) (by rw[hC];rfl) (by rw[hC];exact ints_one _) _ _ _ _ _ rfl rfl rfl);intro w' hw;subst hw))
  go_ret
  exact⟨rfl,(Below.refl _ _).alloc (Nat.le_refl _) _⟩
set_option maxRecDepth 100000 in
set_option maxHeartbeats 400000 in
theorem win_a0 (b:Int) (hb:160≤b) (w:World):
    Calls Tryd.prog 60 #[.int .i64 b] w fun e w'=>e= .returned (.int .i64 b)∧Below w.heap.size w w':=by
  have h1:decide ((160:Int)≤b)=true:=decide_eq_true hb;obtain⟨C,hC⟩:∃C:Array Value,C=(winTab.map (Value.int .i64)).toArray:=⟨_,rfl⟩;go_enter Tryd.func60,Tryd.ntmps60
  go_wp2_with (first|((with_reducible refine gate_dst (N:=4) rfl ?_);refine Kd.event_run (w1:=w) (v:=.agg (winTab.map (Value.int .i64)).toArray) rfl ?hr ?_;(case hr=>kernel_rfl);rw[←hC])|((with_reducible refine gate_dst (N:=3) rfl ?_);refine Kd.event_run rfl (run_alloc_row infoRow _ _ _ rfl) ?_)|((with_reducible refine gate_store (t:=77) (p:=3) rfl ?_);refine store_event (t:=77) (p:=3) (v:=?vo) (w1:=w.alloc (.cells C 77)) ?hg ?ho ?hn ?hr ?_;(case ho=>rfl);(case hg=>rfl);(case hn=>rfl);(case hr=>exact run_store_row (c':=C) ((zero_of_info infoRow).2) (by rw[hC];rfl) (by rw[hC];rfl) (by rw[hC];exact ints_one _) _ _ _ _ _ rfl rfl rfl);intro w' hw;subst hw))
  go_ret
  exact⟨rfl,(Below.refl _ _).alloc (Nat.le_refl _) _⟩
set_option maxRecDepth 100000 in
set_option maxHeartbeats 400000 in
theorem win_80 (j:Nat) (v:Int) (h:j<32) (hk:winTab[j]? =some v) (w:World):
    Calls Tryd.prog 60 #[.int .i64 (128+(j:Int))] w fun e w'=>e= .returned (.int .i64 v)∧Below w.heap.size w w':=by
  have h1:decide ((160:Int)≤128+(j:Int))=false:=decide_eq_false (by omega);obtain⟨C,hC⟩:∃C:Array Value,C=(winTab.map (Value.int .i64)).toArray:=⟨_,rfl⟩;go_enter Tryd.func60,Tryd.ntmps60
  go_wp2_with (first|((with_reducible refine gate_dst (N:=4) rfl ?_);refine Kd.event_run (w1:=w) (v:=.agg (winTab.map (Value.int .i64)).toArray) rfl ?hr ?_;(case hr=>kernel_rfl);rw[←hC])|((with_reducible refine gate_dst (N:=3) rfl ?_);refine Kd.event_run rfl (run_alloc_row infoRow _ _ _ rfl) ?_)|((with_reducible refine gate_store (t:=77) (p:=3) rfl ?_);refine store_event (t:=77) (p:=3) (v:=?vo) (w1:=w.alloc (.cells C 77)) ?hg ?ho ?hn ?hr ?_;(case ho=>rfl);(case hg=>rfl);(case hn=>rfl);(case hr=>exact run_store_row (c':=C) ((zero_of_info infoRow).2) (by rw[hC];rfl) (by rw[hC];rfl) (by rw[hC];exact ints_one _) _ _ _ _ _ rfl rfl rfl);intro w' hw;subst hw))
  go_ret
  exact⟨rfl,(Below.refl _ _).alloc (Nat.le_refl _) _⟩
theorem impl_koiSign.calls (a0:Int) (r:Int) (w:World) (h:impl_koiSign.f a0=some r):
    Calls Tryd.prog 59 #[.int .i64 a0] w fun e w'=>e= .returned (.int .i64 r)∧Below w.heap.size w w':=by
  unfold impl_koiSign.f at h;by_cases h1:a0≥224
  · rw[if_pos h1]at h
    by_cases h2:a0<256
    · rw[if_pos h2]at h
      obtain rfl:=Option.some.inj h;obtain⟨j,hj⟩:=Int.eq_ofNat_of_zero_le (show 0≤a0-224 by omega);obtain rfl:a0=224+(j:Int):=by omega
      rw[show 224+(j:Int)-224=(j:Int) by omega];have hl:j<koiTab.length:=by show j<32;omega
      have hv:=tab_range j hl;exact koi_e0 j (rd koiTab (j:Int)) (by omega) (rd_some koiTab j hl) (by omega) (by omega) w
    · rw[if_neg h2]at h;cases h
  · rw[if_neg h1]at h
    by_cases h2:a0≥192
    · rw[if_pos h2]at h
      obtain rfl:=Option.some.inj h;obtain⟨j,hj⟩:=Int.eq_ofNat_of_zero_le (show 0≤a0-192 by omega);obtain rfl:a0=192+(j:Int):=by omega
      rw[show 192+(j:Int)-192=(j:Int) by omega];have hl:j<koiTab.length:=by show j<32;omega
      exact koi_c0 j (rd koiTab (j:Int)) (by omega) (rd_some koiTab j hl) w
    · rw[if_neg h2]at h
      by_cases h3:a0=163
      · rw[if_pos h3]at h;obtain rfl:=Option.some.inj h;subst h3;exact koi_a3 w
      · rw[if_neg h3]at h
        by_cases h4:a0=179
        · rw[if_pos h4]at h;obtain rfl:=Option.some.inj h;subst h4;exact koi_b3 w
        · rw[if_neg h4]at h;obtain rfl:=Option.some.inj h;exact koi_no a0 (by omega) h3 h4 w
theorem impl_winSign.calls (a0:Int) (r:Int) (w:World) (h:impl_winSign.f a0=some r):
    Calls Tryd.prog 60 #[.int .i64 a0] w fun e w'=>e= .returned (.int .i64 r)∧Below w.heap.size w w':=by
  unfold impl_winSign.f at h;by_cases h1:a0≥160
  · rw[if_pos h1]at h;obtain rfl:=Option.some.inj h;exact win_a0 a0 h1 w
  · rw[if_neg h1]at h
    by_cases h2:a0≥128
    · rw[if_pos h2]at h
      obtain rfl:=Option.some.inj h;obtain⟨j,hj⟩:=Int.eq_ofNat_of_zero_le (show 0≤a0-128 by omega);obtain rfl:a0=128+(j:Int):=by omega
      rw[show 128+(j:Int)-128=(j:Int) by omega];have hl:j<winTab.length:=by show j<32;omega
      exact win_80 j (rd winTab (j:Int)) (by omega) (rd_some winTab j hl) w
    · rw[if_neg h2]at h;cases h
def TabsOk (w:World):Prop:=Lib.Utf8Tabs 0 1 w
theorem TabsOk.below {w w':World} (h:TabsOk w) (hb:Below w.heap.size w w'):TabsOk w':=by
  have k:∀(a:Addr) (v:Value),w.cell? a=some v→w'.cell? a=some v:=fun a v hv=>(hb.cell (World.block_lt_of_cell? w _ hv)).trans hv
  exact⟨fun c hc=>k _ _ (h.1 c hc),fun i hi=>⟨k _ _ (h.2 i hi).1,k _ _ (h.2 i hi).2⟩⟩
theorem TabsOk.drawn {w w':World} (h:TabsOk w) (hd:Drawn0 w w'):TabsOk w':=by
  obtain⟨n,rfl⟩:=hd;exact h.below (pw_below_drewN (Below.refl _ _) n)
def bytesOk (l:List Int):Bool:=l.all fun x=>decide (0≤x)&&decide (x≤255)
theorem bytesOk_iff {l:List Int}:bytesOk l=true↔Base.Bytes l:=by
  unfold bytesOk Base.Bytes;rw[List.all_eq_true];exact⟨fun h x hx=>by simpa using h x hx,fun h x hx=>by simpa using h x hx⟩
theorem get_str (l:List Int) (hb:Base.Bytes l) (i:Nat):(((strOfNums l).get! i).toNat:Int)=l.getD i 0∧((strOfNums l).get! i).toNat=(l.getD i 0).toNat:=by
  have h:((strOfNums l).get! i).toNat=(l.getD i 0).toNat:=by
    show((l.map fun n=>UInt8.ofNat n.toNat).toArray[i]!).toNat=_;by_cases hi:i<l.length
    · rw[List.getD_eq_getElem?_getD,List.getElem?_eq_getElem hi]
      have:=hb _ (List.getElem_mem hi);simp[getElem!_pos,hi];omega
    · rw[List.getD_eq_getElem?_getD,List.getElem?_eq_none (by omega)]
      simp[getElem!_neg,hi];rfl
  refine⟨?_,h⟩;have:=hb.rd (i:Int);rw[Model.rd_nat]at this
  omega
theorem decL_str (l:List Int) (hb:Base.Bytes l) (hl:l≠[]):Lib.decodeGo (strOfNums l)=Model.decL l:=by
  have h1:l.length≠0:=fun h=>hl (List.eq_nil_of_length_eq_zero h)
  have hs:(strOfNums l).size=l.length:=strOfNums_size l;unfold Lib.decodeGo Model.decL;rw[if_neg (by omega),Lib.decode_at,hs,Nat.sub_zero,(get_str l hb _).2,(get_str l hb _).2,(get_str l hb _).2,(get_str l hb _).2]
theorem row_at {w:World} {A:Option Addr} {l:List Int} (h:Kd.C (Kd.int .u8) w A l.length l) (hl:l≠[]):∃b off,A=some ⟨b,off,none⟩∧ ∀j,j<l.length→w.cell? ⟨b,off+j,none⟩=some (.int .u8 (l.getD j 0)):=by
  have h1:0<l.length:=List.length_pos_iff.2 hl;obtain⟨ad,e,h0⟩:=Kd.at_int h 0 (by omega) (by omega);obtain⟨b,off,spot⟩:=ad
  have hsp:spot=none:=by
    cases spot with
    |none=>rfl
    |some q=>
      have h2:w.cell? ⟨b,off,some q⟩=some (.int .u8 (rd l 0)):=by simpa[Addr.add]using h0
      unfold World.cell? at h2;split at h2
      · simp at h2
      · cases h2
  subst hsp;refine⟨b,off,e,fun j hj=>?_⟩;obtain⟨ad,e2,hj2⟩:=Kd.at_int h (j:Int) (by omega) (by omega);rw[e]at e2;injection e2 with e2
  subst e2;rw[Model.rd_nat,Int.toNat_natCast]at hj2;by_cases j0:j=0
  · subst j0;simpa[Addr.add]using hj2
  · simpa[Addr.add,j0]using hj2
def utf8_DecodeRune.f (l0:List Int):Option (Int×Int):=if l0=[]then none else if bytesOk l0=true then some (((Model.decL l0).1:Int),((Model.decL l0).2:Int))else none
theorem utf8_DecodeRune.calls (A0:Option Addr) (c0:Nat) (l0:List Int) (r1:Int) (r2:Int) (w:World) (hT:TabsOk w) (hr0:Kd.C (Kd.int .u8) w A0 l0.length l0) (hc0:l0.length≤c0) (h:utf8_DecodeRune.f l0=some (r1,r2)):
    Calls Tryd.prog 56 #[.slice A0 l0.length c0] w fun e w'=>e= .returned (.tuple #[.int .i32 r1,.int .i64 r2])∧Below w.heap.size w w':=by
  have _:=hc0;unfold utf8_DecodeRune.f at h;by_cases hl:l0=[]
  · rw[if_pos hl]at h;cases h
  · rw[if_neg hl]at h
    by_cases hb:bytesOk l0=true
    · rw[if_pos hb]at h
      injection h with h
      injection h with h1 h2
      subst h1 h2;have hb:=bytesOk_iff.1 hb;obtain⟨b,off,rfl,hc⟩:=row_at hr0 hl;have hs:(strOfNums l0).size=l0.length:=strOfNums_size l0;have k:=Any7.utf8_DecodeRune Tryd.laysDecode (strOfNums l0) b off c0 w hT (fun j hj=>by rw[hc j (by omega),(get_str l0 hb j).1]);rw[hs,decL_str l0 hb hl]at k;exact k
    · rw[if_neg hb]at h;cases h
end Go.Proofs.YtjadcnkelffdgaaDoor.Ext
