/- The contract of unicode/utf8.FullRune, walked case by case over the tables as the program's text lays them; no condition beyond what its plain function names. -/
import Derived.Test.YtjadcnkelffdgaaDoorExt
namespace Go.Proofs.YtjadcnkelffdgaaDoor.Ext
open Go.RowKit Go.Proofs.YtjadcnkelffdgaaDoorW.PrintWords Go.Proofs.YtjadcnkelffdgaaDoor.Xw Go.Proofs.YtjadcnkelffdgaaDoor
set_option linter.unusedVariables false
set_option maxHeartbeats 4000000
set_option maxRecDepth 1000000
def FRk (b off c0 n:Nat) (w:World) (r:Bool):Prop:=Calls Tryd.prog 40 #[.slice (some ⟨b,off,none⟩) n c0] w fun e w'=>e= .returned (.bool r)∧Below w.heap.size w w'
def FRh (b off m0:Nat) (w:World):Prop:=b<w.heap.size∧(m0:Int)<256∧w.cell? ⟨b,off,none⟩=some (.int .u8 m0)
theorem br_ {p:Prop} (h:p:=by repeat(first|exact Below.refl _ _|apply below_alloc|apply pw_below_drewN|apply below_drew1)):p:=h
def utf8_FullRune.f (l0:List Int):Option Bool:=if bytesOk l0=true then some (Model.fullR l0)else none
theorem FR_240_full (b off c0 m0 n:Nat) (w:World) (hh:FRh b off m0 w) (hc0:w.cell? ⟨0,m0,none⟩=some (.int .u8 240)) (hn:(0:Int)≤(n:Int)) (hn1:(0:Int)<(n:Int)) (hn0:((n:Int)==0)=false):
    FRk b off c0 n w true:=by
  obtain⟨hb,hm0,hp0⟩:=hh;have hus:=Tryd.underlying72;unfold FRk;go_enter Tryd.func40,Tryd.ntmps40
  go_wp2
  all_goals (try(repeat(go_quiet (fail);try go_wp2)))
  all_goals (go_ret;exact⟨rfl,br_⟩)
theorem FR_241_full (b off c0 m0 n:Nat) (w:World) (hh:FRh b off m0 w) (hc0:w.cell? ⟨0,m0,none⟩=some (.int .u8 241)) (hn:(1:Int)≤(n:Int)) (hn1:(0:Int)<(n:Int)) (hn0:((n:Int)==0)=false):
    FRk b off c0 n w true:=by
  obtain⟨hb,hm0,hp0⟩:=hh;have hus:=Tryd.underlying72;unfold FRk;go_enter Tryd.func40,Tryd.ntmps40
  go_wp2
  all_goals (try(repeat(go_quiet (fail);try go_wp2)))
  all_goals (go_ret;exact⟨rfl,br_⟩)
theorem FR_2_full (b off c0 m0 n:Nat) (w:World) (hh:FRh b off m0 w) (hc0:w.cell? ⟨0,m0,none⟩=some (.int .u8 2)) (hn:(2:Int)≤(n:Int)) (hn1:(0:Int)<(n:Int)) (hn0:((n:Int)==0)=false):
    FRk b off c0 n w true:=by
  obtain⟨hb,hm0,hp0⟩:=hh;have hus:=Tryd.underlying72;unfold FRk;go_enter Tryd.func40,Tryd.ntmps40
  go_wp2
  all_goals (try(repeat(go_quiet (fail);try go_wp2)))
  all_goals (go_ret;exact⟨rfl,br_⟩)
theorem FR_2_1 (b off c0 m0:Nat) (w:World) (hh:FRh b off m0 w) (hc0:w.cell? ⟨0,m0,none⟩=some (.int .u8 2)) (ha0:w.cell? ⟨1,0,none⟩=some (.int .u8 128)) (ha1:w.cell? ⟨1,1,none⟩=some (.int .u8 191)):
    FRk b off c0 1 w false:=by
  obtain⟨hb,hm0,hp0⟩:=hh;have hus:=Tryd.underlying72;unfold FRk;go_enter Tryd.func40,Tryd.ntmps40
  go_wp2
  all_goals (try(repeat(go_quiet (fail);try go_wp2)))
  all_goals (go_ret;exact⟨rfl,br_⟩)
theorem FR_19_full (b off c0 m0 n:Nat) (w:World) (hh:FRh b off m0 w) (hc0:w.cell? ⟨0,m0,none⟩=some (.int .u8 19)) (hn:(3:Int)≤(n:Int)) (hn1:(0:Int)<(n:Int)) (hn0:((n:Int)==0)=false):
    FRk b off c0 n w true:=by
  obtain⟨hb,hm0,hp0⟩:=hh;have hus:=Tryd.underlying72;unfold FRk;go_enter Tryd.func40,Tryd.ntmps40
  go_wp2
  all_goals (try(repeat(go_quiet (fail);try go_wp2)))
  all_goals (go_ret;exact⟨rfl,br_⟩)
theorem FR_19_1 (b off c0 m0:Nat) (w:World) (hh:FRh b off m0 w) (hc0:w.cell? ⟨0,m0,none⟩=some (.int .u8 19)) (ha0:w.cell? ⟨1,2,none⟩=some (.int .u8 160)) (ha1:w.cell? ⟨1,3,none⟩=some (.int .u8 191)):
    FRk b off c0 1 w false:=by
  obtain⟨hb,hm0,hp0⟩:=hh;have hus:=Tryd.underlying72;unfold FRk;go_enter Tryd.func40,Tryd.ntmps40
  go_wp2
  all_goals (try(repeat(go_quiet (fail);try go_wp2)))
  all_goals (go_ret;exact⟨rfl,br_⟩)
theorem FR_19_2a (b off c0 m0 m1:Nat) (w:World) (hh:FRh b off m0 w) (hc0:w.cell? ⟨0,m0,none⟩=some (.int .u8 19)) (ha0:w.cell? ⟨1,2,none⟩=some (.int .u8 160)) (ha1:w.cell? ⟨1,3,none⟩=some (.int .u8 191)) (hp1:w.cell? ⟨b,off+1,none⟩=some (.int .u8 m1)) (c1:(m1:Int)<160):
    FRk b off c0 2 w true:=by
  obtain⟨hb,hm0,hp0⟩:=hh;have hus:=Tryd.underlying72;unfold FRk;go_enter Tryd.func40,Tryd.ntmps40
  go_wp2
  all_goals (try(repeat(go_quiet (fail);try go_wp2)))
  all_goals (go_ret;exact⟨rfl,br_⟩)
theorem FR_19_2b (b off c0 m0 m1:Nat) (w:World) (hh:FRh b off m0 w) (hc0:w.cell? ⟨0,m0,none⟩=some (.int .u8 19)) (ha0:w.cell? ⟨1,2,none⟩=some (.int .u8 160)) (ha1:w.cell? ⟨1,3,none⟩=some (.int .u8 191)) (hp1:w.cell? ⟨b,off+1,none⟩=some (.int .u8 m1)) (c1:¬(m1:Int)<160) (c2:(191:Int)<(m1:Int)):
    FRk b off c0 2 w true:=by
  obtain⟨hb,hm0,hp0⟩:=hh;have hus:=Tryd.underlying72;unfold FRk;go_enter Tryd.func40,Tryd.ntmps40
  go_wp2
  all_goals (try(repeat(go_quiet (fail);try go_wp2)))
  all_goals (go_ret;exact⟨rfl,br_⟩)
theorem FR_19_2c (b off c0 m0 m1:Nat) (w:World) (hh:FRh b off m0 w) (hc0:w.cell? ⟨0,m0,none⟩=some (.int .u8 19)) (ha0:w.cell? ⟨1,2,none⟩=some (.int .u8 160)) (ha1:w.cell? ⟨1,3,none⟩=some (.int .u8 191)) (hp1:w.cell? ⟨b,off+1,none⟩=some (.int .u8 m1)) (c1:¬(m1:Int)<160) (c2:¬(191:Int)<(m1:Int)):
    FRk b off c0 2 w false:=by
  obtain⟨hb,hm0,hp0⟩:=hh;have hus:=Tryd.underlying72;unfold FRk;go_enter Tryd.func40,Tryd.ntmps40
  go_wp2
  all_goals (try(repeat(go_quiet (fail);try go_wp2)))
  all_goals (go_ret;exact⟨rfl,br_⟩)
theorem FR_3_full (b off c0 m0 n:Nat) (w:World) (hh:FRh b off m0 w) (hc0:w.cell? ⟨0,m0,none⟩=some (.int .u8 3)) (hn:(3:Int)≤(n:Int)) (hn1:(0:Int)<(n:Int)) (hn0:((n:Int)==0)=false):
    FRk b off c0 n w true:=by
  obtain⟨hb,hm0,hp0⟩:=hh;have hus:=Tryd.underlying72;unfold FRk;go_enter Tryd.func40,Tryd.ntmps40
  go_wp2
  all_goals (try(repeat(go_quiet (fail);try go_wp2)))
  all_goals (go_ret;exact⟨rfl,br_⟩)
theorem FR_3_1 (b off c0 m0:Nat) (w:World) (hh:FRh b off m0 w) (hc0:w.cell? ⟨0,m0,none⟩=some (.int .u8 3)) (ha0:w.cell? ⟨1,0,none⟩=some (.int .u8 128)) (ha1:w.cell? ⟨1,1,none⟩=some (.int .u8 191)):
    FRk b off c0 1 w false:=by
  obtain⟨hb,hm0,hp0⟩:=hh;have hus:=Tryd.underlying72;unfold FRk;go_enter Tryd.func40,Tryd.ntmps40
  go_wp2
  all_goals (try(repeat(go_quiet (fail);try go_wp2)))
  all_goals (go_ret;exact⟨rfl,br_⟩)
theorem FR_3_2a (b off c0 m0 m1:Nat) (w:World) (hh:FRh b off m0 w) (hc0:w.cell? ⟨0,m0,none⟩=some (.int .u8 3)) (ha0:w.cell? ⟨1,0,none⟩=some (.int .u8 128)) (ha1:w.cell? ⟨1,1,none⟩=some (.int .u8 191)) (hp1:w.cell? ⟨b,off+1,none⟩=some (.int .u8 m1)) (c1:(m1:Int)<128):
    FRk b off c0 2 w true:=by
  obtain⟨hb,hm0,hp0⟩:=hh;have hus:=Tryd.underlying72;unfold FRk;go_enter Tryd.func40,Tryd.ntmps40
  go_wp2
  all_goals (try(repeat(go_quiet (fail);try go_wp2)))
  all_goals (go_ret;exact⟨rfl,br_⟩)
theorem FR_3_2b (b off c0 m0 m1:Nat) (w:World) (hh:FRh b off m0 w) (hc0:w.cell? ⟨0,m0,none⟩=some (.int .u8 3)) (ha0:w.cell? ⟨1,0,none⟩=some (.int .u8 128)) (ha1:w.cell? ⟨1,1,none⟩=some (.int .u8 191)) (hp1:w.cell? ⟨b,off+1,none⟩=some (.int .u8 m1)) (c1:¬(m1:Int)<128) (c2:(191:Int)<(m1:Int)):
    FRk b off c0 2 w true:=by
  obtain⟨hb,hm0,hp0⟩:=hh;have hus:=Tryd.underlying72;unfold FRk;go_enter Tryd.func40,Tryd.ntmps40
  go_wp2
  all_goals (try(repeat(go_quiet (fail);try go_wp2)))
  all_goals (go_ret;exact⟨rfl,br_⟩)
theorem FR_3_2c (b off c0 m0 m1:Nat) (w:World) (hh:FRh b off m0 w) (hc0:w.cell? ⟨0,m0,none⟩=some (.int .u8 3)) (ha0:w.cell? ⟨1,0,none⟩=some (.int .u8 128)) (ha1:w.cell? ⟨1,1,none⟩=some (.int .u8 191)) (hp1:w.cell? ⟨b,off+1,none⟩=some (.int .u8 m1)) (c1:¬(m1:Int)<128) (c2:¬(191:Int)<(m1:Int)):
    FRk b off c0 2 w false:=by
  obtain⟨hb,hm0,hp0⟩:=hh;have hus:=Tryd.underlying72;unfold FRk;go_enter Tryd.func40,Tryd.ntmps40
  go_wp2
  all_goals (try(repeat(go_quiet (fail);try go_wp2)))
  all_goals (go_ret;exact⟨rfl,br_⟩)
theorem FR_35_full (b off c0 m0 n:Nat) (w:World) (hh:FRh b off m0 w) (hc0:w.cell? ⟨0,m0,none⟩=some (.int .u8 35)) (hn:(3:Int)≤(n:Int)) (hn1:(0:Int)<(n:Int)) (hn0:((n:Int)==0)=false):
    FRk b off c0 n w true:=by
  obtain⟨hb,hm0,hp0⟩:=hh;have hus:=Tryd.underlying72;unfold FRk;go_enter Tryd.func40,Tryd.ntmps40
  go_wp2
  all_goals (try(repeat(go_quiet (fail);try go_wp2)))
  all_goals (go_ret;exact⟨rfl,br_⟩)
theorem FR_35_1 (b off c0 m0:Nat) (w:World) (hh:FRh b off m0 w) (hc0:w.cell? ⟨0,m0,none⟩=some (.int .u8 35)) (ha0:w.cell? ⟨1,4,none⟩=some (.int .u8 128)) (ha1:w.cell? ⟨1,5,none⟩=some (.int .u8 159)):
    FRk b off c0 1 w false:=by
  obtain⟨hb,hm0,hp0⟩:=hh;have hus:=Tryd.underlying72;unfold FRk;go_enter Tryd.func40,Tryd.ntmps40
  go_wp2
  all_goals (try(repeat(go_quiet (fail);try go_wp2)))
  all_goals (go_ret;exact⟨rfl,br_⟩)
theorem FR_35_2a (b off c0 m0 m1:Nat) (w:World) (hh:FRh b off m0 w) (hc0:w.cell? ⟨0,m0,none⟩=some (.int .u8 35)) (ha0:w.cell? ⟨1,4,none⟩=some (.int .u8 128)) (ha1:w.cell? ⟨1,5,none⟩=some (.int .u8 159)) (hp1:w.cell? ⟨b,off+1,none⟩=some (.int .u8 m1)) (c1:(m1:Int)<128):
    FRk b off c0 2 w true:=by
  obtain⟨hb,hm0,hp0⟩:=hh;have hus:=Tryd.underlying72;unfold FRk;go_enter Tryd.func40,Tryd.ntmps40
  go_wp2
  all_goals (try(repeat(go_quiet (fail);try go_wp2)))
  all_goals (go_ret;exact⟨rfl,br_⟩)
theorem FR_35_2b (b off c0 m0 m1:Nat) (w:World) (hh:FRh b off m0 w) (hc0:w.cell? ⟨0,m0,none⟩=some (.int .u8 35)) (ha0:w.cell? ⟨1,4,none⟩=some (.int .u8 128)) (ha1:w.cell? ⟨1,5,none⟩=some (.int .u8 159)) (hp1:w.cell? ⟨b,off+1,none⟩=some (.int .u8 m1)) (c1:¬(m1:Int)<128) (c2:(159:Int)<(m1:Int)):
    FRk b off c0 2 w true:=by
  obtain⟨hb,hm0,hp0⟩:=hh;have hus:=Tryd.underlying72;unfold FRk;go_enter Tryd.func40,Tryd.ntmps40
  go_wp2
  all_goals (try(repeat(go_quiet (fail);try go_wp2)))
  all_goals (go_ret;exact⟨rfl,br_⟩)
theorem FR_35_2c (b off c0 m0 m1:Nat) (w:World) (hh:FRh b off m0 w) (hc0:w.cell? ⟨0,m0,none⟩=some (.int .u8 35)) (ha0:w.cell? ⟨1,4,none⟩=some (.int .u8 128)) (ha1:w.cell? ⟨1,5,none⟩=some (.int .u8 159)) (hp1:w.cell? ⟨b,off+1,none⟩=some (.int .u8 m1)) (c1:¬(m1:Int)<128) (c2:¬(159:Int)<(m1:Int)):
    FRk b off c0 2 w false:=by
  obtain⟨hb,hm0,hp0⟩:=hh;have hus:=Tryd.underlying72;unfold FRk;go_enter Tryd.func40,Tryd.ntmps40
  go_wp2
  all_goals (try(repeat(go_quiet (fail);try go_wp2)))
  all_goals (go_ret;exact⟨rfl,br_⟩)
theorem FR_52_full (b off c0 m0 n:Nat) (w:World) (hh:FRh b off m0 w) (hc0:w.cell? ⟨0,m0,none⟩=some (.int .u8 52)) (hn:(4:Int)≤(n:Int)) (hn1:(0:Int)<(n:Int)) (hn0:((n:Int)==0)=false):
    FRk b off c0 n w true:=by
  obtain⟨hb,hm0,hp0⟩:=hh;have hus:=Tryd.underlying72;unfold FRk;go_enter Tryd.func40,Tryd.ntmps40
  go_wp2
  all_goals (try(repeat(go_quiet (fail);try go_wp2)))
  all_goals (go_ret;exact⟨rfl,br_⟩)
theorem FR_52_1 (b off c0 m0:Nat) (w:World) (hh:FRh b off m0 w) (hc0:w.cell? ⟨0,m0,none⟩=some (.int .u8 52)) (ha0:w.cell? ⟨1,6,none⟩=some (.int .u8 144)) (ha1:w.cell? ⟨1,7,none⟩=some (.int .u8 191)):
    FRk b off c0 1 w false:=by
  obtain⟨hb,hm0,hp0⟩:=hh;have hus:=Tryd.underlying72;unfold FRk;go_enter Tryd.func40,Tryd.ntmps40
  go_wp2
  all_goals (try(repeat(go_quiet (fail);try go_wp2)))
  all_goals (go_ret;exact⟨rfl,br_⟩)
theorem FR_52_2a (b off c0 m0 m1:Nat) (w:World) (hh:FRh b off m0 w) (hc0:w.cell? ⟨0,m0,none⟩=some (.int .u8 52)) (ha0:w.cell? ⟨1,6,none⟩=some (.int .u8 144)) (ha1:w.cell? ⟨1,7,none⟩=some (.int .u8 191)) (hp1:w.cell? ⟨b,off+1,none⟩=some (.int .u8 m1)) (c1:(m1:Int)<144):
    FRk b off c0 2 w true:=by
  obtain⟨hb,hm0,hp0⟩:=hh;have hus:=Tryd.underlying72;unfold FRk;go_enter Tryd.func40,Tryd.ntmps40
  go_wp2
  all_goals (try(repeat(go_quiet (fail);try go_wp2)))
  all_goals (go_ret;exact⟨rfl,br_⟩)
theorem FR_52_2b (b off c0 m0 m1:Nat) (w:World) (hh:FRh b off m0 w) (hc0:w.cell? ⟨0,m0,none⟩=some (.int .u8 52)) (ha0:w.cell? ⟨1,6,none⟩=some (.int .u8 144)) (ha1:w.cell? ⟨1,7,none⟩=some (.int .u8 191)) (hp1:w.cell? ⟨b,off+1,none⟩=some (.int .u8 m1)) (c1:¬(m1:Int)<144) (c2:(191:Int)<(m1:Int)):
    FRk b off c0 2 w true:=by
  obtain⟨hb,hm0,hp0⟩:=hh;have hus:=Tryd.underlying72;unfold FRk;go_enter Tryd.func40,Tryd.ntmps40
  go_wp2
  all_goals (try(repeat(go_quiet (fail);try go_wp2)))
  all_goals (go_ret;exact⟨rfl,br_⟩)
theorem FR_52_2c (b off c0 m0 m1:Nat) (w:World) (hh:FRh b off m0 w) (hc0:w.cell? ⟨0,m0,none⟩=some (.int .u8 52)) (ha0:w.cell? ⟨1,6,none⟩=some (.int .u8 144)) (ha1:w.cell? ⟨1,7,none⟩=some (.int .u8 191)) (hp1:w.cell? ⟨b,off+1,none⟩=some (.int .u8 m1)) (c1:¬(m1:Int)<144) (c2:¬(191:Int)<(m1:Int)):
    FRk b off c0 2 w false:=by
  obtain⟨hb,hm0,hp0⟩:=hh;have hus:=Tryd.underlying72;unfold FRk;go_enter Tryd.func40,Tryd.ntmps40
  go_wp2
  all_goals (try(repeat(go_quiet (fail);try go_wp2)))
  all_goals (go_ret;exact⟨rfl,br_⟩)
theorem FR_52_3a (b off c0 m0 m1 m2:Nat) (w:World) (hh:FRh b off m0 w) (hc0:w.cell? ⟨0,m0,none⟩=some (.int .u8 52)) (ha0:w.cell? ⟨1,6,none⟩=some (.int .u8 144)) (ha1:w.cell? ⟨1,7,none⟩=some (.int .u8 191)) (hp1:w.cell? ⟨b,off+1,none⟩=some (.int .u8 m1)) (hp2:w.cell? ⟨b,off+2,none⟩=some (.int .u8 m2)) (c1:(m1:Int)<144):
    FRk b off c0 3 w true:=by
  obtain⟨hb,hm0,hp0⟩:=hh;have hus:=Tryd.underlying72;unfold FRk;go_enter Tryd.func40,Tryd.ntmps40
  go_wp2
  all_goals (try(repeat(go_quiet (fail);try go_wp2)))
  all_goals (go_ret;exact⟨rfl,br_⟩)
theorem FR_52_3b (b off c0 m0 m1 m2:Nat) (w:World) (hh:FRh b off m0 w) (hc0:w.cell? ⟨0,m0,none⟩=some (.int .u8 52)) (ha0:w.cell? ⟨1,6,none⟩=some (.int .u8 144)) (ha1:w.cell? ⟨1,7,none⟩=some (.int .u8 191)) (hp1:w.cell? ⟨b,off+1,none⟩=some (.int .u8 m1)) (hp2:w.cell? ⟨b,off+2,none⟩=some (.int .u8 m2)) (c1:¬(m1:Int)<144) (c2:(191:Int)<(m1:Int)):
    FRk b off c0 3 w true:=by
  obtain⟨hb,hm0,hp0⟩:=hh;have hus:=Tryd.underlying72;unfold FRk;go_enter Tryd.func40,Tryd.ntmps40
  go_wp2
  all_goals (try(repeat(go_quiet (fail);try go_wp2)))
  all_goals (go_ret;exact⟨rfl,br_⟩)
theorem FR_52_3c (b off c0 m0 m1 m2:Nat) (w:World) (hh:FRh b off m0 w) (hc0:w.cell? ⟨0,m0,none⟩=some (.int .u8 52)) (ha0:w.cell? ⟨1,6,none⟩=some (.int .u8 144)) (ha1:w.cell? ⟨1,7,none⟩=some (.int .u8 191)) (hp1:w.cell? ⟨b,off+1,none⟩=some (.int .u8 m1)) (hp2:w.cell? ⟨b,off+2,none⟩=some (.int .u8 m2)) (c1:¬(m1:Int)<144) (c2:¬(191:Int)<(m1:Int)) (c3:(m2:Int)<128):
    FRk b off c0 3 w true:=by
  obtain⟨hb,hm0,hp0⟩:=hh;have hus:=Tryd.underlying72;unfold FRk;go_enter Tryd.func40,Tryd.ntmps40
  go_wp2
  all_goals (try(repeat(go_quiet (fail);try go_wp2)))
  all_goals (go_ret;exact⟨rfl,br_⟩)
theorem FR_52_3d (b off c0 m0 m1 m2:Nat) (w:World) (hh:FRh b off m0 w) (hc0:w.cell? ⟨0,m0,none⟩=some (.int .u8 52)) (ha0:w.cell? ⟨1,6,none⟩=some (.int .u8 144)) (ha1:w.cell? ⟨1,7,none⟩=some (.int .u8 191)) (hp1:w.cell? ⟨b,off+1,none⟩=some (.int .u8 m1)) (hp2:w.cell? ⟨b,off+2,none⟩=some (.int .u8 m2)) (c1:¬(m1:Int)<144) (c2:¬(191:Int)<(m1:Int)) (c3:¬(m2:Int)<128) (c4:(191:Int)<(m2:Int)):
    FRk b off c0 3 w true:=by
  obtain⟨hb,hm0,hp0⟩:=hh;have hus:=Tryd.underlying72;unfold FRk;go_enter Tryd.func40,Tryd.ntmps40
  go_wp2
  all_goals (try(repeat(go_quiet (fail);try go_wp2)))
  all_goals (go_ret;exact⟨rfl,br_⟩)
theorem FR_52_3e (b off c0 m0 m1 m2:Nat) (w:World) (hh:FRh b off m0 w) (hc0:w.cell? ⟨0,m0,none⟩=some (.int .u8 52)) (ha0:w.cell? ⟨1,6,none⟩=some (.int .u8 144)) (ha1:w.cell? ⟨1,7,none⟩=some (.int .u8 191)) (hp1:w.cell? ⟨b,off+1,none⟩=some (.int .u8 m1)) (hp2:w.cell? ⟨b,off+2,none⟩=some (.int .u8 m2)) (c1:¬(m1:Int)<144) (c2:¬(191:Int)<(m1:Int)) (c3:¬(m2:Int)<128) (c4:¬(191:Int)<(m2:Int)):
    FRk b off c0 3 w false:=by
  obtain⟨hb,hm0,hp0⟩:=hh;have hus:=Tryd.underlying72;unfold FRk;go_enter Tryd.func40,Tryd.ntmps40
  go_wp2
  all_goals (try(repeat(go_quiet (fail);try go_wp2)))
  all_goals (go_ret;exact⟨rfl,br_⟩)
theorem FR_4_full (b off c0 m0 n:Nat) (w:World) (hh:FRh b off m0 w) (hc0:w.cell? ⟨0,m0,none⟩=some (.int .u8 4)) (hn:(4:Int)≤(n:Int)) (hn1:(0:Int)<(n:Int)) (hn0:((n:Int)==0)=false):
    FRk b off c0 n w true:=by
  obtain⟨hb,hm0,hp0⟩:=hh;have hus:=Tryd.underlying72;unfold FRk;go_enter Tryd.func40,Tryd.ntmps40
  go_wp2
  all_goals (try(repeat(go_quiet (fail);try go_wp2)))
  all_goals (go_ret;exact⟨rfl,br_⟩)
theorem FR_4_1 (b off c0 m0:Nat) (w:World) (hh:FRh b off m0 w) (hc0:w.cell? ⟨0,m0,none⟩=some (.int .u8 4)) (ha0:w.cell? ⟨1,0,none⟩=some (.int .u8 128)) (ha1:w.cell? ⟨1,1,none⟩=some (.int .u8 191)):
    FRk b off c0 1 w false:=by
  obtain⟨hb,hm0,hp0⟩:=hh;have hus:=Tryd.underlying72;unfold FRk;go_enter Tryd.func40,Tryd.ntmps40
  go_wp2
  all_goals (try(repeat(go_quiet (fail);try go_wp2)))
  all_goals (go_ret;exact⟨rfl,br_⟩)
theorem FR_4_2a (b off c0 m0 m1:Nat) (w:World) (hh:FRh b off m0 w) (hc0:w.cell? ⟨0,m0,none⟩=some (.int .u8 4)) (ha0:w.cell? ⟨1,0,none⟩=some (.int .u8 128)) (ha1:w.cell? ⟨1,1,none⟩=some (.int .u8 191)) (hp1:w.cell? ⟨b,off+1,none⟩=some (.int .u8 m1)) (c1:(m1:Int)<128):
    FRk b off c0 2 w true:=by
  obtain⟨hb,hm0,hp0⟩:=hh;have hus:=Tryd.underlying72;unfold FRk;go_enter Tryd.func40,Tryd.ntmps40
  go_wp2
  all_goals (try(repeat(go_quiet (fail);try go_wp2)))
  all_goals (go_ret;exact⟨rfl,br_⟩)
theorem FR_4_2b (b off c0 m0 m1:Nat) (w:World) (hh:FRh b off m0 w) (hc0:w.cell? ⟨0,m0,none⟩=some (.int .u8 4)) (ha0:w.cell? ⟨1,0,none⟩=some (.int .u8 128)) (ha1:w.cell? ⟨1,1,none⟩=some (.int .u8 191)) (hp1:w.cell? ⟨b,off+1,none⟩=some (.int .u8 m1)) (c1:¬(m1:Int)<128) (c2:(191:Int)<(m1:Int)):
    FRk b off c0 2 w true:=by
  obtain⟨hb,hm0,hp0⟩:=hh;have hus:=Tryd.underlying72;unfold FRk;go_enter Tryd.func40,Tryd.ntmps40
  go_wp2
  all_goals (try(repeat(go_quiet (fail);try go_wp2)))
  all_goals (go_ret;exact⟨rfl,br_⟩)
theorem FR_4_2c (b off c0 m0 m1:Nat) (w:World) (hh:FRh b off m0 w) (hc0:w.cell? ⟨0,m0,none⟩=some (.int .u8 4)) (ha0:w.cell? ⟨1,0,none⟩=some (.int .u8 128)) (ha1:w.cell? ⟨1,1,none⟩=some (.int .u8 191)) (hp1:w.cell? ⟨b,off+1,none⟩=some (.int .u8 m1)) (c1:¬(m1:Int)<128) (c2:¬(191:Int)<(m1:Int)):
    FRk b off c0 2 w false:=by
  obtain⟨hb,hm0,hp0⟩:=hh;have hus:=Tryd.underlying72;unfold FRk;go_enter Tryd.func40,Tryd.ntmps40
  go_wp2
  all_goals (try(repeat(go_quiet (fail);try go_wp2)))
  all_goals (go_ret;exact⟨rfl,br_⟩)
theorem FR_4_3a (b off c0 m0 m1 m2:Nat) (w:World) (hh:FRh b off m0 w) (hc0:w.cell? ⟨0,m0,none⟩=some (.int .u8 4)) (ha0:w.cell? ⟨1,0,none⟩=some (.int .u8 128)) (ha1:w.cell? ⟨1,1,none⟩=some (.int .u8 191)) (hp1:w.cell? ⟨b,off+1,none⟩=some (.int .u8 m1)) (hp2:w.cell? ⟨b,off+2,none⟩=some (.int .u8 m2)) (c1:(m1:Int)<128):
    FRk b off c0 3 w true:=by
  obtain⟨hb,hm0,hp0⟩:=hh;have hus:=Tryd.underlying72;unfold FRk;go_enter Tryd.func40,Tryd.ntmps40
  go_wp2
  all_goals (try(repeat(go_quiet (fail);try go_wp2)))
  all_goals (go_ret;exact⟨rfl,br_⟩)
theorem FR_4_3b (b off c0 m0 m1 m2:Nat) (w:World) (hh:FRh b off m0 w) (hc0:w.cell? ⟨0,m0,none⟩=some (.int .u8 4)) (ha0:w.cell? ⟨1,0,none⟩=some (.int .u8 128)) (ha1:w.cell? ⟨1,1,none⟩=some (.int .u8 191)) (hp1:w.cell? ⟨b,off+1,none⟩=some (.int .u8 m1)) (hp2:w.cell? ⟨b,off+2,none⟩=some (.int .u8 m2)) (c1:¬(m1:Int)<128) (c2:(191:Int)<(m1:Int)):
    FRk b off c0 3 w true:=by
  obtain⟨hb,hm0,hp0⟩:=hh;have hus:=Tryd.underlying72;unfold FRk;go_enter Tryd.func40,Tryd.ntmps40
  go_wp2
  all_goals (try(repeat(go_quiet (fail);try go_wp2)))
  all_goals (go_ret;exact⟨rfl,br_⟩)
theorem FR_4_3c (b off c0 m0 m1 m2:Nat) (w:World) (hh:FRh b off m0 w) (hc0:w.cell? ⟨0,m0,none⟩=some (.int .u8 4)) (ha0:w.cell? ⟨1,0,none⟩=some (.int .u8 128)) (ha1:w.cell? ⟨1,1,none⟩=some (.int .u8 191)) (hp1:w.cell? ⟨b,off+1,none⟩=some (.int .u8 m1)) (hp2:w.cell? ⟨b,off+2,none⟩=some (.int .u8 m2)) (c1:¬(m1:Int)<128) (c2:¬(191:Int)<(m1:Int)) (c3:(m2:Int)<128):
    FRk b off c0 3 w true:=by
  obtain⟨hb,hm0,hp0⟩:=hh;have hus:=Tryd.underlying72;unfold FRk;go_enter Tryd.func40,Tryd.ntmps40
  go_wp2
  all_goals (try(repeat(go_quiet (fail);try go_wp2)))
  all_goals (go_ret;exact⟨rfl,br_⟩)
theorem FR_4_3d (b off c0 m0 m1 m2:Nat) (w:World) (hh:FRh b off m0 w) (hc0:w.cell? ⟨0,m0,none⟩=some (.int .u8 4)) (ha0:w.cell? ⟨1,0,none⟩=some (.int .u8 128)) (ha1:w.cell? ⟨1,1,none⟩=some (.int .u8 191)) (hp1:w.cell? ⟨b,off+1,none⟩=some (.int .u8 m1)) (hp2:w.cell? ⟨b,off+2,none⟩=some (.int .u8 m2)) (c1:¬(m1:Int)<128) (c2:¬(191:Int)<(m1:Int)) (c3:¬(m2:Int)<128) (c4:(191:Int)<(m2:Int)):
    FRk b off c0 3 w true:=by
  obtain⟨hb,hm0,hp0⟩:=hh;have hus:=Tryd.underlying72;unfold FRk;go_enter Tryd.func40,Tryd.ntmps40
  go_wp2
  all_goals (try(repeat(go_quiet (fail);try go_wp2)))
  all_goals (go_ret;exact⟨rfl,br_⟩)
theorem FR_4_3e (b off c0 m0 m1 m2:Nat) (w:World) (hh:FRh b off m0 w) (hc0:w.cell? ⟨0,m0,none⟩=some (.int .u8 4)) (ha0:w.cell? ⟨1,0,none⟩=some (.int .u8 128)) (ha1:w.cell? ⟨1,1,none⟩=some (.int .u8 191)) (hp1:w.cell? ⟨b,off+1,none⟩=some (.int .u8 m1)) (hp2:w.cell? ⟨b,off+2,none⟩=some (.int .u8 m2)) (c1:¬(m1:Int)<128) (c2:¬(191:Int)<(m1:Int)) (c3:¬(m2:Int)<128) (c4:¬(191:Int)<(m2:Int)):
    FRk b off c0 3 w false:=by
  obtain⟨hb,hm0,hp0⟩:=hh;have hus:=Tryd.underlying72;unfold FRk;go_enter Tryd.func40,Tryd.ntmps40
  go_wp2
  all_goals (try(repeat(go_quiet (fail);try go_wp2)))
  all_goals (go_ret;exact⟨rfl,br_⟩)
theorem FR_68_full (b off c0 m0 n:Nat) (w:World) (hh:FRh b off m0 w) (hc0:w.cell? ⟨0,m0,none⟩=some (.int .u8 68)) (hn:(4:Int)≤(n:Int)) (hn1:(0:Int)<(n:Int)) (hn0:((n:Int)==0)=false):
    FRk b off c0 n w true:=by
  obtain⟨hb,hm0,hp0⟩:=hh;have hus:=Tryd.underlying72;unfold FRk;go_enter Tryd.func40,Tryd.ntmps40
  go_wp2
  all_goals (try(repeat(go_quiet (fail);try go_wp2)))
  all_goals (go_ret;exact⟨rfl,br_⟩)
theorem FR_68_1 (b off c0 m0:Nat) (w:World) (hh:FRh b off m0 w) (hc0:w.cell? ⟨0,m0,none⟩=some (.int .u8 68)) (ha0:w.cell? ⟨1,8,none⟩=some (.int .u8 128)) (ha1:w.cell? ⟨1,9,none⟩=some (.int .u8 143)):
    FRk b off c0 1 w false:=by
  obtain⟨hb,hm0,hp0⟩:=hh;have hus:=Tryd.underlying72;unfold FRk;go_enter Tryd.func40,Tryd.ntmps40
  go_wp2
  all_goals (try(repeat(go_quiet (fail);try go_wp2)))
  all_goals (go_ret;exact⟨rfl,br_⟩)
theorem FR_68_2a (b off c0 m0 m1:Nat) (w:World) (hh:FRh b off m0 w) (hc0:w.cell? ⟨0,m0,none⟩=some (.int .u8 68)) (ha0:w.cell? ⟨1,8,none⟩=some (.int .u8 128)) (ha1:w.cell? ⟨1,9,none⟩=some (.int .u8 143)) (hp1:w.cell? ⟨b,off+1,none⟩=some (.int .u8 m1)) (c1:(m1:Int)<128):
    FRk b off c0 2 w true:=by
  obtain⟨hb,hm0,hp0⟩:=hh;have hus:=Tryd.underlying72;unfold FRk;go_enter Tryd.func40,Tryd.ntmps40
  go_wp2
  all_goals (try(repeat(go_quiet (fail);try go_wp2)))
  all_goals (go_ret;exact⟨rfl,br_⟩)
theorem FR_68_2b (b off c0 m0 m1:Nat) (w:World) (hh:FRh b off m0 w) (hc0:w.cell? ⟨0,m0,none⟩=some (.int .u8 68)) (ha0:w.cell? ⟨1,8,none⟩=some (.int .u8 128)) (ha1:w.cell? ⟨1,9,none⟩=some (.int .u8 143)) (hp1:w.cell? ⟨b,off+1,none⟩=some (.int .u8 m1)) (c1:¬(m1:Int)<128) (c2:(143:Int)<(m1:Int)):
    FRk b off c0 2 w true:=by
  obtain⟨hb,hm0,hp0⟩:=hh;have hus:=Tryd.underlying72;unfold FRk;go_enter Tryd.func40,Tryd.ntmps40
  go_wp2
  all_goals (try(repeat(go_quiet (fail);try go_wp2)))
  all_goals (go_ret;exact⟨rfl,br_⟩)
theorem FR_68_2c (b off c0 m0 m1:Nat) (w:World) (hh:FRh b off m0 w) (hc0:w.cell? ⟨0,m0,none⟩=some (.int .u8 68)) (ha0:w.cell? ⟨1,8,none⟩=some (.int .u8 128)) (ha1:w.cell? ⟨1,9,none⟩=some (.int .u8 143)) (hp1:w.cell? ⟨b,off+1,none⟩=some (.int .u8 m1)) (c1:¬(m1:Int)<128) (c2:¬(143:Int)<(m1:Int)):
    FRk b off c0 2 w false:=by
  obtain⟨hb,hm0,hp0⟩:=hh;have hus:=Tryd.underlying72;unfold FRk;go_enter Tryd.func40,Tryd.ntmps40
  go_wp2
  all_goals (try(repeat(go_quiet (fail);try go_wp2)))
  all_goals (go_ret;exact⟨rfl,br_⟩)
theorem FR_68_3a (b off c0 m0 m1 m2:Nat) (w:World) (hh:FRh b off m0 w) (hc0:w.cell? ⟨0,m0,none⟩=some (.int .u8 68)) (ha0:w.cell? ⟨1,8,none⟩=some (.int .u8 128)) (ha1:w.cell? ⟨1,9,none⟩=some (.int .u8 143)) (hp1:w.cell? ⟨b,off+1,none⟩=some (.int .u8 m1)) (hp2:w.cell? ⟨b,off+2,none⟩=some (.int .u8 m2)) (c1:(m1:Int)<128):
    FRk b off c0 3 w true:=by
  obtain⟨hb,hm0,hp0⟩:=hh;have hus:=Tryd.underlying72;unfold FRk;go_enter Tryd.func40,Tryd.ntmps40
  go_wp2
  all_goals (try(repeat(go_quiet (fail);try go_wp2)))
  all_goals (go_ret;exact⟨rfl,br_⟩)
theorem FR_68_3b (b off c0 m0 m1 m2:Nat) (w:World) (hh:FRh b off m0 w) (hc0:w.cell? ⟨0,m0,none⟩=some (.int .u8 68)) (ha0:w.cell? ⟨1,8,none⟩=some (.int .u8 128)) (ha1:w.cell? ⟨1,9,none⟩=some (.int .u8 143)) (hp1:w.cell? ⟨b,off+1,none⟩=some (.int .u8 m1)) (hp2:w.cell? ⟨b,off+2,none⟩=some (.int .u8 m2)) (c1:¬(m1:Int)<128) (c2:(143:Int)<(m1:Int)):
    FRk b off c0 3 w true:=by
  obtain⟨hb,hm0,hp0⟩:=hh;have hus:=Tryd.underlying72;unfold FRk;go_enter Tryd.func40,Tryd.ntmps40
  go_wp2
  all_goals (try(repeat(go_quiet (fail);try go_wp2)))
  all_goals (go_ret;exact⟨rfl,br_⟩)
theorem FR_68_3c (b off c0 m0 m1 m2:Nat) (w:World) (hh:FRh b off m0 w) (hc0:w.cell? ⟨0,m0,none⟩=some (.int .u8 68)) (ha0:w.cell? ⟨1,8,none⟩=some (.int .u8 128)) (ha1:w.cell? ⟨1,9,none⟩=some (.int .u8 143)) (hp1:w.cell? ⟨b,off+1,none⟩=some (.int .u8 m1)) (hp2:w.cell? ⟨b,off+2,none⟩=some (.int .u8 m2)) (c1:¬(m1:Int)<128) (c2:¬(143:Int)<(m1:Int)) (c3:(m2:Int)<128):
    FRk b off c0 3 w true:=by
  obtain⟨hb,hm0,hp0⟩:=hh;have hus:=Tryd.underlying72;unfold FRk;go_enter Tryd.func40,Tryd.ntmps40
  go_wp2
  all_goals (try(repeat(go_quiet (fail);try go_wp2)))
  all_goals (go_ret;exact⟨rfl,br_⟩)
theorem FR_68_3d (b off c0 m0 m1 m2:Nat) (w:World) (hh:FRh b off m0 w) (hc0:w.cell? ⟨0,m0,none⟩=some (.int .u8 68)) (ha0:w.cell? ⟨1,8,none⟩=some (.int .u8 128)) (ha1:w.cell? ⟨1,9,none⟩=some (.int .u8 143)) (hp1:w.cell? ⟨b,off+1,none⟩=some (.int .u8 m1)) (hp2:w.cell? ⟨b,off+2,none⟩=some (.int .u8 m2)) (c1:¬(m1:Int)<128) (c2:¬(143:Int)<(m1:Int)) (c3:¬(m2:Int)<128) (c4:(191:Int)<(m2:Int)):
    FRk b off c0 3 w true:=by
  obtain⟨hb,hm0,hp0⟩:=hh;have hus:=Tryd.underlying72;unfold FRk;go_enter Tryd.func40,Tryd.ntmps40
  go_wp2
  all_goals (try(repeat(go_quiet (fail);try go_wp2)))
  all_goals (go_ret;exact⟨rfl,br_⟩)
theorem FR_68_3e (b off c0 m0 m1 m2:Nat) (w:World) (hh:FRh b off m0 w) (hc0:w.cell? ⟨0,m0,none⟩=some (.int .u8 68)) (ha0:w.cell? ⟨1,8,none⟩=some (.int .u8 128)) (ha1:w.cell? ⟨1,9,none⟩=some (.int .u8 143)) (hp1:w.cell? ⟨b,off+1,none⟩=some (.int .u8 m1)) (hp2:w.cell? ⟨b,off+2,none⟩=some (.int .u8 m2)) (c1:¬(m1:Int)<128) (c2:¬(143:Int)<(m1:Int)) (c3:¬(m2:Int)<128) (c4:¬(191:Int)<(m2:Int)):
    FRk b off c0 3 w false:=by
  obtain⟨hb,hm0,hp0⟩:=hh;have hus:=Tryd.underlying72;unfold FRk;go_enter Tryd.func40,Tryd.ntmps40
  go_wp2
  all_goals (try(repeat(go_quiet (fail);try go_wp2)))
  all_goals (go_ret;exact⟨rfl,br_⟩)
theorem FR_nil (c0:Nat) (A0:Option Addr) (w:World):Calls Tryd.prog 40 #[.slice A0 0 c0] w fun e w'=>e= .returned (.bool false)∧Below w.heap.size w w':=by
  go_enter Tryd.func40,Tryd.ntmps40
  go_wp2
  all_goals (try(repeat(go_quiet (fail);try go_wp2)))
  all_goals (go_ret;exact⟨rfl,br_⟩)
theorem FR_240 (b off c0 m0 m1 m2 n:Nat) (w:World) (hh:FRh b off m0 w) (hp1:1<n→w.cell? ⟨b,off+1,none⟩=some (.int .u8 m1)) (hp2:2<n→w.cell? ⟨b,off+2,none⟩=some (.int .u8 m2)) (hf:w.cell? ⟨0,m0,none⟩=some (.int .u8 240)) (h0:0<n):
    FRk b off c0 n w (Model.fullN n m1 m2 0 0 0):=by
  rw[Model.fullN_ge (by omega)];exact FR_240_full b off c0 m0 n w hh hf (by omega) (by omega) (beq_eq_false_iff_ne.2 (by omega))
theorem FR_241 (b off c0 m0 m1 m2 n:Nat) (w:World) (hh:FRh b off m0 w) (hp1:1<n→w.cell? ⟨b,off+1,none⟩=some (.int .u8 m1)) (hp2:2<n→w.cell? ⟨b,off+2,none⟩=some (.int .u8 m2)) (hf:w.cell? ⟨0,m0,none⟩=some (.int .u8 241)) (h0:0<n):
    FRk b off c0 n w (Model.fullN n m1 m2 1 0 0):=by
  rw[Model.fullN_ge (by omega)];exact FR_241_full b off c0 m0 n w hh hf (by omega) (by omega) (beq_eq_false_iff_ne.2 (by omega))
theorem FR_2 (b off c0 m0 m1 m2 n:Nat) (w:World) (hh:FRh b off m0 w) (hp1:1<n→w.cell? ⟨b,off+1,none⟩=some (.int .u8 m1)) (hp2:2<n→w.cell? ⟨b,off+2,none⟩=some (.int .u8 m2)) (hf:w.cell? ⟨0,m0,none⟩=some (.int .u8 2)) (ha0:w.cell? ⟨1,0,none⟩=some (.int .u8 128)) (ha1:w.cell? ⟨1,1,none⟩=some (.int .u8 191)) (h0:0<n):
    FRk b off c0 n w (Model.fullN n m1 m2 2 128 191):=by
  by_cases hs:2≤n
  · rw[Model.fullN_ge (by omega)];exact FR_2_full b off c0 m0 n w hh hf (by omega) (by omega) (beq_eq_false_iff_ne.2 (by omega))
  by_cases h1:n=1
  · subst h1;rw[Model.fullN_no1 (by omega)];exact FR_2_1 b off c0 m0 w hh hf ha0 ha1
  exfalso;omega
theorem FR_19 (b off c0 m0 m1 m2 n:Nat) (w:World) (hh:FRh b off m0 w) (hp1:1<n→w.cell? ⟨b,off+1,none⟩=some (.int .u8 m1)) (hp2:2<n→w.cell? ⟨b,off+2,none⟩=some (.int .u8 m2)) (hf:w.cell? ⟨0,m0,none⟩=some (.int .u8 19)) (ha0:w.cell? ⟨1,2,none⟩=some (.int .u8 160)) (ha1:w.cell? ⟨1,3,none⟩=some (.int .u8 191)) (h0:0<n):
    FRk b off c0 n w (Model.fullN n m1 m2 3 160 191):=by
  by_cases hs:3≤n
  · rw[Model.fullN_ge (by omega)];exact FR_19_full b off c0 m0 n w hh hf (by omega) (by omega) (beq_eq_false_iff_ne.2 (by omega))
  by_cases h1:n=1
  · subst h1;rw[Model.fullN_no1 (by omega)];exact FR_19_1 b off c0 m0 w hh hf ha0 ha1
  obtain rfl:n=2:=by omega
  by_cases c1:(m1:Int)<160
  · rw[Model.fullN_lo (by omega) (by omega)];exact FR_19_2a b off c0 m0 m1 w hh hf ha0 ha1 (hp1 (by omega)) c1
  by_cases c2:(191:Int)<(m1:Int)
  · rw[Model.fullN_hi (by omega) (by omega)];exact FR_19_2b b off c0 m0 m1 w hh hf ha0 ha1 (hp1 (by omega)) c1 c2
  rw[Model.fullN_no2 (by omega) (by omega) (by omega)];exact FR_19_2c b off c0 m0 m1 w hh hf ha0 ha1 (hp1 (by omega)) c1 c2
theorem FR_3 (b off c0 m0 m1 m2 n:Nat) (w:World) (hh:FRh b off m0 w) (hp1:1<n→w.cell? ⟨b,off+1,none⟩=some (.int .u8 m1)) (hp2:2<n→w.cell? ⟨b,off+2,none⟩=some (.int .u8 m2)) (hf:w.cell? ⟨0,m0,none⟩=some (.int .u8 3)) (ha0:w.cell? ⟨1,0,none⟩=some (.int .u8 128)) (ha1:w.cell? ⟨1,1,none⟩=some (.int .u8 191)) (h0:0<n):
    FRk b off c0 n w (Model.fullN n m1 m2 3 128 191):=by
  by_cases hs:3≤n
  · rw[Model.fullN_ge (by omega)];exact FR_3_full b off c0 m0 n w hh hf (by omega) (by omega) (beq_eq_false_iff_ne.2 (by omega))
  by_cases h1:n=1
  · subst h1;rw[Model.fullN_no1 (by omega)];exact FR_3_1 b off c0 m0 w hh hf ha0 ha1
  obtain rfl:n=2:=by omega
  by_cases c1:(m1:Int)<128
  · rw[Model.fullN_lo (by omega) (by omega)];exact FR_3_2a b off c0 m0 m1 w hh hf ha0 ha1 (hp1 (by omega)) c1
  by_cases c2:(191:Int)<(m1:Int)
  · rw[Model.fullN_hi (by omega) (by omega)];exact FR_3_2b b off c0 m0 m1 w hh hf ha0 ha1 (hp1 (by omega)) c1 c2
  rw[Model.fullN_no2 (by omega) (by omega) (by omega)];exact FR_3_2c b off c0 m0 m1 w hh hf ha0 ha1 (hp1 (by omega)) c1 c2
theorem FR_35 (b off c0 m0 m1 m2 n:Nat) (w:World) (hh:FRh b off m0 w) (hp1:1<n→w.cell? ⟨b,off+1,none⟩=some (.int .u8 m1)) (hp2:2<n→w.cell? ⟨b,off+2,none⟩=some (.int .u8 m2)) (hf:w.cell? ⟨0,m0,none⟩=some (.int .u8 35)) (ha0:w.cell? ⟨1,4,none⟩=some (.int .u8 128)) (ha1:w.cell? ⟨1,5,none⟩=some (.int .u8 159)) (h0:0<n):
    FRk b off c0 n w (Model.fullN n m1 m2 3 128 159):=by
  by_cases hs:3≤n
  · rw[Model.fullN_ge (by omega)];exact FR_35_full b off c0 m0 n w hh hf (by omega) (by omega) (beq_eq_false_iff_ne.2 (by omega))
  by_cases h1:n=1
  · subst h1;rw[Model.fullN_no1 (by omega)];exact FR_35_1 b off c0 m0 w hh hf ha0 ha1
  obtain rfl:n=2:=by omega
  by_cases c1:(m1:Int)<128
  · rw[Model.fullN_lo (by omega) (by omega)];exact FR_35_2a b off c0 m0 m1 w hh hf ha0 ha1 (hp1 (by omega)) c1
  by_cases c2:(159:Int)<(m1:Int)
  · rw[Model.fullN_hi (by omega) (by omega)];exact FR_35_2b b off c0 m0 m1 w hh hf ha0 ha1 (hp1 (by omega)) c1 c2
  rw[Model.fullN_no2 (by omega) (by omega) (by omega)];exact FR_35_2c b off c0 m0 m1 w hh hf ha0 ha1 (hp1 (by omega)) c1 c2
theorem FR_52 (b off c0 m0 m1 m2 n:Nat) (w:World) (hh:FRh b off m0 w) (hp1:1<n→w.cell? ⟨b,off+1,none⟩=some (.int .u8 m1)) (hp2:2<n→w.cell? ⟨b,off+2,none⟩=some (.int .u8 m2)) (hf:w.cell? ⟨0,m0,none⟩=some (.int .u8 52)) (ha0:w.cell? ⟨1,6,none⟩=some (.int .u8 144)) (ha1:w.cell? ⟨1,7,none⟩=some (.int .u8 191)) (h0:0<n):
    FRk b off c0 n w (Model.fullN n m1 m2 4 144 191):=by
  by_cases hs:4≤n
  · rw[Model.fullN_ge (by omega)];exact FR_52_full b off c0 m0 n w hh hf (by omega) (by omega) (beq_eq_false_iff_ne.2 (by omega))
  by_cases h1:n=1
  · subst h1;rw[Model.fullN_no1 (by omega)];exact FR_52_1 b off c0 m0 w hh hf ha0 ha1
  by_cases h2:n=2
  · subst h2
    by_cases c1:(m1:Int)<144
    · rw[Model.fullN_lo (by omega) (by omega)];exact FR_52_2a b off c0 m0 m1 w hh hf ha0 ha1 (hp1 (by omega)) c1
    by_cases c2:(191:Int)<(m1:Int)
    · rw[Model.fullN_hi (by omega) (by omega)];exact FR_52_2b b off c0 m0 m1 w hh hf ha0 ha1 (hp1 (by omega)) c1 c2
    rw[Model.fullN_no2 (by omega) (by omega) (by omega)];exact FR_52_2c b off c0 m0 m1 w hh hf ha0 ha1 (hp1 (by omega)) c1 c2
  obtain rfl:n=3:=by omega
  by_cases c1:(m1:Int)<144
  · rw[Model.fullN_lo (by omega) (by omega)];exact FR_52_3a b off c0 m0 m1 m2 w hh hf ha0 ha1 (hp1 (by omega)) (hp2 (by omega)) c1
  by_cases c2:(191:Int)<(m1:Int)
  · rw[Model.fullN_hi (by omega) (by omega)];exact FR_52_3b b off c0 m0 m1 m2 w hh hf ha0 ha1 (hp1 (by omega)) (hp2 (by omega)) c1 c2
  by_cases c3:(m2:Int)<128
  · rw[Model.fullN_two (by omega) (by omega)];exact FR_52_3c b off c0 m0 m1 m2 w hh hf ha0 ha1 (hp1 (by omega)) (hp2 (by omega)) c1 c2 c3
  by_cases c4:(191:Int)<(m2:Int)
  · rw[Model.fullN_two (by omega) (by omega)];exact FR_52_3d b off c0 m0 m1 m2 w hh hf ha0 ha1 (hp1 (by omega)) (hp2 (by omega)) c1 c2 c3 c4
  rw[Model.fullN_no3 (by omega) (by omega) (by omega) (by omega) (by omega)];exact FR_52_3e b off c0 m0 m1 m2 w hh hf ha0 ha1 (hp1 (by omega)) (hp2 (by omega)) c1 c2 c3 c4
theorem FR_4 (b off c0 m0 m1 m2 n:Nat) (w:World) (hh:FRh b off m0 w) (hp1:1<n→w.cell? ⟨b,off+1,none⟩=some (.int .u8 m1)) (hp2:2<n→w.cell? ⟨b,off+2,none⟩=some (.int .u8 m2)) (hf:w.cell? ⟨0,m0,none⟩=some (.int .u8 4)) (ha0:w.cell? ⟨1,0,none⟩=some (.int .u8 128)) (ha1:w.cell? ⟨1,1,none⟩=some (.int .u8 191)) (h0:0<n):
    FRk b off c0 n w (Model.fullN n m1 m2 4 128 191):=by
  by_cases hs:4≤n
  · rw[Model.fullN_ge (by omega)];exact FR_4_full b off c0 m0 n w hh hf (by omega) (by omega) (beq_eq_false_iff_ne.2 (by omega))
  by_cases h1:n=1
  · subst h1;rw[Model.fullN_no1 (by omega)];exact FR_4_1 b off c0 m0 w hh hf ha0 ha1
  by_cases h2:n=2
  · subst h2
    by_cases c1:(m1:Int)<128
    · rw[Model.fullN_lo (by omega) (by omega)];exact FR_4_2a b off c0 m0 m1 w hh hf ha0 ha1 (hp1 (by omega)) c1
    by_cases c2:(191:Int)<(m1:Int)
    · rw[Model.fullN_hi (by omega) (by omega)];exact FR_4_2b b off c0 m0 m1 w hh hf ha0 ha1 (hp1 (by omega)) c1 c2
    rw[Model.fullN_no2 (by omega) (by omega) (by omega)];exact FR_4_2c b off c0 m0 m1 w hh hf ha0 ha1 (hp1 (by omega)) c1 c2
  obtain rfl:n=3:=by omega
  by_cases c1:(m1:Int)<128
  · rw[Model.fullN_lo (by omega) (by omega)];exact FR_4_3a b off c0 m0 m1 m2 w hh hf ha0 ha1 (hp1 (by omega)) (hp2 (by omega)) c1
  by_cases c2:(191:Int)<(m1:Int)
  · rw[Model.fullN_hi (by omega) (by omega)];exact FR_4_3b b off c0 m0 m1 m2 w hh hf ha0 ha1 (hp1 (by omega)) (hp2 (by omega)) c1 c2
  by_cases c3:(m2:Int)<128
  · rw[Model.fullN_two (by omega) (by omega)];exact FR_4_3c b off c0 m0 m1 m2 w hh hf ha0 ha1 (hp1 (by omega)) (hp2 (by omega)) c1 c2 c3
  by_cases c4:(191:Int)<(m2:Int)
  · rw[Model.fullN_two (by omega) (by omega)];exact FR_4_3d b off c0 m0 m1 m2 w hh hf ha0 ha1 (hp1 (by omega)) (hp2 (by omega)) c1 c2 c3 c4
  rw[Model.fullN_no3 (by omega) (by omega) (by omega) (by omega) (by omega)];exact FR_4_3e b off c0 m0 m1 m2 w hh hf ha0 ha1 (hp1 (by omega)) (hp2 (by omega)) c1 c2 c3 c4
theorem FR_68 (b off c0 m0 m1 m2 n:Nat) (w:World) (hh:FRh b off m0 w) (hp1:1<n→w.cell? ⟨b,off+1,none⟩=some (.int .u8 m1)) (hp2:2<n→w.cell? ⟨b,off+2,none⟩=some (.int .u8 m2)) (hf:w.cell? ⟨0,m0,none⟩=some (.int .u8 68)) (ha0:w.cell? ⟨1,8,none⟩=some (.int .u8 128)) (ha1:w.cell? ⟨1,9,none⟩=some (.int .u8 143)) (h0:0<n):
    FRk b off c0 n w (Model.fullN n m1 m2 4 128 143):=by
  by_cases hs:4≤n
  · rw[Model.fullN_ge (by omega)];exact FR_68_full b off c0 m0 n w hh hf (by omega) (by omega) (beq_eq_false_iff_ne.2 (by omega))
  by_cases h1:n=1
  · subst h1;rw[Model.fullN_no1 (by omega)];exact FR_68_1 b off c0 m0 w hh hf ha0 ha1
  by_cases h2:n=2
  · subst h2
    by_cases c1:(m1:Int)<128
    · rw[Model.fullN_lo (by omega) (by omega)];exact FR_68_2a b off c0 m0 m1 w hh hf ha0 ha1 (hp1 (by omega)) c1
    by_cases c2:(143:Int)<(m1:Int)
    · rw[Model.fullN_hi (by omega) (by omega)];exact FR_68_2b b off c0 m0 m1 w hh hf ha0 ha1 (hp1 (by omega)) c1 c2
    rw[Model.fullN_no2 (by omega) (by omega) (by omega)];exact FR_68_2c b off c0 m0 m1 w hh hf ha0 ha1 (hp1 (by omega)) c1 c2
  obtain rfl:n=3:=by omega
  by_cases c1:(m1:Int)<128
  · rw[Model.fullN_lo (by omega) (by omega)];exact FR_68_3a b off c0 m0 m1 m2 w hh hf ha0 ha1 (hp1 (by omega)) (hp2 (by omega)) c1
  by_cases c2:(143:Int)<(m1:Int)
  · rw[Model.fullN_hi (by omega) (by omega)];exact FR_68_3b b off c0 m0 m1 m2 w hh hf ha0 ha1 (hp1 (by omega)) (hp2 (by omega)) c1 c2
  by_cases c3:(m2:Int)<128
  · rw[Model.fullN_two (by omega) (by omega)];exact FR_68_3c b off c0 m0 m1 m2 w hh hf ha0 ha1 (hp1 (by omega)) (hp2 (by omega)) c1 c2 c3
  by_cases c4:(191:Int)<(m2:Int)
  · rw[Model.fullN_two (by omega) (by omega)];exact FR_68_3d b off c0 m0 m1 m2 w hh hf ha0 ha1 (hp1 (by omega)) (hp2 (by omega)) c1 c2 c3 c4
  rw[Model.fullN_no3 (by omega) (by omega) (by omega) (by omega) (by omega)];exact FR_68_3e b off c0 m0 m1 m2 w hh hf ha0 ha1 (hp1 (by omega)) (hp2 (by omega)) c1 c2 c3 c4
theorem utf8_FullRune.calls (A0:Option Addr) (c0:Nat) (l0:List Int) (r:Bool) (w:World) (hT:TabsOk w) (hr0:Kd.C (Kd.int .u8) w A0 l0.length l0) (hc0:l0.length≤c0) (h:utf8_FullRune.f l0=some r):
    Calls Tryd.prog 40 #[.slice A0 l0.length c0] w fun e w'=>e= .returned (.bool r)∧Below w.heap.size w w':=by
  have _:=hc0;clear hc0;unfold utf8_FullRune.f at h;by_cases hb:bytesOk l0=true
  · rw[if_pos hb]at h
    obtain rfl:=Option.some.inj h;have hb:=bytesOk_iff.1 hb;by_cases hl:l0=[]
    · subst hl;exact FR_nil c0 A0 w
    have hlen:0<l0.length:=List.length_pos_iff.2 hl;obtain⟨b,off,rfl,hc⟩:=row_at hr0 hl;clear hr0
    have hg:∀i,((l0.getD i 0).toNat:Int)=l0.getD i 0∧(l0.getD i 0).toNat<256:=by
      intro i;have:=hb.rd (i:Int);rw[Model.rd_nat]at this
      omega
    unfold Model.fullR;rw[if_neg hl];obtain⟨m0,e0⟩:∃m0,(l0.getD 0 0).toNat=m0:=⟨_,rfl⟩;obtain⟨m1,e1⟩:∃m1,(l0.getD 1 0).toNat=m1:=⟨_,rfl⟩;obtain⟨m2,e2⟩:∃m2,(l0.getD 2 0).toNat=m2:=⟨_,rfl⟩;have q0:=hg 0;have q1:=hg 1;have q2:=hg 2;rw[e0]at q0;rw[e1]at q1;rw[e2]at q2;rw[e0,e1,e2];have hp0:=hc 0 hlen;rw[←q0.1,Nat.add_zero]at hp0;have hp1:1<l0.length→w.cell? ⟨b,off+1,none⟩=some (.int .u8 m1):=fun z=>by rw[hc 1 z,q1.1]
    have hp2:2<l0.length→w.cell? ⟨b,off+2,none⟩=some (.int .u8 m2):=fun z=>by rw[hc 2 z,q2.1]
    have hbs:b<w.heap.size:=block_lt_of_cell hp0;have hm0:(m0:Int)<256:=by omega
    have hf:=hT.1 m0 q0.2;clear hc hg e0 e1 e2 hb hl q1 q2;rcases Lib.firstT_cases m0 with hX|hX|hX|hX|hX|hX|hX|hX|hX
    all_goals rw[hX]at hf⊢
    · exact FR_240 b off c0 m0 m1 m2 _ w ⟨hbs,hm0,hp0⟩ hp1 hp2 hf hlen
    · exact FR_241 b off c0 m0 m1 m2 _ w ⟨hbs,hm0,hp0⟩ hp1 hp2 hf hlen
    · exact FR_2 b off c0 m0 m1 m2 _ w ⟨hbs,hm0,hp0⟩ hp1 hp2 hf (hT.2 0 (by omega)).1 (hT.2 0 (by omega)).2 hlen
    · exact FR_19 b off c0 m0 m1 m2 _ w ⟨hbs,hm0,hp0⟩ hp1 hp2 hf (hT.2 1 (by omega)).1 (hT.2 1 (by omega)).2 hlen
    · exact FR_3 b off c0 m0 m1 m2 _ w ⟨hbs,hm0,hp0⟩ hp1 hp2 hf (hT.2 0 (by omega)).1 (hT.2 0 (by omega)).2 hlen
    · exact FR_35 b off c0 m0 m1 m2 _ w ⟨hbs,hm0,hp0⟩ hp1 hp2 hf (hT.2 2 (by omega)).1 (hT.2 2 (by omega)).2 hlen
    · exact FR_52 b off c0 m0 m1 m2 _ w ⟨hbs,hm0,hp0⟩ hp1 hp2 hf (hT.2 3 (by omega)).1 (hT.2 3 (by omega)).2 hlen
    · exact FR_4 b off c0 m0 m1 m2 _ w ⟨hbs,hm0,hp0⟩ hp1 hp2 hf (hT.2 0 (by omega)).1 (hT.2 0 (by omega)).2 hlen
    · exact FR_68 b off c0 m0 m1 m2 _ w ⟨hbs,hm0,hp0⟩ hp1 hp2 hf (hT.2 4 (by omega)).1 (hT.2 4 (by omega)).2 hlen
  · rw[if_neg hb]at h;cases h
end Go.Proofs.YtjadcnkelffdgaaDoor.Ext
