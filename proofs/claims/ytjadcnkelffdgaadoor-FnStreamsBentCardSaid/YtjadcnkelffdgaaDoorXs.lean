/- Arms that the printed walks tell again and again, each under a name: the last argument is found, where the name stands, by these very tactics; no condition. -/
import Derived.Test.YtjadcnkelffdgaaDoorWMore
namespace Go.Proofs.YtjadcnkelffdgaaDoor.Xs
open Go.RowKit Go.Proofs.YtjadcnkelffdgaaDoorW.PrintWords Go.Proofs.YtjadcnkelffdgaaDoorW.PrintLast
theorem hb_ {p:Prop} (h:p:=by repeat(first|exact HB.out|apply below_alloc|apply pw_below_drewN|apply below_drew1)):p:=h
theorem hs_ {p:Prop} (h:p:=by repeat(first|exact HB.out|apply below_alloc|apply pw_below_drewN|apply below_drew1|refine below_set ?_ (Aside0.out (by with_reducible assumption)))):p:=h
theorem kr_ {α:Type} {d:Kd α} {e base:Nat} {w w1:World} {ok:Nat→Prop} {v:Value} {xs:List α} (H:Aside0 (d.R e w base ok v xs)) (h:Below w.heap.size w w1:=by(with_reducible repeat(first|exact Below.refl _ _|apply below_alloc|apply pw_below_drewN|apply below_drew1))):d.R e w1 base ok v xs:=Kd.R_below H.out h
theorem kb_ {w w1:World} {g:Nat} {o:Obj} (H:Aside0 (w.heap[g]? =some o)) (h:Below w.heap.size w w1:=by(with_reducible repeat(first|exact Below.refl _ _|apply below_alloc|apply pw_below_drewN|apply below_drew1))):w1.heap[g]? =some o:=blk_below H.out h
theorem kc_ {α:Type} {d:Kd α} {w w1:World} {A:Option Addr} {n:Nat} {xs:List α} (H:d.C w A n xs) (h:Below w.heap.size w w1:=by(with_reducible repeat(first|exact Below.refl _ _|apply below_alloc|apply pw_below_drewN|apply below_drew1))):d.C w1 A n xs:=Kd.C_below H h
theorem rp_ {p:Prop} (h:p:=by repeat(first|exact Reps.none _ _|refine Reps.one (by exact rfl) ?_)):p:=h
theorem dn_ {p:Prop} (h:p:=by repeat(first|exact Drawn0.refl _|apply Drawn0.step)):p:=h
theorem ka_ {p:Prop} (h:p:=by(try simp only[List.map_toArray,List.map_cons,List.map_nil]);first|done|rfl|(simp only[List.length_drop,List.length_take];rfl)):p:=h
theorem as_ {p:Prop} (h:p:=by first|(with_reducible assumption)|assumption):p:=h
theorem rf_ {p:Prop} (h:p:=by first|rfl|(simp[errW_none,errW_some]<;>rfl)|(simp[*,errW_none,errW_some]<;>rfl)):p:=h
end Go.Proofs.YtjadcnkelffdgaaDoor.Xs
