/- A region's steps, each under a name, and more arms: what the printed walk finds by tactics is found, where the name stands, by these very tactics; no condition. -/
import Derived.Test.YtjadcnkelffdgaaDoorXs
import Derived.Test.YtjadcnkelffdgaaDoorWMore
namespace Go.Proofs.YtjadcnkelffdgaaDoor.Xr
open Go.RowKit Go.Proofs.YtjadcnkelffdgaaDoorW.PrintWords Go.Proofs.YtjadcnkelffdgaaDoorW.PrintLast
section
variable {P:Program} {md:Region.Mode} {ops:Array Oper} {Q:Exit→Act→World→Prop} {S:World→Prop} {ds:List Nat}
theorem pu_ (i:Nat) (n:Tmp) {oi:Oper} {v:Value} {fuel:Nat} {l:Array Bool} {a a':Act} {w:World} (l':Array Bool) (h:wpAnyLast P md ops Q S ds fuel l' a' w)
    (hi:ops[i]? =some oi:=by rfl) (hN:oi.dst=some n:=by rfl) (hc:anyB md ops l l' i=true:=by kernel_rfl) (hQ:∀c a w,Q (.panic c) (a.put oi.dst v) w→Q (.panic c) a w:=by exact fun _ _ _ h=>h)
    (hy:Yields P ops oi v a:=by refine Or.inl ⟨by rfl,?_⟩;intro w';go_simp;first|(with_reducible rfl)|(simp[Instr.field,part,asAgg];first|(with_reducible rfl)|rfl))
    (ha:a.put (some n) v=a':=by(simp only[Act.put,List.setIfInBounds_toArray,List.set_cons_zero,List.set_cons_succ,i64_w,i32_w]);rfl):wpAnyLast P md ops Q S ds (fuel+1) l a w:=
  pure_ l' hi hN hc hQ hy ha h
theorem tk_ (i:Nat) (n:Tmp) {oi:Oper} {v:Value} {fuel:Nat} {l:Array Bool} {a a':Act} {w:World} (l':Array Bool) (hS:S w) (h:wpAnyLast P md ops Q S ds fuel l' a' w)
    (hi:ops[i]? =some oi:=by rfl) (hN:oi.dst=some n:=by rfl) (hc:takeB md ops ds l l' i=true:=by kernel_rfl) (hQ:∀c a w,Q (.panic c) (a.put oi.dst v) w→Q (.panic c) a w:=by exact fun _ _ _ h=>h)
    (hy:YieldsIf P ops S oi v a:=by refine Or.inl ⟨by rfl,?_⟩;intro w' s_;(repeat(obtain⟨s0_,s_⟩:=s_));go_simp;with_reducible rfl)
    (ha:a.put (some n) v=a':=by(simp only[Act.put,List.setIfInBounds_toArray,List.set_cons_zero,List.set_cons_succ,i64_w,i32_w]);rfl):wpAnyLast P md ops Q S ds (fuel+1) l a w:=
  take_ l' hi hN hc hQ hy hS ha h
end
theorem hk_ {p:Prop} (h:p:=by repeat(first|(with_reducible first|exact HK.out|apply KeepBut.set_|apply keep_drewN|apply keep_drew|apply keep_alloc)|exact HK.out)):p:=h
theorem kv_ {α:Type} {d:Kd α} {e base:Nat} {w w1:World} {ok:Nat→Prop} {v:Value} {xs:List α} (H:Aside0 (d.V e w base ok v xs)) (h:Below w.heap.size w w1:=by(with_reducible repeat(first|exact Below.refl _ _|apply below_alloc|apply pw_below_drewN|apply below_drew1))):d.V e w1 base ok v xs:=Kd.V_below H.out h
theorem kn_ {α:Type} {d:Kd α} {e base:Nat} {w w1:World} {ok:Nat→Prop} {v:Value} {xs:List α} (H:Aside0 (d.N e w base ok v xs)) (h:Below w.heap.size w w1:=by(with_reducible repeat(first|exact Below.refl _ _|apply below_alloc|apply pw_below_drewN|apply below_drew1))):d.N e w1 base ok v xs:=Kd.N_below H.out h
theorem bw_ {p:Prop} (h:p:=by(repeat(first|exact Aside0.out (by with_reducible assumption)|(with_reducible first|refine blk_drewN ?_ _|refine blk_drew ?_|refine blk_alloc ?_ _)|refine blk_far ?_ (Aside0.out (by assumption)) _|refine blk_put ?_ _ _ ?_));all_goals rfl):p:=h
theorem c3_ {w:World} {g t:Nat} {a b c:Value} (H:Aside0 (w.heap[g]? =some (.cells #[a,b,c] t (0,0)))):w.cell? ⟨g,0,none⟩=some a∧w.cell? ⟨g,1,none⟩=some b∧w.cell? ⟨g,2,none⟩=some c∧w.frozen? ⟨g,0,none⟩=false∧w.frozen? ⟨g,1,none⟩=false∧w.frozen? ⟨g,2,none⟩=false:=
  ⟨(blk_cell H.out 0).trans rfl,(blk_cell H.out 1).trans rfl,(blk_cell H.out 2).trans rfl,blk_frozen H.out 0,blk_frozen H.out 1,blk_frozen H.out 2⟩
end Go.Proofs.YtjadcnkelffdgaaDoor.Xr
