/- Small lemmas on the print's words: what 'Ev' does at a test, at a callee without rounds, at one with rounds; what a whole number's kind says of it. No condition beyond those that each lemma names. -/
import Derived.Test.YtjadcnkelffdgaaDoorWMore
import Derived.Test.YtjadcnkelffdgaaDoorWSized
import Derived.Laws.BitsLemmas
namespace Go.Proofs.YtjadcnkelffdgaaDoor.PrintWords
theorem sized_ints:type_of% @Go.Proofs.YtjadcnkelffdgaaDoorW.PrintWords.sized_ints:=@Go.Proofs.YtjadcnkelffdgaaDoorW.PrintWords.sized_ints
end Go.Proofs.YtjadcnkelffdgaaDoor.PrintWords
namespace Go.Proofs.YtjadcnkelffdgaaDoor.Base
open Go.RowKit Go.Proofs.YtjadcnkelffdgaaDoorW.PrintWords
theorem i64_of {x:Int} (h:(Lit.int .i64 x).wf=true): -9223372036854775808≤x∧x≤9223372036854775807:=by
  simpa[Lit.wf,IntKind.min,IntKind.max,IntKind.signed,IntKind.bits]using h
theorem u8_of {x:Int} (h:(Lit.int .u8 x).wf=true):0≤x∧x≤255:=by
  simpa[Lit.wf,IntKind.min,IntKind.max,IntKind.signed,IntKind.bits]using h
theorem w64 {x:Int} (h0: -9223372036854775808≤x) (h1:x≤9223372036854775807):wrap64 x=x:=by
  unfold wrap64;omega
def Bytes (l:List Int):Prop:=∀x∈l,0≤x∧x≤255
theorem Bytes.of {l:List Int} (h:∀x∈l,(Lit.int .u8 x).wf=true):Bytes l:=fun x hx=>u8_of (h x hx)
theorem Bytes.rd {l:List Int} (h:Bytes l) (i:Int):0≤Go.Proofs.YtjadcnkelffdgaaDoorW.PrintWords.rd l i∧Go.Proofs.YtjadcnkelffdgaaDoorW.PrintWords.rd l i≤255:=by
  unfold Go.Proofs.YtjadcnkelffdgaaDoorW.PrintWords.rd;by_cases hi:i.toNat<l.length
  · rw[List.getD_eq_getElem?_getD,List.getElem?_eq_getElem hi];exact h _ (List.getElem_mem hi)
  · rw[List.getD_eq_getElem?_getD,List.getElem?_eq_none (by omega)];decide
theorem Bytes.nil:Bytes []:=fun x hx=>by cases hx
theorem Bytes.append {a b:List Int} (ha:Bytes a) (hb:Bytes b):Bytes (a++b):=fun x hx=>by
  rcases List.mem_append.1 hx with h|h
  · exact ha x h
  · exact hb x h
theorem Bytes.take {a:List Int} (ha:Bytes a) (n:Nat):Bytes (a.take n):=fun x hx=>ha x (List.mem_of_mem_take hx)
theorem Bytes.drop {a:List Int} (ha:Bytes a) (n:Nat):Bytes (a.drop n):=fun x hx=>ha x (List.mem_of_mem_drop hx)
theorem Bytes.cons {x:Int} {a:List Int} (h0:0≤x) (h1:x≤255) (ha:Bytes a):Bytes (x::a):=fun y hy=>by
  rcases List.mem_cons.1 hy with h|h
  · subst h;exact⟨h0,h1⟩
  · exact ha y h
section
variable {α β:Type}
theorem ev_pos {c:Prop} [Decidable c] {A B:Nat→Option α} {r:α} (h:c) (e:Ev A r):Ev (fun k=>if c then A k else B k) r:=by
  simp only[if_pos h];exact e
theorem ev_neg {c:Prop} [Decidable c] {A B:Nat→Option α} {r:α} (h:¬c) (e:Ev B r):Ev (fun k=>if c then A k else B k) r:=by
  simp only[if_neg h];exact e
theorem ev_call {a:Option α} {v:α} {f:Nat→α→Option β} {r:β} (h:a=some v) (e:Ev (fun k=>f k v) r):Ev (fun k=>a.bind (f k)) r:=by
  subst h;exact e
theorem ev_bind {g:Nat→Option α} {f:Nat→α→Option β} {a:α} {r:β} (h:Ev g a) (k:Ev (fun n=>f n a) r):Ev (fun n=>(g n).bind (f n)) r:=Ev.bind h k
theorem ev_is {g:Nat→Option α} {a b:α} (h:Ev g a) (e:a=b):Ev g b:=e▸h
theorem ev_same {g:Nat→Option α} {a:α} (h:∀k,g k=some a):Ev g a:=⟨0,fun k _=>h k⟩
theorem ev_shift {g:Nat→Option α} {a:α} (h:Ev (fun k=>g (k+1)) a):Ev g a:=Ev.step (fun _=>rfl) h
end
end Go.Proofs.YtjadcnkelffdgaaDoor.Base
