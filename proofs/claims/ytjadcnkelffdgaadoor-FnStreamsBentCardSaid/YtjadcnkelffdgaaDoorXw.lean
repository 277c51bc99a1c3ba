/- What a string's conversion to bytes leaves, told in the print's words: a row that is only read, of blocks that are new; no condition beyond those that the lemma names. -/
import Derived.Test.YtjadcnkelffdgaaDoorWMore
import Derived.Lib.ConvBytes
namespace Go.Proofs.YtjadcnkelffdgaaDoor.Xw
def numsOf (s:ByteArray):List Int:=s.data.toList.map fun b=>(b.toNat:Int)
theorem numsOf_length (s:ByteArray):(numsOf s).length=s.size:=by
  rw[numsOf,List.length_map,Array.length_toList];rfl
end Go.Proofs.YtjadcnkelffdgaaDoor.Xw
namespace Go.Proofs.YtjadcnkelffdgaaDoorW.PrintWords.Kd
open Go.RowKit Go.Proofs.YtjadcnkelffdgaaDoor.Xw
section
variable {P:Program} {ops:Array Oper} {rest:List Oper} {o:Oper} {a:Act} {Q:Exit→Act→World→Prop}
theorem bytes_cell {W W':World} {e:TypeId} {s:ByteArray} (h:W'.heap[W.heap.size]? =some (.cells (Lib.bytesCells W e s) e ((Lib.bytesCells W e s).size,(Lib.bytesCells W e s).size+1))) (j:Nat) (hj:j<s.size):
    W'.cell? ⟨W.heap.size,j,none⟩=some (.int .u8 ((numsOf s).getD j 0)):=by
  have hs:j<s.data.size:=hj;simp[World.cell?,h,Lib.bytesCells,Array.getElem?_append,numsOf,List.getD_eq_getElem?_getD,hj]
theorem gate_upon {K:Act→World→Prop} {R:Result Next} {N:Tmp} (_hd:o.dst=some N) (h:Oper.upon P o a K Q R):Oper.upon P o a K Q R:=h
theorem V_ofstr {K:Act→World→Prop} {w0 W:World} (base:Nat) (src dst e:TypeId) (s:ByteArray) {u:TypeDesc}
    (hs:P.underlying src=some u) (hds:P.underlying dst=some (.slice e)) (he:P.underlying e=some (.int .u8)) (hm:s.size≤9223372036854775807) (HB:Below base w0 W) (hbase:base≤W.heap.size)
    (h:∀v1 w1,Kd.V (Kd.int .u8) e w1 base (fun k=>W.heap.size≤k) v1 (numsOf s)→Below base w0 w1→W.grownBy w1 none→(∃b,v1.ownBlock=some b∧W.heap.size≤b)→Oper.upon P o a K Q (Result.ok (Next.value v1) w1)):
    Oper.upon P o a K Q ((Sem.run P (convert src dst (.string s)) W).andThen fun a w'=>Result.ok (Next.value a) w'):=by
  have hr:=Lib.run_convert_string_bytes (P:=P) W src dst e s hs hds he
  have hnew:∀W':World,(∀k,W.heap.size≤k→k<(Lib.bytesWorld W e s).heap.size→W'.heap[k]? =(Lib.bytesWorld W e s).heap[k]?)→W'.heap[W.heap.size]? =some (.cells (Lib.bytesCells W e s) e ((Lib.bytesCells W e s).size,(Lib.bytesCells W e s).size+1)):=by
    intro W' hW;rw[hW W.heap.size (Nat.le_refl _) (by rw[Lib.bytesWorld_size];omega)];exact Lib.bytesWorld_at_new W e s
  have hold:∀j,j<W.heap.size→(Lib.bytesWorld W e s).heap[j]? =W.heap[j]? :=fun j hj=>Lib.bytesWorld_at_old W e s j hj
  rw[hr];refine h (.slice (some ⟨W.heap.size,0,none⟩) s.size (grownCap W s.size 0 e)) (Lib.bytesWorld W e s) ?_ ?_ ?_ ?_
  · have hl:=numsOf_length s
    refine⟨some ⟨W.heap.size,0,none⟩,grownCap W s.size 0 e,by rw[hl],by rw[hl];exact grownCap_ge W s.size 0 e,fun W' hW=>?_⟩;refine Kd.C_of_reads (d:=(0:Int)) (h1:=fun _=>rfl) ⟨rfl,by rw[hl];exact hm,fun _=>⟨_,rfl,fun i hi=>?_⟩⟩;have:=bytes_cell (hnew W' hW) i (by omega);by_cases h0:i=0
    · subst h0;simpa[Addr.add]using this
    · simpa[Addr.add,h0]using this
  · refine HB.trans ⟨?_,?_,?_,by rw[Lib.bytesWorld_size];omega,fun k hk=>hold k (by omega)⟩<;>
      simp[Lib.bytesWorld,World.freeze,World.alloc,World.drew,-World.alloc_eq,-World.drew_eq]
  · refine⟨?_,?_,?_,by rw[Lib.bytesWorld_size];omega,fun k hk _=>hold k hk⟩<;>
      simp[Lib.bytesWorld,World.freeze,World.alloc,World.drew,-World.alloc_eq,-World.drew_eq]
  · exact⟨W.heap.size,rfl,Nat.le_refl _⟩
end
end Go.Proofs.YtjadcnkelffdgaaDoorW.PrintWords.Kd
