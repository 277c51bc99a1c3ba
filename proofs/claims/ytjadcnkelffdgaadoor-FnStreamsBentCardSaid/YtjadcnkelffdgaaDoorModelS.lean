/- A whole text of signs of today out of bytes, and whether bytes are one, in plain Lean; no program in sight, no condition beyond those that each lemma names. -/
import Derived.Test.YtjadcnkelffdgaaDoorModelC
import Derived.Lib.ValidLaws
namespace Go.Proofs.YtjadcnkelffdgaaDoor.Model
open Go.RowKit Go.Proofs.YtjadcnkelffdgaaDoorW.PrintWords Go.Proofs.YtjadcnkelffdgaaDoor.Base Go.Proofs.YtjadcnkelffdgaaDoor.Xw
def signs (l:List Int):List Int×Bool:=match readAll utfGet l with
  |some ns=>(ns,true)
  |none=>([],false)
theorem utfGet_none {l:List Int} (hl:l≠[]) (h:decL l=(65533,1)):utfGet l=none:=by unfold utfGet;rw[if_neg hl,if_pos h]
theorem utfGet_some {l:List Int} (hl:l≠[]) (h:decL l≠(65533,1)):utfGet l=some (((decL l).1:Int),(decL l).2):=by unfold utfGet;rw[if_neg hl,if_neg h]
theorem signs_some {l ns:List Int} (h:readAll utfGet l=some ns):signs l=(ns,true):=by unfold signs;rw[h]
theorem signs_none {l:List Int} (h:readAll utfGet l=none):signs l=([],false):=by unfold signs;rw[h]
theorem readN_length {g:List Int→Option (Int×Nat)} (R:Reads g):∀l ns,readAll g l=some ns→ns.length≤l.length:=by
  refine read_induct R ?_ ?_ ?_
  · intro ns h;rw[readAll_nil]at h;obtain rfl:=Option.some.inj h;exact Nat.le_refl _
  · intro l hl hg _ ns h;rw[readAll_cons R hl,hg]at h;cases h
  · intro l n k hl hg ih ns h
    rw[readAll_cons R hl,hg]at h;simp only at h;obtain⟨ms,hm,rfl⟩:=Option.map_eq_some_iff.1 h;have h1:=ih ms hm;have h2:=R.pos hl hg;rw[List.length_drop]at h1;rw[List.length_cons];omega
theorem utf_range {l ns:List Int} (hb:Bytes l) (h:readAll utfGet l=some ns):∀n∈ns,signOk n=true:=(read_write utf_codes l hb ns h).2
end Go.Proofs.YtjadcnkelffdgaaDoor.Model
