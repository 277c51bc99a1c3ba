/- Bytes below 128 say themselves in each of the six sets, in plain Lean; no program in sight, no condition beyond those that each lemma names. -/
import Derived.Test.YtjadcnkelffdgaaDoorModelT
namespace Go.Proofs.YtjadcnkelffdgaaDoor.Model
open Go.RowKit Go.Proofs.YtjadcnkelffdgaaDoorW.PrintWords Go.Proofs.YtjadcnkelffdgaaDoor.Base Go.Proofs.YtjadcnkelffdgaaDoor.Xw
theorem eucOf_bytes {n:Int}:Bytes (eucOf n).1:=by
  unfold eucOf;by_cases h1:0≤n∧n≤127
  · rw[if_pos h1];exact .cons (by omega) (by omega) .nil
  · rw[if_neg h1]
    have hm:=signPair_mod n;by_cases h2:(signPair n).2.2=true
    · rw[if_pos h2];exact .cons (by omega) (by omega) (.cons (by omega) (by omega) .nil)
    · rw[if_neg h2];exact .nil
theorem codePut_bytes {cs n:Int} {x:List Int} (h:codePut cs n=some x):Bytes x:=by
  unfold codePut at h;by_cases c0:cs=0
  · rw[if_pos c0]at h
    unfold utfPut at h;by_cases hs:signOk n=true
    · rw[if_pos hs]at h;obtain rfl:=Option.some.inj h;exact enc_bytes hs
    · rw[if_neg hs]at h;cases h
  · rw[if_neg c0]at h
    by_cases c5:cs=5
    · rw[if_pos c5]at h
      by_cases hs:(eucOf n).2=true
      · rw[if_pos hs]at h;obtain rfl:=Option.some.inj h;exact eucOf_bytes
      · rw[if_neg hs]at h;cases h
    · rw[if_neg c5]at h
      by_cases hs:(signByte cs n).2=true
      · have hr:=signByte_range hs
        rw[if_pos hs]at h;obtain rfl:=Option.some.inj h;exact .cons (by omega) (by omega) .nil
      · rw[if_neg hs]at h;cases h
theorem writeAll_bytes {p:Int→Option (List Int)} (hp:∀n x,p n=some x→Bytes x):∀ns b,writeAll p ns=some b→Bytes b:=by
  intro ns
  induction ns with
  |nil=>intro b h;unfold writeAll at h;obtain rfl:=Option.some.inj h;exact .nil
  |cons n ns ih=>
    intro b h;unfold writeAll at h
    cases hx:p n with
    |none=>rw[hx]at h;cases h
    |some x=>
      rw[hx]at h;simp only at h;obtain⟨c,hc,rfl⟩:=Option.map_eq_some_iff.1 h;exact(hp n x hx).append (ih c hc)
theorem encodeAll_bytes (cs:Int) (s:ByteArray):Bytes (encodeAll cs s).1:=by
  unfold encodeAll;by_cases h:inR cs 0 5=true
  · rw[if_pos h]
    cases hr:readAll utfGet (numsOf s)with
    |none=>exact .nil
    |some ns=>
      simp only
      cases hw:writeAll (codePut cs) ns with
      |none=>exact .nil
      |some b=>exact writeAll_bytes (fun n x h=>codePut_bytes h) ns b hw
  · rw[if_neg h];exact .nil
end Go.Proofs.YtjadcnkelffdgaaDoor.Model
