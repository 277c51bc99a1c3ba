/- Signs written as bytes of six sets, in plain Lean; no program in sight, no condition beyond those that each lemma names. -/
import Derived.Test.YtjadcnkelffdgaaDoorModelD
namespace Go.Proofs.YtjadcnkelffdgaaDoor.Model
open Go.RowKit Go.Proofs.YtjadcnkelffdgaaDoorW.PrintWords Go.Proofs.YtjadcnkelffdgaaDoor.Base Go.Proofs.YtjadcnkelffdgaaDoor.Xw
def codePut (cs n:Int):Option (List Int):=
  if cs=0 then utfPut n else if cs=5 then(if(eucOf n).2=true then some (eucOf n).1 else none)else(if(signByte cs n).2=true then some [(signByte cs n).1]else none)
def putIn (cs:Int) (b:List Int) (n:Int):List Int×Bool:=match codePut cs n with
  |some x=>(b++x,true)
  |none=>(b,false)
theorem signByteFrom_range (cs n:Int) (d:Nat):∀b:Int,0≤b→b+d=256→(signByteFrom cs n d b).2=true→0≤(signByteFrom cs n d b).1∧(signByteFrom cs n d b).1≤255:=by
  induction d with
  |zero=>intro b _ _ h;unfold signByteFrom at h;cases h
  |succ d ih=>
    intro b h0 h1 h;unfold signByteFrom at h⊢;by_cases hc:(byteSign cs b).2=true∧(byteSign cs b).1=n
    · rw[if_pos hc];simp only;omega
    · rw[if_neg hc]at h⊢;exact ih (b+1) (by omega) (by omega) h
theorem signByte_range {cs n:Int} (h:(signByte cs n).2=true):0≤(signByte cs n).1∧(signByte cs n).1≤255:=signByteFrom_range cs n 256 0 (by omega) (by omega) h
theorem codePut_length {cs n:Int} {x:List Int} (h:codePut cs n=some x):x.length≤4:=by
  unfold codePut at h;by_cases c0:cs=0
  · rw[if_pos c0]at h
    unfold utfPut at h;by_cases hs:signOk n=true
    · rw[if_pos hs]at h;obtain rfl:=Option.some.inj h;exact enc_length n
    · rw[if_neg hs]at h;cases h
  · rw[if_neg c0]at h
    by_cases c5:cs=5
    · rw[if_pos c5]at h
      by_cases hs:(eucOf n).2=true
      · rw[if_pos hs]at h;obtain rfl:=Option.some.inj h;have:=eucOf_length n;omega
      · rw[if_neg hs]at h;cases h
    · rw[if_neg c5]at h
      by_cases hs:(signByte cs n).2=true
      · rw[if_pos hs]at h;obtain rfl:=Option.some.inj h;simp
      · rw[if_neg hs]at h;cases h
theorem eucOf_none {n:Int} (h:¬(eucOf n).2=true):eucOf n=([],false):=by
  unfold eucOf at h⊢;by_cases c1:0≤n∧n≤127
  · rw[if_pos c1]at h;exact absurd rfl h
  · rw[if_neg c1]at h⊢
    by_cases c2:(signPair n).2.2=true
    · rw[if_pos c2]at h;exact absurd rfl h
    · rw[if_neg c2]
def encodeAll (cs:Int) (s:ByteArray):List Int×Bool:=if inR cs 0 5=true then(match readAll utfGet (numsOf s)with
  |none=>([],false)
  |some ns=>match writeAll (codePut cs) ns with
    |some b=>(b,true)
    |none=>([],false))else([],false)
theorem putIn_utf {b:List Int} {n:Int} (hs:signOk n=true):putIn 0 b n=(b++enc n,true):=by
  unfold putIn codePut utfPut;rw[if_pos rfl,if_pos hs]
theorem putIn_utf_no {b:List Int} {n:Int} (hs:¬signOk n=true):putIn 0 b n=(b,false):=by
  unfold putIn codePut utfPut;rw[if_pos rfl,if_neg hs]
theorem putIn_euc (b:List Int) (n:Int):putIn 5 b n=(b++(eucOf n).1,(eucOf n).2):=by
  unfold putIn codePut;rw[if_neg (by decide),if_pos rfl];by_cases hs:(eucOf n).2=true
  · rw[if_pos hs,hs]
  · rw[if_neg hs,eucOf_none hs];simp
theorem putIn_byte {cs:Int} {b:List Int} {n:Int} (c0:cs≠0) (c5:cs≠5) (hs:(signByte cs n).2=true):putIn cs b n=(b++[(signByte cs n).1%256],true):=by
  have hr:=signByte_range hs;unfold putIn codePut;rw[if_neg c0,if_neg c5,if_pos hs,show(signByte cs n).1%256=(signByte cs n).1 by omega]
theorem putIn_byte_no {cs:Int} {b:List Int} {n:Int} (c0:cs≠0) (c5:cs≠5) (hs:¬(signByte cs n).2=true):putIn cs b n=(b,false):=by
  unfold putIn codePut;rw[if_neg c0,if_neg c5,if_neg hs]
theorem writeAll_length {p:Int→Option (List Int)} (hp:∀n x,p n=some x→x.length≤4):∀ns b,writeAll p ns=some b→b.length≤4*ns.length:=by
  intro ns
  induction ns with
  |nil=>intro b h;unfold writeAll at h;obtain rfl:=Option.some.inj h;simp
  |cons n ns ih=>
    intro b h;unfold writeAll at h
    cases hx:p n with
    |none=>rw[hx]at h;cases h
    |some x=>
      rw[hx]at h;simp only at h;obtain⟨c,hc,rfl⟩:=Option.map_eq_some_iff.1 h;have:=ih c hc;have:=hp n x hx;rw[List.length_append,List.length_cons];omega
theorem encodeAll_length (cs:Int) (s:ByteArray):(encodeAll cs s).1.length≤4*s.size:=by
  unfold encodeAll;by_cases h:inR cs 0 5=true
  · rw[if_pos h]
    cases hr:readAll utfGet (numsOf s)with
    |none=>simp
    |some ns=>
      have h1:=readN_length utf_codes.toReads _ _ hr;rw[numsOf_length]at h1;simp only
      cases hw:writeAll (codePut cs) ns with
      |none=>simp
      |some b=>
        have h2:=writeAll_length (fun n x h=>codePut_length h) ns b hw;simp only;omega
  · rw[if_neg h];simp
theorem drop_cons_at (ns:List Int) (i:Nat) (h:i<ns.length):ns.drop i=rd ns (i:Int)::ns.drop (i+1):=by
  rw[List.drop_eq_getElem_cons h,rd_lt ns i h]
end Go.Proofs.YtjadcnkelffdgaaDoor.Model
