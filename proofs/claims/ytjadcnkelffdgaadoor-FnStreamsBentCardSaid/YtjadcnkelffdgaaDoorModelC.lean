/- Reading a row of bytes sign by sign, and writing signs as bytes, in plain Lean: what is read is written as it stood, what is written is read again; no program in sight, no condition beyond those that each lemma names. -/
import Derived.Test.YtjadcnkelffdgaaDoorModelU
namespace Go.Proofs.YtjadcnkelffdgaaDoor.Model
open Go.RowKit Go.Proofs.YtjadcnkelffdgaaDoorW.PrintWords Go.Proofs.YtjadcnkelffdgaaDoor.Base Go.Proofs.YtjadcnkelffdgaaDoor.Xw
def readN (g:List Int→Option (Int×Nat)):Nat→List Int→Option (List Int)
  |0,_=>some []
  |f+1,l=>if l=[]then some []else match g l with
    |none=>none
    |some (n,k)=>(readN g f (l.drop k)).map (n:: ·)
def readAll (g:List Int→Option (Int×Nat)) (l:List Int):Option (List Int):=readN g l.length l
def writeAll (p:Int→Option (List Int)):List Int→Option (List Int)
  |[]=>some []
  |n::ns=>match p n with
    |none=>none
    |some b=>(writeAll p ns).map (b++ ·)
structure Reads (g:List Int→Option (Int×Nat)):Prop where
  pos:∀{l n k},l≠[]→g l=some (n,k)→1≤k∧k≤l.length
structure Codes (g:List Int→Option (Int×Nat)) (p:Int→Option (List Int)):Prop extends Reads g where
  back:∀{l n k},Bytes l→l≠[]→g l=some (n,k)→signOk n=true∧p n=some (l.take k)
  forth:∀{n b},signOk n=true→p n=some b→b≠[]∧Bytes b∧ ∀r,g (b++r)=some (n,b.length)
section
variable {g:List Int→Option (Int×Nat)} {p:Int→Option (List Int)}
theorem readN_more (R:Reads g) (f:Nat):∀(f':Nat) (l:List Int),l.length≤f→l.length≤f'→readN g f l=readN g f' l:=by
  induction f with
  |zero=>
    intro f' l h _;obtain rfl:=List.eq_nil_of_length_eq_zero (Nat.le_zero.1 h);cases f'<;>simp[readN]
  |succ f ih=>
    intro f' l h h'
    cases f' with
    |zero=>obtain rfl:=List.eq_nil_of_length_eq_zero (Nat.le_zero.1 h');simp[readN]
    |succ f'=>
      unfold readN;by_cases hl:l=[]
      · rw[if_pos hl,if_pos hl]
      · rw[if_neg hl,if_neg hl]
        cases hg:g l with
        |none=>rfl
        |some q=>
          obtain⟨n,k⟩:=q;obtain⟨k1,k2⟩:=R.pos hl hg;simp only;rw[ih f' (l.drop k) (by rw[List.length_drop];omega) (by rw[List.length_drop];omega)]
theorem readAll_nil:readAll g []=some []:=rfl
theorem readAll_cons (R:Reads g) {l:List Int} (hl:l≠[]):readAll g l=match g l with
    |none=>none
    |some (n,k)=>(readAll g (l.drop k)).map (n:: ·):=by
  unfold readAll;obtain⟨a,t,rfl⟩:=List.exists_cons_of_ne_nil hl;rw[List.length_cons,readN,if_neg hl]
  cases hg:g (a::t)with
  |none=>rfl
  |some q=>
    obtain⟨n,k⟩:=q;obtain⟨k1,k2⟩:=R.pos hl hg;simp only;rw[readN_more R t.length ((a::t).drop k).length _ (by rw[List.length_drop,List.length_cons];omega) (Nat.le_refl _)]
theorem read_induct (R:Reads g) {P:List Int→Prop} (hnil:P []) (hnone:∀l,l≠[]→g l=none→P (l.drop 1)→P l) (hsome:∀l n k,l≠[]→g l=some (n,k)→P (l.drop k)→P l):∀l,P l:=by
  have key:∀f (l:List Int),l.length≤f→P l:=by
    intro f
    induction f with
    |zero=>intro l h;obtain rfl:=List.eq_nil_of_length_eq_zero (Nat.le_zero.1 h);exact hnil
    |succ f ih=>
      intro l h;by_cases hl:l=[]
      · subst hl;exact hnil
      · have h1:1≤l.length:=by cases l with|nil=>exact absurd rfl hl|cons=>simp
        cases hg:g l with
        |none=>exact hnone l hl hg (ih _ (by rw[List.length_drop];omega))
        |some q=>
          obtain⟨n,k⟩:=q;obtain⟨k1,k2⟩:=R.pos hl hg;exact hsome l n k hl hg (ih _ (by rw[List.length_drop];omega))
  exact fun l=>key l.length l (Nat.le_refl _)
theorem read_write (C:Codes g p):∀l,Bytes l→ ∀ns,readAll g l=some ns→writeAll p ns=some l∧ ∀n∈ns,signOk n=true:=by
  refine read_induct C.toReads ?_ ?_ ?_
  · intro _ ns h
    rw[readAll_nil]at h;obtain rfl:=Option.some.inj h;exact⟨rfl,fun n hn=>by cases hn⟩
  · intro l hl hg _ _ ns h
    rw[readAll_cons C.toReads hl,hg]at h;cases h
  · intro l n k hl hg ih hb ns h
    rw[readAll_cons C.toReads hl,hg]at h;simp only[Option.map_eq_some_iff]at h;obtain⟨ms,hm,rfl⟩:=h;obtain⟨h1,h2⟩:=ih (hb.drop k) ms hm;obtain⟨hs,hp⟩:=C.back hb hl hg;refine⟨?_,fun x hx=>?_⟩
    · unfold writeAll
      rw[hp,h1];simp
    · rcases List.mem_cons.1 hx with rfl|hx
      · exact hs
      · exact h2 x hx
end
theorem decL_le (l:List Int) (hl:l≠[]):1≤(decL l).2∧(decL l).2≤l.length:=by
  have h1:1≤l.length:=by cases l with|nil=>exact absurd rfl hl|cons=>simp
  have key:∀(n b0 b1 b2 b3:Nat),1≤n→1≤(Lib.decodeN n b0 b1 b2 b3).2∧(Lib.decodeN n b0 b1 b2 b3).2≤n:=by
    intro n b0 b1 b2 b3 h;unfold Lib.decodeN;repeat' split
    all_goals (simp only;omega)
  exact key _ _ _ _ _ h1
def utfGet (l:List Int):Option (Int×Nat):=if l=[]then none else if decL l=(65533,1)then none else some ((decL l).1,(decL l).2)
def utfPut (n:Int):Option (List Int):=if signOk n=true then some (enc n)else none
theorem take_of {a b l:List Int} {k:Nat} (h:l=a++b) (hk:a.length=k):l.take k=a:=by subst h;subst hk;simp
theorem utfGet_enc {n:Int} (h:signOk n=true) (r:List Int):utfGet (enc n++r)=some (n,(enc n).length):=by
  have hp:=enc_pos n;unfold utfGet;rw[if_neg (by intro z;have h1:=congrArg List.length z;rw[List.length_append,List.length_nil]at h1;omega),decL_enc h r];have h0:=signOk_iff.1 h;rw[if_neg]
  · simp only[Option.some.injEq,Prod.mk.injEq];exact⟨by omega,trivial⟩
  · intro z
    injection z with z1 z2
    have hn:n=65533:=by omega
    subst hn;exact absurd z2 (by decide)
theorem utf_codes:Codes utfGet utfPut where
  pos:=by
    intro l n k hl h;unfold utfGet at h;rw[if_neg hl]at h;by_cases hd:decL l=(65533,1)
    · rw[if_pos hd]at h;cases h
    · rw[if_neg hd]at h
      injection h with h;injection h with h1 h2
      subst h2;exact decL_le l hl
  back:=by
    intro l n k hb hl h;unfold utfGet at h;rw[if_neg hl]at h;by_cases hd:decL l=(65533,1)
    · rw[if_pos hd]at h;cases h
    · rw[if_neg hd]at h
      injection h with h;injection h with h1 h2
      obtain⟨hs,he,hk⟩:=decL_sound l hb hl hd;rw[←h1,←h2];refine⟨hs,?_⟩;unfold utfPut;rw[if_pos hs];rw[take_of he hk]
  forth:=by
    intro n b hs h;unfold utfPut at h;rw[if_pos hs]at h;obtain rfl:=Option.some.inj h;exact⟨by intro z;have h1:=enc_pos n;rw[z,List.length_nil]at h1;omega,enc_bytes hs,utfGet_enc hs⟩
end Go.Proofs.YtjadcnkelffdgaaDoor.Model
