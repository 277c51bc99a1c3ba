/- Bytes that come in parts, in plain Lean: what begins a sign and does not end it, what is read of bytes and what is held; reading and writing in six sets belong together; no program in sight, no condition beyond those that each lemma names. -/
import Derived.Test.YtjadcnkelffdgaaDoorModelA
import Derived.Lib.DecodeNEq
namespace Go.Proofs.YtjadcnkelffdgaaDoor.Model
open Go.RowKit Go.Proofs.YtjadcnkelffdgaaDoorW.PrintWords Go.Proofs.YtjadcnkelffdgaaDoor.Base Go.Proofs.YtjadcnkelffdgaaDoor.Xw
theorem first_len:∀b:Fin 256,(l2Len (b.val:Int)=1∧Lib.firstT b.val=240)∨(l2Len (b.val:Int)=0∧Lib.firstT b.val=241)∨
    (Lib.firstT b.val<240∧l2Len (b.val:Int)=Lib.firstT b.val%8∧2≤Lib.firstT b.val%8∧Lib.firstT b.val%8≤4∧128≤Lib.accLo (Lib.firstT b.val/16)∧Lib.accLo (Lib.firstT b.val/16)≤Lib.accHi (Lib.firstT b.val/16)∧Lib.accHi (Lib.firstT b.val/16)≤191):=by decide+kernel
theorem byte_nat {l:List Int} (hb:Bytes l) (i:Nat):((l.getD i 0).toNat:Int)=l.getD i 0∧(l.getD i 0).toNat<256:=by
  have:=hb.rd (i:Int);rw[rd_nat]at this
  omega
theorem getD_app (l r:List Int) (i:Nat) (h:i<l.length):(l++r).getD i 0=l.getD i 0:=by
  rw[List.getD_eq_getElem?_getD,List.getElem?_append_left h,←List.getD_eq_getElem?_getD]
def begUtf (l:List Int):Bool:=if l=[]then false else !fullR l
def begins (cs:Int) (l:List Int):Bool:=if cs=0 then begUtf l else if cs=5 then decide (l.length=1)&&inR (rd l 0) 164 165 else false
def feedN (g:List Int→Option (Int×Nat)) (beg:List Int→Bool):Nat→List Int→List Int×List Int×Bool
  |0,_=>([],[],false)
  |f+1,l=>if l=[]then([],[],false)else match g l with
    |none=>if beg l=true then([],l,false)else([],[],true)
    |some (n,k)=>(n::(feedN g beg f (l.drop k)).1,(feedN g beg f (l.drop k)).2)
def feedAll (g:List Int→Option (Int×Nat)) (beg:List Int→Bool) (l:List Int):List Int×List Int×Bool:=feedN g beg l.length l
section
variable {g:List Int→Option (Int×Nat)} {beg:List Int→Bool}
theorem feedN_more (R:Reads g) (f:Nat):∀(f':Nat) (l:List Int),l.length≤f→l.length≤f'→feedN g beg f l=feedN g beg f' l:=by
  induction f with
  |zero=>
    intro f' l h _;obtain rfl:=List.eq_nil_of_length_eq_zero (Nat.le_zero.1 h);cases f'<;>simp[feedN]
  |succ f ih=>
    intro f' l h h'
    cases f' with
    |zero=>obtain rfl:=List.eq_nil_of_length_eq_zero (Nat.le_zero.1 h');simp[feedN]
    |succ f'=>
      unfold feedN;by_cases hl:l=[]
      · rw[if_pos hl,if_pos hl]
      · rw[if_neg hl,if_neg hl]
        cases hg:g l with
        |none=>rfl
        |some q=>
          obtain⟨n,k⟩:=q;obtain⟨k1,k2⟩:=R.pos hl hg;simp only;rw[ih f' (l.drop k) (by rw[List.length_drop];omega) (by rw[List.length_drop];omega)]
theorem feedAll_nil:feedAll g beg []=([],[],false):=rfl
theorem feedAll_cons (R:Reads g) {l:List Int} (hl:l≠[]):feedAll g beg l=match g l with
    |none=>if beg l=true then([],l,false)else([],[],true)
    |some (n,k)=>(n::(feedAll g beg (l.drop k)).1,(feedAll g beg (l.drop k)).2):=by
  unfold feedAll;obtain⟨a,t,rfl⟩:=List.exists_cons_of_ne_nil hl;rw[List.length_cons,feedN,if_neg hl]
  cases hg:g (a::t)with
  |none=>rfl
  |some q=>
    obtain⟨n,k⟩:=q;obtain⟨k1,k2⟩:=R.pos hl hg;simp only;rw[feedN_more R t.length ((a::t).drop k).length _ (by rw[List.length_drop,List.length_cons];omega) (Nat.le_refl _)]
theorem feedAll_none (R:Reads g) {l:List Int} (hl:l≠[]) (hg:g l=none):feedAll g beg l=if beg l=true then([],l,false)else([],[],true):=by rw[feedAll_cons R hl,hg]
theorem feedAll_some (R:Reads g) {l:List Int} {n:Int} {k:Nat} (hl:l≠[]) (hg:g l=some (n,k)):feedAll g beg l=(n::(feedAll g beg (l.drop k)).1,(feedAll g beg (l.drop k)).2):=by rw[feedAll_cons R hl,hg]
theorem feed_held (R:Reads g):∀l,Bytes l→(feedAll g beg l).2.1=[]∨(beg (feedAll g beg l).2.1=true∧(feedAll g beg l).2.2=false∧Bytes (feedAll g beg l).2.1):=by
  refine read_induct R ?_ ?_ ?_
  · intro _;exact .inl rfl
  · intro l hl hg _ hb
    rw[feedAll_none R hl hg];by_cases z:beg l=true
    · rw[if_pos z];exact .inr ⟨z,rfl,hb⟩
    · rw[if_neg z];exact .inl rfl
  · intro l n k hl hg ih hb
    rw[feedAll_some R hl hg];exact ih (hb.drop k)
theorem feed_length (R:Reads g):∀l,(feedAll g beg l).1.length≤l.length∧(feedAll g beg l).2.1.length≤l.length:=by
  refine read_induct R ?_ ?_ ?_
  · exact⟨Nat.le_refl _,Nat.le_refl _⟩
  · intro l hl hg _
    rw[feedAll_none R hl hg];by_cases z:beg l=true
    · rw[if_pos z];exact⟨Nat.zero_le _,Nat.le_refl _⟩
    · rw[if_neg z];exact⟨Nat.zero_le _,Nat.zero_le _⟩
  · intro l n k hl hg ih
    obtain⟨k1,k2⟩:=R.pos hl hg;rw[feedAll_some R hl hg];rw[List.length_drop]at ih;simp only[List.length_cons];omega
end
def decOk (cs:Int) (h:List Int) (bad:Bool):Bool:=inR cs 0 5&&(decide (h=[])|| !bad&&begins cs h)
def feed (cs:Int) (h:List Int) (bad:Bool) (b:List Int):List Int×Bool×ByteArray:=
  if decOk cs h bad=true∧bad=false then((feedAll (codeGet cs) (begins cs) (h++b)).2.1,(feedAll (codeGet cs) (begins cs) (h++b)).2.2,strOfNums ((feedAll (codeGet cs) (begins cs) (h++b)).1.flatMap encOk))else(h,bad,⟨#[]⟩)
end Go.Proofs.YtjadcnkelffdgaaDoor.Model
