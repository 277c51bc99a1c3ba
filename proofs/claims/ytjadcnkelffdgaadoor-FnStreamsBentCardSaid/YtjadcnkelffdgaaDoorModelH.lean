/- What begins a sign and does not end it, found by trying the least and the greatest bytes behind, in plain Lean; no program in sight, no condition beyond those that each lemma names. -/
import Derived.Test.YtjadcnkelffdgaaDoorModelG
namespace Go.Proofs.YtjadcnkelffdgaaDoor.Model
open Go.RowKit Go.Proofs.YtjadcnkelffdgaaDoorW.PrintWords Go.Proofs.YtjadcnkelffdgaaDoor.Base Go.Proofs.YtjadcnkelffdgaaDoor.Xw
theorem slow_err {n b0 b1 b2 b3 sz lo hi:Nat}:Lib.slowN n b0 b1 b2 b3 sz lo hi=(65533,1)↔n<sz∨b1<lo∨hi<b1∨(2<sz∧(b2<128∨191<b2))∨(3<sz∧(b3<128∨191<b3)):=by
  unfold Lib.slowN;by_cases g0:n<sz
  · rw[if_pos g0];exact⟨fun _=>.inl g0,fun _=>rfl⟩
  · rw[if_neg g0]
    by_cases g1:b1<lo∨hi<b1
    · rw[if_pos g1];exact⟨fun _=>by omega,fun _=>rfl⟩
    · rw[if_neg g1]
      by_cases g2:sz≤2
      · rw[if_pos g2];exact⟨fun z=>absurd (Prod.mk.inj z).2 (by decide),fun z=>by omega⟩
      · rw[if_neg g2]
        by_cases g3:b2<128∨191<b2
        · rw[if_pos g3];exact⟨fun _=>by omega,fun _=>rfl⟩
        · rw[if_neg g3]
          by_cases g4:sz≤3
          · rw[if_pos g4];exact⟨fun z=>absurd (Prod.mk.inj z).2 (by decide),fun z=>by omega⟩
          · rw[if_neg g4]
            by_cases g5:b3<128∨191<b3
            · rw[if_pos g5];exact⟨fun _=>by omega,fun _=>rfl⟩
            · rw[if_neg g5];exact⟨fun z=>absurd (Prod.mk.inj z).2 (by decide),fun z=>by omega⟩
def leadSz (a:Int):Nat:=Lib.firstT a.toNat%8
def leadLo (a:Int):Nat:=Lib.accLo (Lib.firstT a.toNat/16)
def leadHi (a:Int):Nat:=Lib.accHi (Lib.firstT a.toNat/16)
theorem lead_tab:∀b:Fin 256,2≤l2Len (b.val:Int)→Lib.firstT b.val<240∧l2Len (b.val:Int)=leadSz b.val∧leadSz b.val≤4∧128≤leadLo b.val∧leadLo b.val≤leadHi b.val∧leadHi b.val≤191∧
    ((b.val=224∧leadLo b.val=160∧leadHi b.val=191∧leadSz b.val=3)∨(b.val=237∧leadLo b.val=128∧leadHi b.val=159∧leadSz b.val=3)∨(b.val=240∧leadLo b.val=144∧leadHi b.val=191∧leadSz b.val=4)∨(b.val=244∧leadLo b.val=128∧leadHi b.val=143∧leadSz b.val=4)∨
      (b.val≠224∧b.val≠237∧b.val≠240∧b.val≠244∧leadLo b.val=128∧leadHi b.val=191)):=by decide+kernel
def good (b:List Int):Bool:=(getSign b 0).2.2
theorem good_def {b:List Int} (hl:b≠[]):good b=true↔decL b≠(65533,1):=by
  have h1:0<b.length:=List.length_pos_iff.2 hl;unfold good getSign;rw[if_pos (by omega)];simp only[Int.toNat_zero,List.drop_zero];by_cases h:decL b=(65533,1)
  · rw[if_pos h];simp[h]
  · rw[if_neg h];simp[h]
theorem good_iff {b:List Int} (hb:Bytes b) (hl:b≠[]) (h2:2≤l2Len (b.getD 0 0)):
    good b=true↔leadSz (b.getD 0 0)≤b.length∧leadLo (b.getD 0 0)≤(b.getD 1 0).toNat∧(b.getD 1 0).toNat≤leadHi (b.getD 0 0)∧
      (2<leadSz (b.getD 0 0)→128≤(b.getD 2 0).toNat∧(b.getD 2 0).toNat≤191)∧(3<leadSz (b.getD 0 0)→128≤(b.getD 3 0).toNat∧(b.getD 3 0).toNat≤191):=by
  have h1:0<b.length:=List.length_pos_iff.2 hl;have g0:=byte_nat hb 0;have k:=lead_tab ⟨_,g0.2⟩;simp only[g0.1]at k;have hX:=(k h2).1;rw[good_def hl];unfold decL;rw[←Lib.slow_eq b.length _ _ _ _ (by omega) (byte_nat hb 1).2 (byte_nat hb 2).2 (byte_nat hb 3).2 hX];unfold leadSz leadLo leadHi;rw[Ne,slow_err];omega
theorem beg_short {l:List Int} (_hb:Bytes l) (h:(l2Len (l.getD 0 0):Nat)≤l.length) (g0:((l.getD 0 0).toNat:Int)=l.getD 0 0∧(l.getD 0 0).toNat<256):begUtf l=false:=by
  unfold begUtf;by_cases hl:l=[]
  · rw[if_pos hl]
  · have h1:0<l.length:=List.length_pos_iff.2 hl
    rw[if_neg hl,Bool.not_eq_false'];unfold fullR;rw[if_neg hl];refine fullN_ge ?_;rcases first_len ⟨_,g0.2⟩with ⟨_,k⟩|⟨_,k⟩|⟨_,k,_⟩
    · simp only at k;rw[k];omega
    · simp only at k;rw[k];omega
    · simp only[g0.1]at k;rw[←k];exact h
theorem beg_full {l:List Int} (hl:l≠[]):begUtf l= !fullN l.length (l.getD 1 0).toNat (l.getD 2 0).toNat (leadSz (l.getD 0 0)) (leadLo (l.getD 0 0)) (leadHi (l.getD 0 0)):=by
  unfold begUtf fullR leadSz leadLo leadHi;rw[if_neg hl,if_neg hl]
def fixLow (a:Int) (l:List Int):List Int:=if a=224 then l.set 1 160 else if a=240 then l.set 1 144 else l
def fixHigh (a:Int) (l:List Int):List Int:=if a=237 then l.set 1 159 else if a=244 then l.set 1 143 else l
theorem one_good {a:Int} (h0:0≤a) (h1:a≤255) (h2:2≤l2Len a):
    good (fixLow a (a::List.replicate (l2Len a-1) 128))=true∧good (fixHigh a (a::List.replicate (l2Len a-1) 191))=true∧begUtf [a]=true:=by
  obtain⟨m,rfl⟩:=Int.eq_ofNat_of_zero_le h0;have key:∀b:Fin 256,2≤l2Len (b.val:Int)→good (fixLow (b.val:Int) ((b.val:Int)::List.replicate (l2Len (b.val:Int)-1) 128))=true∧good (fixHigh (b.val:Int) ((b.val:Int)::List.replicate (l2Len (b.val:Int)-1) 191))=true∧begUtf [(b.val:Int)]=true:=by decide+kernel
  exact key ⟨m,by omega⟩ h2
theorem more_good {l:List Int} (hb:Bytes l) (x:Int) (hx:x=128∨x=191) (h2:2≤l.length) (h:l.length<l2Len (l.getD 0 0)):
    good (l++List.replicate (l2Len (l.getD 0 0)-l.length) x)=begUtf l:=by
  have hl:l≠[]:=by intro z;subst z;simp at h2
  have g0:=byte_nat hb 0;have k:=lead_tab ⟨_,g0.2⟩;simp only[g0.1]at k;have k:=k (by omega);have h4:=l2Len_le (l.getD 0 0)
  have hb2:Bytes (l++List.replicate (l2Len (l.getD 0 0)-l.length) x):=hb.append (fun y hy=>by
    have:=(List.mem_replicate.1 hy).2
    omega)
  have e0:(l++List.replicate (l2Len (l.getD 0 0)-l.length) x).getD 0 0=l.getD 0 0:=getD_app l _ 0 (by omega);have e1:(l++List.replicate (l2Len (l.getD 0 0)-l.length) x).getD 1 0=l.getD 1 0:=getD_app l _ 1 (by omega)
  have hat:∀i,l.length≤i→i<l2Len (l.getD 0 0)→(l++List.replicate (l2Len (l.getD 0 0)-l.length) x).getD i 0=x:=by
    intro i h3 h5;rw[List.getD_eq_getElem?_getD,List.getElem?_append_right h3,List.getElem?_replicate,if_pos (by omega)];rfl
  have hlen:(l++List.replicate (l2Len (l.getD 0 0)-l.length) x).length=l2Len (l.getD 0 0):=by rw[List.length_append,List.length_replicate];omega
  have hg:=good_iff hb2 (by simp[hl]) (by rw[e0];omega);rw[e0,e1,hlen]at hg;rw[beg_full hl];rw[Bool.eq_iff_iff,hg,Bool.not_eq_true',←Bool.not_eq_true];rw[k.2.1]at h h4 hat⊢;have xn:128≤x.toNat∧x.toNat≤191:=by omega
  by_cases h3:l.length=2
  · have e2:2<leadSz (l.getD 0 0)→((l++List.replicate (l2Len (l.getD 0 0)-l.length) x).getD 2 0)=x:=fun _=>by rw[k.2.1];exact hat 2 (by omega) (by omega)
    have e3:3<leadSz (l.getD 0 0)→((l++List.replicate (l2Len (l.getD 0 0)-l.length) x).getD 3 0)=x:=fun _=>by rw[k.2.1];exact hat 3 (by omega) (by omega)
    rw[h3];constructor
    · rintro⟨_,z1,z2,_,_⟩ z
      rw[fullN_no2 (by omega) (by omega) (by omega)]at z;cases z
    · intro z
      refine⟨Nat.le_refl _,?_,?_,fun y=>?_,fun y=>?_⟩
      · rcases Nat.lt_or_ge (l.getD 1 0).toNat (leadLo (l.getD 0 0))with y|y
        · exact absurd (fullN_lo (by omega) y) z
        · exact y
      · rcases Nat.lt_or_ge (leadHi (l.getD 0 0)) (l.getD 1 0).toNat with y|y
        · exact absurd (fullN_hi (by omega) y) z
        · exact y
      · have:=e2 y;rw[k.2.1,h3]at this;rw[this];exact xn
      · have:=e3 y;rw[k.2.1,h3]at this;rw[this];exact xn
  · have h3':l.length=3:=by omega
    have e2:(l++List.replicate (l2Len (l.getD 0 0)-l.length) x).getD 2 0=l.getD 2 0:=getD_app l _ 2 (by omega);have e3:3<leadSz (l.getD 0 0)→((l++List.replicate (l2Len (l.getD 0 0)-l.length) x).getD 3 0)=x:=fun _=>by rw[k.2.1];exact hat 3 (by omega) (by omega)
    rw[k.2.1]at e2 e3;rw[e2,h3'];rw[h3']at e3;constructor
    · rintro⟨_,z1,z2,z3,_⟩ z
      have:=z3 (by omega);rw[fullN_no3 (by omega) (by omega) (by omega) (by omega) (by omega)]at z;cases z
    · intro z
      refine⟨Nat.le_refl _,?_,?_,fun _=>?_,fun y=>?_⟩
      · rcases Nat.lt_or_ge (l.getD 1 0).toNat (leadLo (l.getD 0 0))with y|y
        · exact absurd (fullN_lo (by omega) y) z
        · exact y
      · rcases Nat.lt_or_ge (leadHi (l.getD 0 0)) (l.getD 1 0).toNat with y|y
        · exact absurd (fullN_hi (by omega) y) z
        · exact y
      · rcases Nat.lt_or_ge (l.getD 2 0).toNat 128 with y|y
        · exact absurd (fullN_two (by omega) (.inl y)) z
        · rcases Nat.lt_or_ge 191 (l.getD 2 0).toNat with w|w
          · exact absurd (fullN_two (by omega) (.inr w)) z
          · exact⟨y,w⟩
      · rw[e3 y];exact xn
theorem feed_fst {cs:Int} {h:List Int} {c:Bool} {b:List Int} (hb:Bytes h) (bb:Bytes b):Bytes (feed cs h c b).1∧(feed cs h c b).1.length≤h.length+b.length:=by
  unfold feed;by_cases z:decOk cs h c=true∧c=false
  · rw[if_pos z]
    have k:=(feed_length (beg:=begins cs) (code_reads cs) (h++b)).2;rw[List.length_append]at k;refine⟨?_,k⟩;rcases feed_held (beg:=begins cs) (code_reads cs) (h++b) (hb.append bb)with y|⟨_,_,y⟩
    · rw[y];exact .nil
    · exact y
  · rw[if_neg z];exact⟨hb,by simp only;omega⟩
end Go.Proofs.YtjadcnkelffdgaaDoor.Model
