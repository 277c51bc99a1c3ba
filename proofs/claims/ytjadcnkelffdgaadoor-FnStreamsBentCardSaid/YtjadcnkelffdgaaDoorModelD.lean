/- Bytes of six sets read sign by sign, in plain Lean; no program in sight, no condition beyond those that each lemma names. -/
import Derived.Test.YtjadcnkelffdgaaDoorModelS
namespace Go.Proofs.YtjadcnkelffdgaaDoor.Model
open Go.RowKit Go.Proofs.YtjadcnkelffdgaaDoorW.PrintWords Go.Proofs.YtjadcnkelffdgaaDoor.Base Go.Proofs.YtjadcnkelffdgaaDoor.Xw
def eucGet (l:List Int):Option (Int×Nat):=
  if l=[]then none else if rd l 0≤127 then some (rd l 0,1)else if 1<l.length∧(pairSign (rd l 0) (rd l 1)).2=true then some ((pairSign (rd l 0) (rd l 1)).1,2)else none
def byteGet (cs:Int) (l:List Int):Option (Int×Nat):=if l=[]then none else if(byteSign cs (rd l 0)).2=true then some ((byteSign cs (rd l 0)).1,1)else none
def codeGet (cs:Int) (l:List Int):Option (Int×Nat):=if cs=0 then utfGet l else if cs=5 then eucGet l else byteGet cs l
def signIn (cs:Int) (b:List Int) (p:Int):Int×Int×Bool:=
  if cs=0 then getSign b p else if cs=5 then eucSign b p else((byteSign cs (rd b p)).1,p+1,(byteSign cs (rd b p)).2)
theorem rd_drop (b:List Int) (p i:Nat):rd (b.drop p) (i:Int)=rd b ((p:Int)+(i:Int)):=by
  rw[show(p:Int)+(i:Int)=((p+i:Nat):Int) by omega,rd_nat,rd_nat,List.getD_eq_getElem?_getD,List.getElem?_drop,←List.getD_eq_getElem?_getD]
theorem drop_ne {b:List Int} {p:Nat} (h:p<b.length):b.drop p≠[]:=by intro z;have:=congrArg List.length z;simp at this;omega
theorem signIn_at (cs:Int) (b:List Int) (p:Nat) (h:p<b.length):
    (∃n k,codeGet cs (b.drop p)=some (n,k)∧signIn cs b (p:Int)=(n,((p+k:Nat):Int),true))∨(codeGet cs (b.drop p)=none∧(signIn cs b (p:Int)).2.2=false):=by
  have hne:=drop_ne h;have r0:rd (b.drop p) 0=rd b (p:Int):=by have:=rd_drop b p 0;simpa using this
  have r1:rd (b.drop p) 1=rd b ((p:Int)+1):=by have:=rd_drop b p 1;simpa using this
  unfold codeGet signIn;by_cases c0:cs=0
  · rw[if_pos c0,if_pos c0]
    by_cases he:decL (b.drop p)=(65533,1)
    · right
      refine⟨utfGet_none hne he,?_⟩;unfold getSign;rw[if_pos (by omega),Int.toNat_natCast,if_pos he]
    · left
      refine⟨_,_,utfGet_some hne he,?_⟩;unfold getSign;rw[if_pos (by omega),Int.toNat_natCast,if_neg he];simp
  · rw[if_neg c0,if_neg c0]
    by_cases c5:cs=5
    · rw[if_pos c5,if_pos c5]
      unfold eucGet eucSign;rw[if_neg hne,if_pos (show(0:Int)≤p∧(p:Int)<b.length by omega),r0,r1];by_cases h1:rd b (p:Int)≤127
      · rw[if_pos h1,if_pos h1];exact .inl ⟨_,_,rfl,by simp⟩
      · rw[if_neg h1,if_neg h1]
        by_cases h2:(p:Int)+1<b.length∧(pairSign (rd b (p:Int)) (rd b ((p:Int)+1))).2=true
        · rw[if_pos h2,if_pos ⟨by rw[List.length_drop];omega,h2.2⟩];exact .inl ⟨_,_,rfl,by simp⟩
        · rw[if_neg h2,if_neg (by rintro⟨z1,z2⟩;rw[List.length_drop]at z1;exact h2 ⟨by omega,z2⟩)];exact .inr ⟨rfl,rfl⟩
    · rw[if_neg c5,if_neg c5]
      unfold byteGet;rw[if_neg hne,r0];by_cases h2:(byteSign cs (rd b (p:Int))).2=true
      · rw[if_pos h2,h2];exact .inl ⟨_,_,rfl,by simp⟩
      · rw[if_neg h2];exact .inr ⟨rfl,Bool.eq_false_iff.2 h2⟩
theorem code_reads (cs:Int):Reads (codeGet cs) where
  pos:=by
    intro l n k hl h;have h1:1≤l.length:=by cases l with|nil=>exact absurd rfl hl|cons=>simp
    unfold codeGet at h;by_cases c0:cs=0
    · rw[if_pos c0]at h;exact utf_codes.toReads.pos hl h
    · rw[if_neg c0]at h
      by_cases c5:cs=5
      · rw[if_pos c5]at h
        unfold eucGet at h;rw[if_neg hl]at h;by_cases h2:rd l 0≤127
        · rw[if_pos h2]at h;injection h with h;injection h with _ h;omega
        · rw[if_neg h2]at h
          by_cases h3:1<l.length∧(pairSign (rd l 0) (rd l 1)).2=true
          · rw[if_pos h3]at h;injection h with h;injection h with _ h;omega
          · rw[if_neg h3]at h;cases h
      · rw[if_neg c5]at h
        unfold byteGet at h;rw[if_neg hl]at h;by_cases h2:(byteSign cs (rd l 0)).2=true
        · rw[if_pos h2]at h;injection h with h;injection h with _ h;omega
        · rw[if_neg h2]at h;cases h
end Go.Proofs.YtjadcnkelffdgaaDoor.Model
