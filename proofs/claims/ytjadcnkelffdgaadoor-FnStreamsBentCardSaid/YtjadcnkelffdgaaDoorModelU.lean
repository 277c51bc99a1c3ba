/- Signs of today out of bytes, in plain Lean: one sign at the front of a list of bytes ('decL', the library's own decodeN), that it is just what a sign's bytes give, and the list of all signs; no program in sight, no condition beyond those that each lemma names. -/
import Derived.Test.YtjadcnkelffdgaaDoorModel
import Derived.Test.YtjadcnkelffdgaaDoorXw
import Derived.Lib.DecodeN
namespace Go.Proofs.YtjadcnkelffdgaaDoor.Model
open Go.RowKit Go.Proofs.YtjadcnkelffdgaaDoorW.PrintWords Go.Proofs.YtjadcnkelffdgaaDoor.Base Go.Proofs.YtjadcnkelffdgaaDoor.Xw
def decL (l:List Int):Nat×Nat:=Lib.decodeN l.length (l.getD 0 0).toNat (l.getD 1 0).toNat (l.getD 2 0).toNat (l.getD 3 0).toNat
def fullN (n m1 m2 sz lo hi:Nat):Bool:=if sz≤n then true else if 1<n∧(m1<lo∨hi<m1)then true else if 2<n∧(m2<128∨191<m2)then true else false
def fullR (l:List Int):Bool:=if l=[]then false else fullN l.length (l.getD 1 0).toNat (l.getD 2 0).toNat (Lib.firstT (l.getD 0 0).toNat%8) (Lib.accLo (Lib.firstT (l.getD 0 0).toNat/16)) (Lib.accHi (Lib.firstT (l.getD 0 0).toNat/16))
section
variable {n m1 m2 sz lo hi:Nat}
theorem fullN_ge (h:sz≤n):fullN n m1 m2 sz lo hi=true:=by unfold fullN;rw[if_pos h]
theorem fullN_lo (h:1<n) (h1:m1<lo):fullN n m1 m2 sz lo hi=true:=by
  unfold fullN;by_cases z:sz≤n
  · rw[if_pos z]
  · rw[if_neg z,if_pos ⟨h,.inl h1⟩]
theorem fullN_hi (h:1<n) (h1:hi<m1):fullN n m1 m2 sz lo hi=true:=by
  unfold fullN;by_cases z:sz≤n
  · rw[if_pos z]
  · rw[if_neg z,if_pos ⟨h,.inr h1⟩]
theorem fullN_two (h:2<n) (h1:m2<128∨191<m2):fullN n m1 m2 sz lo hi=true:=by
  unfold fullN;by_cases z:sz≤n
  · rw[if_pos z]
  · rw[if_neg z]
    by_cases y:1<n∧(m1<lo∨hi<m1)
    · rw[if_pos y]
    · rw[if_neg y,if_pos ⟨h,h1⟩]
theorem fullN_no1 (h:1<sz):fullN 1 m1 m2 sz lo hi=false:=by unfold fullN;rw[if_neg (by omega),if_neg (by omega),if_neg (by omega)]
theorem fullN_no2 (h:2<sz) (h1:¬m1<lo) (h2:¬hi<m1):fullN 2 m1 m2 sz lo hi=false:=by unfold fullN;rw[if_neg (by omega),if_neg (by omega),if_neg (by omega)]
theorem fullN_no3 (h:3<sz) (h1:¬m1<lo) (h2:¬hi<m1) (h3:¬m2<128) (h4:¬191<m2):fullN 3 m1 m2 sz lo hi=false:=by unfold fullN;rw[if_neg (by omega),if_neg (by omega),if_neg (by omega)]
end
def getSign (b:List Int) (p:Int):Int×Int×Bool:=
  if 0≤p∧p<b.length then
    if decL (b.drop p.toNat)=(65533,1)then(0,0,false)else((decL (b.drop p.toNat)).1,p+(decL (b.drop p.toNat)).2,true)
  else(0,0,false)
theorem enc_cases {n:Int} (h:signOk n=true):(0≤n∧n≤127∧enc n=[n])∨(128≤n∧n≤2047∧enc n=[192+n/64,128+n%64])∨
    (2048≤n∧n≤65535∧(n≤55295∨57344≤n)∧enc n=[224+n/4096,128+n/64%64,128+n%64])∨
    (65536≤n∧n≤1114111∧enc n=[240+n/262144,128+n/4096%64,128+n/64%64,128+n%64]):=by
  have hr:=signOk_iff.1 h;unfold enc;by_cases h1:n≤127
  · rw[if_pos h1];exact .inl ⟨by omega,h1,rfl⟩
  · by_cases h2:n≤2047
    · rw[if_neg h1,if_pos h2];exact .inr (.inl ⟨by omega,h2,rfl⟩)
    · by_cases h3:n≤65535
      · rw[if_neg h1,if_neg h2,if_pos h3];exact .inr (.inr (.inl ⟨by omega,h3,by omega,rfl⟩))
      · rw[if_neg h1,if_neg h2,if_neg h3];exact .inr (.inr (.inr ⟨by omega,by omega,rfl⟩))
theorem enc_bytes {n:Int} (h:signOk n=true):Bytes (enc n):=by
  rcases enc_cases h with ⟨a,b,e⟩|⟨a,b,e⟩|⟨a,b,c,e⟩|⟨a,b,e⟩
  · rw[e];exact .cons (by omega) (by omega) .nil
  · rw[e];exact .cons (by omega) (by omega) (.cons (by omega) (by omega) .nil)
  · rw[e];exact .cons (by omega) (by omega) (.cons (by omega) (by omega) (.cons (by omega) (by omega) .nil))
  · rw[e];exact .cons (by omega) (by omega) (.cons (by omega) (by omega) (.cons (by omega) (by omega) (.cons (by omega) (by omega) .nil)))
theorem enc_pos (n:Int):1≤(enc n).length:=by
  unfold enc;by_cases h1:n≤127
  · rw[if_pos h1];simp
  · by_cases h2:n≤2047
    · rw[if_neg h1,if_pos h2];simp
    · by_cases h3:n≤65535
      · rw[if_neg h1,if_neg h2,if_pos h3];simp
      · rw[if_neg h1,if_neg h2,if_neg h3];simp
theorem decL_enc {n:Int} (h:signOk n=true) (r:List Int):decL (enc n++r)=(n.toNat,(enc n).length):=by
  unfold decL;rcases enc_cases h with ⟨a,b,e⟩|⟨a,b,e⟩|⟨a,b,c,e⟩|⟨a,b,e⟩
  · rw[e]
    obtain⟨m,rfl⟩:=Int.eq_ofNat_of_zero_le a;simp only[List.cons_append,List.nil_append,List.getD_cons_zero,List.length_cons,List.length_nil,Int.toNat_natCast];unfold Lib.decodeN;rw[if_pos (by omega)]
  · rw[e]
    obtain⟨m,rfl⟩:=Int.eq_ofNat_of_zero_le (show 0≤n by omega);have e0:(192+(m:Int)/64).toNat=192+m/64:=by omega
    have e1:(128+(m:Int)%64).toNat=128+m%64:=by omega
    simp only[List.cons_append,List.nil_append,List.getD_cons_zero,List.getD_cons_succ,List.length_cons,List.length_nil,Int.toNat_natCast,e0,e1];unfold Lib.decodeN;rw[if_neg (by omega),if_pos (by omega),if_pos (by omega)];exact Prod.ext (by simp only;omega) (by rfl)
  · rw[e]
    obtain⟨m,rfl⟩:=Int.eq_ofNat_of_zero_le (show 0≤n by omega);have e0:(224+(m:Int)/4096).toNat=224+m/4096:=by omega
    have e1:(128+(m:Int)/64%64).toNat=128+m/64%64:=by omega
    have e2:(128+(m:Int)%64).toNat=128+m%64:=by omega
    simp only[List.cons_append,List.nil_append,List.getD_cons_zero,List.getD_cons_succ,List.length_cons,List.length_nil,Int.toNat_natCast,e0,e1,e2];unfold Lib.decodeN;rw[if_neg (by omega),if_neg (by omega),if_pos (by omega),if_pos (by omega)];exact Prod.ext (by simp only;omega) (by rfl)
  · rw[e]
    obtain⟨m,rfl⟩:=Int.eq_ofNat_of_zero_le (show 0≤n by omega);have e0:(240+(m:Int)/262144).toNat=240+m/262144:=by omega
    have e1:(128+(m:Int)/4096%64).toNat=128+m/4096%64:=by omega
    have e2:(128+(m:Int)/64%64).toNat=128+m/64%64:=by omega
    have e3:(128+(m:Int)%64).toNat=128+m%64:=by omega
    simp only[List.cons_append,List.nil_append,List.getD_cons_zero,List.getD_cons_succ,List.length_cons,List.length_nil,Int.toNat_natCast,e0,e1,e2,e3];unfold Lib.decodeN;rw[if_neg (by omega),if_neg (by omega),if_neg (by omega),if_pos (by omega),if_pos (by omega)];exact Prod.ext (by simp only;omega) (by rfl)
theorem decL_sound (l:List Int) (hb:Bytes l) (hl:l≠[]) (h:decL l≠(65533,1)):
    signOk (decL l).1=true∧l=enc (decL l).1++l.drop (decL l).2∧(enc (decL l).1).length=(decL l).2:=by
  obtain⟨a,l1,rfl⟩:=List.exists_cons_of_ne_nil hl;have ha:=hb a (by simp);obtain⟨a,rfl⟩:=Int.eq_ofNat_of_zero_le ha.1
  have key:∀(n b0 b1 b2 b3:Nat),b0≤255→b1≤255→b2≤255→b3≤255→Lib.decodeN n b0 b1 b2 b3≠(65533,1)→1≤n→
      (b0≤127∧Lib.decodeN n b0 b1 b2 b3=(b0,1))∨
      (∃m:Nat,128≤m∧m≤2047∧Lib.decodeN n b0 b1 b2 b3=(m,2)∧2≤n∧b0=192+m/64∧b1=128+m%64)∨
      (∃m:Nat,2048≤m∧m≤65535∧(m≤55295∨57344≤m)∧Lib.decodeN n b0 b1 b2 b3=(m,3)∧3≤n∧b0=224+m/4096∧b1=128+m/64%64∧b2=128+m%64)∨
      (∃m:Nat,65536≤m∧m≤1114111∧Lib.decodeN n b0 b1 b2 b3=(m,4)∧4≤n∧b0=240+m/262144∧b1=128+m/4096%64∧b2=128+m/64%64∧b3=128+m%64):=by
    intro n b0 b1 b2 b3 h0 h1 h2 h3 hne hn;unfold Lib.decodeN at hne⊢;by_cases c1:b0<128
    · rw[if_pos c1]at hne⊢;exact .inl ⟨by omega,rfl⟩
    · rw[if_neg c1]at hne⊢
      by_cases c2:b0/32=6∧(1<n∧b1/64=2)
      · rw[if_pos c2]at hne⊢
        by_cases c3:b0%32*64+b1%64≥128
        · rw[if_pos c3];exact .inr (.inl ⟨_,c3,by omega,rfl,by omega,by omega,by omega⟩)
        · rw[if_neg c3]at hne;exact absurd rfl hne
      · rw[if_neg c2]at hne⊢
        by_cases c3:b0/16=14∧(1<n∧b1/64=2)∧(2<n∧b2/64=2)
        · rw[if_pos c3]at hne⊢
          by_cases c4:b0%16*4096+b1%64*64+b2%64≥2048∧(b0%16*4096+b1%64*64+b2%64<55296∨(57344≤b0%16*4096+b1%64*64+b2%64∧b0%16*4096+b1%64*64+b2%64≤1114111))
          · rw[if_pos c4];exact .inr (.inr (.inl ⟨_,c4.1,by omega,by omega,rfl,by omega,by omega,by omega,by omega⟩))
          · rw[if_neg c4]at hne;exact absurd rfl hne
        · rw[if_neg c3]at hne⊢
          by_cases c4:b0/8=30∧(1<n∧b1/64=2)∧(2<n∧b2/64=2)∧(3<n∧b3/64=2)
          · rw[if_pos c4]at hne⊢
            by_cases c5:b0%8*262144+b1%64*4096+b2%64*64+b3%64≥65536∧(b0%8*262144+b1%64*4096+b2%64*64+b3%64<55296∨(57344≤b0%8*262144+b1%64*4096+b2%64*64+b3%64∧b0%8*262144+b1%64*4096+b2%64*64+b3%64≤1114111))
            · rw[if_pos c5];exact .inr (.inr (.inr ⟨_,c5.1,by omega,rfl,by omega,by omega,by omega,by omega,by omega⟩))
            · rw[if_neg c5]at hne;exact absurd rfl hne
          · rw[if_neg c4]at hne;exact absurd rfl hne
  have hg:∀i,((((a:Int)::l1).getD i 0).toNat:Int)=((a:Int)::l1).getD i 0∧(((a:Int)::l1).getD i 0).toNat≤255:=by
    intro i;have:=hb.rd (i:Int);rw[rd_nat]at this
    omega
  unfold decL at h⊢;have hlen:1≤((a:Int)::l1).length:=by simp
  have g0:=hg 0;have g1:=hg 1;have g2:=hg 2;have g3:=hg 3;rcases key _ _ _ _ _ g0.2 g1.2 g2.2 g3.2 h hlen with ⟨c,e⟩|⟨m,c1,c2,e,cn,e0,e1⟩|⟨m,c1,c2,c3,e,cn,e0,e1,e2⟩|⟨m,c1,c2,e,cn,e0,e1,e2,e3⟩
  · rw[e]
    simp only[List.getD_cons_zero,Int.toNat_natCast]at c⊢;refine⟨signOk_iff.2 (by omega),?_,?_⟩
    · unfold enc;rw[if_pos (by omega)];rfl
    · unfold enc;rw[if_pos (by omega)];rfl
  · rw[e]
    match l1,hb,cn,g0,g1,e0,e1 with
    |[],_,cn,_,_,_,_=>simp at cn
    |x1::t,_,_,g0,g1,e0,e1=>
      simp only[List.getD_cons_zero,List.getD_cons_succ,Int.toNat_natCast]at g0 g1 e0 e1;have hs:signOk (m:Int)=true:=signOk_iff.2 (by omega)
      have he:enc (m:Int)=[(a:Int),x1]:=by
        unfold enc;rw[if_neg (by omega),if_pos (by omega)];congr 1
        · omega
        · congr 1;omega
      exact⟨hs,by rw[he];rfl,by rw[he];rfl⟩
  · rw[e]
    match l1,hb,cn,g0,g1,g2,e0,e1,e2 with
    |[],_,cn,_,_,_,_,_,_=>simp at cn
    |[_],_,cn,_,_,_,_,_,_=>simp at cn
    |x1::x2::t,_,_,g0,g1,g2,e0,e1,e2=>
      simp only[List.getD_cons_zero,List.getD_cons_succ,Int.toNat_natCast]at g0 g1 g2 e0 e1 e2;have hs:signOk (m:Int)=true:=signOk_iff.2 (by omega)
      have he:enc (m:Int)=[(a:Int),x1,x2]:=by
        unfold enc;rw[if_neg (by omega),if_neg (by omega),if_pos (by omega)];congr 1
        · omega
        · congr 1
          · omega
          · congr 1;omega
      exact⟨hs,by rw[he];rfl,by rw[he];rfl⟩
  · rw[e]
    match l1,hb,cn,g0,g1,g2,g3,e0,e1,e2,e3 with
    |[],_,cn,_,_,_,_,_,_,_,_=>simp at cn
    |[_],_,cn,_,_,_,_,_,_,_,_=>simp at cn
    |[_,_],_,cn,_,_,_,_,_,_,_,_=>simp at cn
    |x1::x2::x3::t,_,_,g0,g1,g2,g3,e0,e1,e2,e3=>
      simp only[List.getD_cons_zero,List.getD_cons_succ,Int.toNat_natCast]at g0 g1 g2 g3 e0 e1 e2 e3;have hs:signOk (m:Int)=true:=signOk_iff.2 (by omega)
      have he:enc (m:Int)=[(a:Int),x1,x2,x3]:=by
        unfold enc;rw[if_neg (by omega),if_neg (by omega),if_neg (by omega)];congr 1
        · omega
        · congr 1
          · omega
          · congr 1
            · omega
            · congr 1;omega
      exact⟨hs,by rw[he];rfl,by rw[he];rfl⟩
theorem numsOf_bytes (s:ByteArray):Bytes (numsOf s):=fun x hx=>by
  obtain⟨b,_,rfl⟩:=List.mem_map.1 hx;have:=b.toNat_lt;omega
theorem strOfNums_numsOf (s:ByteArray):strOfNums (numsOf s)=s:=by
  simp only[strOfNums,numsOf,List.map_map]
  have:(fun n:Int=>UInt8.ofNat n.toNat)∘(fun b:UInt8=>(b.toNat:Int))=id:=by
    funext b;simp
  rw[this,List.map_id]
theorem numsOf_strOfNums {l:List Int} (h:Bytes l):numsOf (strOfNums l)=l:=by
  simp only[strOfNums,numsOf,List.map_map]
  have:∀x∈l,((fun b:UInt8=>(b.toNat:Int))∘fun n:Int=>UInt8.ofNat n.toNat) x=id x:=fun x hx=>by
    have:=h x hx;simp only[Function.comp,id,UInt8.toNat_ofNat'];omega
  rw[List.map_congr_left this,List.map_id]
theorem strOfNums_inj {a b:List Int} (ha:Bytes a) (hb:Bytes b) (h:(strOfNums a).toList=(strOfNums b).toList):a=b:=by
  rw[ByteArray.toList_eq,ByteArray.toList_eq]at h;rw[←numsOf_strOfNums ha,←numsOf_strOfNums hb];simp only[numsOf,h]
def l2Len (a:Int):Nat:=if a<128 then 1 else if 194≤a∧a≤223 then 2 else if 224≤a∧a≤239 then 3 else if 240≤a∧a≤244 then 4 else 0
theorem l2Len_le (a:Int):l2Len a≤4:=by
  unfold l2Len;by_cases h1:a<128
  · rw[if_pos h1];omega
  · by_cases h2:194≤a∧a≤223
    · rw[if_neg h1,if_pos h2];omega
    · by_cases h3:224≤a∧a≤239
      · rw[if_neg h1,if_neg h2,if_pos h3];omega
      · by_cases h4:240≤a∧a≤244
        · rw[if_neg h1,if_neg h2,if_neg h3,if_pos h4];omega
        · rw[if_neg h1,if_neg h2,if_neg h3,if_neg h4];omega
set_option maxRecDepth 100000 in
theorem and192_fin:∀x:Fin 256,Go.bits .and .u8 ((x.val:Nat):Int) 192=((x.val/64*64:Nat):Int):=by decide
theorem and192 {x:Int} (h0:0≤x) (h1:x≤255):Go.bits .and .u8 x 192=x/64*64:=by
  obtain⟨m,rfl⟩:=Int.eq_ofNat_of_zero_le h0;have:=and192_fin ⟨m,by omega⟩;simp only at this
  rw[this];omega
theorem decL_none {l:List Int} {n:Int} {k:Nat} (h:decL l=(65533,1)) (hs:signOk n=true) (he:enc n=l.take k):False:=by
  have hl:l=enc n++l.drop k:=by rw[he,List.take_append_drop]
  rw[hl,decL_enc hs]at h;injection h with h1 h2
  have hn:n=65533:=by have:=signOk_iff.1 hs;omega
  subst hn;exact absurd h2 (by decide)
end Go.Proofs.YtjadcnkelffdgaaDoor.Model
