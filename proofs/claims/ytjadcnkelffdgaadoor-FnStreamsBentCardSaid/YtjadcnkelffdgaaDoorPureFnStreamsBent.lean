/- The law FnStreamsBent answers true at every code: of drawn states, bent or not, what comes of bytes is as the reference has it. -/
import Derived.Test.YtjadcnkelffdgaaDoorQFnStreamsBentx14
import Derived.Test.YtjadcnkelffdgaaDoorModel
import Derived.Test.YtjadcnkelffdgaaDoorModelA
import Derived.Test.YtjadcnkelffdgaaDoorModelC
import Derived.Test.YtjadcnkelffdgaaDoorModelD
import Derived.Test.YtjadcnkelffdgaaDoorModelE
import Derived.Test.YtjadcnkelffdgaaDoorModelF
import Derived.Test.YtjadcnkelffdgaaDoorModelG
import Derived.Test.YtjadcnkelffdgaaDoorModelH
import Derived.Test.YtjadcnkelffdgaaDoorModelS
import Derived.Test.YtjadcnkelffdgaaDoorModelT
import Derived.Test.YtjadcnkelffdgaaDoorModelU
namespace Go.Proofs.YtjadcnkelffdgaaDoor.Pure
open Go.RowKit Go.Proofs.YtjadcnkelffdgaaDoor.QFnStreamsBent Go.Proofs.YtjadcnkelffdgaaDoorW.PrintWords Go.Proofs.YtjadcnkelffdgaaDoorW.PrintLast Go.Proofs.YtjadcnkelffdgaaDoor.Ext Go.Proofs.YtjadcnkelffdgaaDoor.Xw Go.Proofs.YtjadcnkelffdgaaDoor.Base Go.Proofs.YtjadcnkelffdgaaDoor.Model
theorem laws_big_eq (c:List Int):laws_big.f c=some (decide ((c.length:Int)>1048576)):=rfl
theorem l1New_l0 (c:List Int) (_hl:c.length≤4611686018427387904) (d:Nat):∀(i:Nat) (h:Int),i+d=c.length→ ∃h',Ev (fun k=>spec_l1New.l0 k c h (i:Int)) (c,0,h'):=by
  induction d with
  |zero=>
    intro i h hi;refine⟨h,ev_shift ?_⟩;simp only[spec_l1New.l0];exact ev_neg (by omega) (Ev.now _)
  |succ d ih=>
    intro i h hi;by_cases h4:(i:Int)<4000
    · obtain⟨h',e⟩:=ih (i+1) (Go.bits .and .i64 (wrap64 ((wrap64 ((wrap64 (h*137))+(wrap64 (rd c (i:Int)))))+11)) 1073741823) (by omega)
      refine⟨h',ev_shift ?_⟩;simp only[spec_l1New.l0,next_nat i (by omega)];exact ev_pos (by omega) (ev_pos h4 (ev_pos (by omega) e))
    · refine⟨h,ev_shift ?_⟩
      simp only[spec_l1New.l0];exact ev_pos (by omega) (ev_neg h4 (Ev.now _))
theorem l1New_ev (c:List Int) (hl:c.length≤4611686018427387904):∃h,Ev (fun k=>spec_l1New.f k c) (c,0,h):=l1New_l0 c hl c.length 0 _ (by omega)
theorem l1Byte_ok (c:List Int) (i h:Int) (hi:0≤i) (hl:c.length≤4611686018427387904):∃x i' h',spec_l1Byte.f c i h=some (x,i',h')∧0≤i'∧0≤x∧x≤255:=by
  unfold spec_l1Byte.f;by_cases h1:i<(c.length:Int)
  · rw[if_pos h1,if_pos hi,and_255,w64 (x:=i+1) (by omega) (by omega)]
    exact⟨_,_,_,rfl,by omega,by omega,by omega⟩
  · rw[if_neg h1,and_255]
    exact⟨_,_,_,rfl,hi,by omega,by omega⟩
theorem l1Below_ok (c:List Int) (i h n:Int) (hi:0≤i) (hl:c.length≤4611686018427387904):∃x i' h',spec_l1Below.f c i h n=some (x,i',h')∧0≤i'∧0≤x∧(n≤0→x=0)∧(0<n→x<n):=by
  unfold spec_l1Below.f;by_cases h1:n≤0
  · rw[if_pos h1];exact⟨0,i,h,rfl,hi,by omega,fun _=>rfl,fun z=>by omega⟩
  · rw[if_neg h1]
    obtain⟨x,i1,g1,e1,p1,q1,r1⟩:=l1Byte_ok c i h hi hl;rw[e1];simp only[Option.bind_some];by_cases h2:n≤256
    · rw[if_pos h2,if_neg (by omega),Int.tmod_eq_emod_of_nonneg q1]
      exact⟨_,_,_,rfl,p1,Int.emod_nonneg _ (by omega),fun z=>absurd z h1,fun z=>Int.emod_lt_of_pos _ z⟩
    · rw[if_neg h2]
      obtain⟨y,i2,g2,e2,p2,q2,r2⟩:=l1Byte_ok c i1 g1 p1 hl;rw[e2];simp only[Option.bind_some];obtain⟨z,i3,g3,e3,p3,q3,r3⟩:=l1Byte_ok c i2 g2 p2 hl;rw[e3];simp only[Option.bind_some];rw[if_neg (by omega),w64 (x:=x*65536) (by omega) (by omega),w64 (x:=y*256) (by omega) (by omega),w64 (x:=x*65536+y*256) (by omega) (by omega),w64 (x:=x*65536+y*256+z) (by omega) (by omega),Int.tmod_eq_emod_of_nonneg (by omega)];exact⟨_,_,_,rfl,p3,Int.emod_nonneg _ (by omega),fun z=>absurd z h1,fun z=>Int.emod_lt_of_pos _ z⟩
theorem l1Int_ok (c:List Int) (i h:Int) (l:List Int) (hi:0≤i) (hl:c.length≤4611686018427387904) (hn:l≠[]):∃x i' h',spec_l1Int.f c i h l=some (x,i',h')∧0≤i'∧x∈l:=by
  have h1:0<l.length:=List.length_pos_iff.2 hn;unfold spec_l1Int.f;obtain⟨x,i1,g1,e1,p1,q1,_,r1⟩:=l1Below_ok c i h l.length hi hl;have r2:=r1 (by omega);rw[e1];simp only[Option.bind_some];rw[if_pos q1,if_pos r2];obtain⟨m,rfl⟩:=Int.eq_ofNat_of_zero_le q1;rw[rd_lt l m (by omega)];exact⟨_,_,_,rfl,p1,List.getElem_mem _⟩
theorem l3Any_ok (c:List Int) (i h:Int) (hi:0≤i) (hl:c.length≤4611686018427387904):∃x i' h',spec_l3Any.f c i h=some (x,i',h')∧0≤i'∧x∈([0,1,2,3,4,5,6,(-1)]:List Int):=by
  unfold spec_l3Any.f;obtain⟨x,i1,g1,e1,p1,q1⟩:=l1Int_ok c i h [0,1,2,3,4,5,6,(-1)] hi hl (by simp);rw[e1];exact⟨_,_,_,rfl,p1,q1⟩
theorem spec_l1In_eq (a b c:Int):spec_l1In.f a b c=some (inR a b c):=by
  unfold spec_l1In.f inR;by_cases h:a≥b<;>simp[h]
theorem spec_SignOk_eq (n:Int):spec_SignOk.f n=some (signOk n):=by
  unfold spec_SignOk.f signOk;simp only[spec_l1In_eq,Option.bind_some];cases inR n 0 1114111<;>simp
theorem spec_PutSign_eq (b:List Int) (n:Int) (h:b.length+4<140737488355328):spec_PutSign.f b n=some (putSign b n):=by
  have hb:b.length<140737488355328:=by omega
  unfold spec_PutSign.f putSign encOk;simp only[Option.bind_some,List.length_nil,Nat.zero_add,List.nil_append,if_pos hb,spec_SignOk_eq];by_cases h1:signOk n=true
  · have hr:=signOk_iff.1 h1
    rw[if_pos h1,if_pos h1];unfold enc;simp only[and_63,List.length_cons,List.length_nil];by_cases h2:n≤127
    · rw[if_pos h2,if_pos h2,show n%256=n by omega]
    · by_cases h3:n≤2047
      · rw[if_neg h2,if_pos h3,if_neg h2,if_pos h3,or_192 (by omega) (by omega),or_128 (by omega) (by omega),if_pos (by omega),show(192+n/64)%256=192+n/64 by omega,show(128+n%64)%256=128+n%64 by omega]
      · by_cases h4:n≤65535
        · rw[if_neg h2,if_neg h3,if_pos h4,if_neg h2,if_neg h3,if_pos h4,or_224 (by omega) (by omega),or_128 (by omega) (by omega),or_128 (by omega) (by omega),if_pos (by omega),show(224+n/4096)%256=224+n/4096 by omega,show(128+n/64%64)%256=128+n/64%64 by omega,show(128+n%64)%256=128+n%64 by omega]
        · rw[if_neg h2,if_neg h3,if_neg h4,if_neg h2,if_neg h3,if_neg h4,or_240 (by omega) (by omega),or_128 (by omega) (by omega),or_128 (by omega) (by omega),or_128 (by omega) (by omega),if_pos (by omega),show(240+n/262144)%256=240+n/262144 by omega,show(128+n/4096%64)%256=128+n/4096%64 by omega,show(128+n/64%64)%256=128+n/64%64 by omega,show(128+n%64)%256=128+n%64 by omega]
  · rw[if_neg h1,if_neg h1];simp
theorem spec_l2Len_eq (a:Int) (h0:0≤a) (h1:a≤255):spec_l2Len.f a=some ((l2Len a:Nat):Int):=by
  unfold spec_l2Len.f l2Len;rw[w64 (by omega) (by omega)];simp only[spec_l1In_eq,Option.bind_some,inR_true];by_cases c1:a<128
  · rw[if_pos c1,if_pos c1];rfl
  · by_cases c2:194≤a∧a≤223
    · rw[if_neg c1,if_pos c2,if_neg c1,if_pos c2];rfl
    · by_cases c3:224≤a∧a≤239
      · rw[if_neg c1,if_neg c2,if_pos c3,if_neg c1,if_neg c2,if_pos c3];rfl
      · by_cases c4:240≤a∧a≤244
        · rw[if_neg c1,if_neg c2,if_neg c3,if_pos c4,if_neg c1,if_neg c2,if_neg c3,if_pos c4];rfl
        · rw[if_neg c1,if_neg c2,if_neg c3,if_neg c4,if_neg c1,if_neg c2,if_neg c3,if_neg c4];rfl
def endSign (b:List Int) (p k:Nat) (n:Int):Int×Int×Bool:=if signOk n=true∧enc n=(b.drop p).take k then(n,(p:Int)+k,true)else(0,0,false)
theorem spec_GetSign_end (b:List Int) (p k:Nat) (n:Int) (hpk:p+k≤b.length) (hb:Bytes b) (hl:b.length≤4611686018427387904):
    Ev (fun f=>spec_GetSign.l0 f b (p:Int) (k:Int) n (k:Int)) (endSign b p k n):=by
  refine ev_shift ?_;have e:wrap64 ((p:Int)+(k:Int))=((p+k:Nat):Int):=by rw[w64 (by omega) (by omega)];omega
  have e2:(b.take (p+k)).drop p=(b.drop p).take k:=by rw[List.drop_take];congr 1;omega
  simp only[spec_GetSign.l0,e,Int.toNat_natCast,e2];refine ev_neg (by omega) (ev_call (spec_SignOk_eq n) ?_);unfold endSign;by_cases hs:signOk n=true
  · refine ev_pos hs (ev_call (spec_PutSign_eq [] n (by simp)) (ev_pos (by omega) (ev_pos (by omega) (ev_pos (by omega) ?_))))
    have e3:putSign [] n=enc n:=by unfold putSign encOk;rw[if_pos hs];rfl
    rw[e3];by_cases he:enc n=(b.drop p).take k
    · have hE:(if signOk n=true∧enc n=(b.drop p).take k then(n,(p:Int)+(k:Int),true)else(0,0,false))=(n,(p:Int)+(k:Int),true):=if_pos ⟨hs,he⟩
      rw[hE];exact ev_pos (by rw[he]) (ev_is (Ev.now _) (by simp))
    · have hE:(if signOk n=true∧enc n=(b.drop p).take k then(n,(p:Int)+(k:Int),true)else(0,0,false))=(0,0,false):=if_neg (fun z=>he z.2)
      rw[hE];exact ev_neg (fun z=>he (strOfNums_inj (enc_bytes hs) ((hb.drop p).take k) z)) (Ev.now _)
  · have hE:(if signOk n=true∧enc n=(b.drop p).take k then(n,(p:Int)+(k:Int),true)else(0,0,false))=(0,0,false):=if_neg (fun z=>hs z.1)
    rw[hE];exact ev_neg hs (Ev.now _)
def contSign (b:List Int) (p k:Nat):Nat→Nat→Int→Int×Int×Bool
  |0,_,n=>endSign b p k n
  |d+1,i,n=>if b.getD (p+i) 0/64=2 then contSign b p k d (i+1) (Go.bits .or .i64 (wrap64 (n*64)) (b.getD (p+i) 0%64))else(0,0,false)
theorem spec_GetSign_l0 (b:List Int) (p k:Nat) (hpk:p+k≤b.length) (hb:Bytes b) (hl:b.length≤4611686018427387904) (d:Nat):
    ∀(i:Nat) (n:Int),i+d=k→Ev (fun f=>spec_GetSign.l0 f b (p:Int) (k:Int) n (i:Int)) (contSign b p k d i n):=by
  induction d with
  |zero=>intro i n h;obtain rfl:i=k:=(by omega);exact spec_GetSign_end b p i n hpk hb hl
  |succ d ih=>
    intro i n h;refine ev_shift ?_;have e:wrap64 ((p:Int)+(i:Int))=((p+i:Nat):Int):=by rw[w64 (by omega) (by omega)];omega
    have hr:=hb.rd ((p+i:Nat):Int);rw[rd_nat]at hr;have e2:wrap64 (Go.bits .and .u8 (b.getD (p+i) 0) 63)=b.getD (p+i) 0%64:=by rw[u8_and63 _ (by omega) (by omega),w64 (by omega) (by omega)]
    simp only[spec_GetSign.l0,e,rd_nat,and192 hr.1 hr.2,e2,next_nat i (by omega)];refine ev_pos (by omega) (ev_pos (by omega) (ev_pos (by omega) ?_));unfold contSign;by_cases hc:b.getD (p+i) 0/64=2
    · rw[if_pos hc];exact ev_pos (by omega) (ih (i+1) _ (by omega))
    · rw[if_neg hc];exact ev_neg (by omega) (Ev.now _)
theorem u64_small (n:Nat) (h:n≤4):IntKind.u64.wrap (n:Int)=(n:Int):=by
  simp[IntKind.wrap,IntKind.bits,IntKind.signed];omega
def headSign (a:Int):Int:=if l2Len a>1 then Go.bits .and .i64 a (shr .i64 127 (IntKind.u64.wrap (l2Len a:Int)))else a
theorem spec_GetSign_walk (b:List Int) (p:Nat) (hb:Bytes b) (hl:b.length≤4611686018427387904) (hp:p<b.length):
    Ev (fun f=>spec_GetSign.f f b (p:Int)) (if l2Len (b.getD p 0)=0∨p+l2Len (b.getD p 0)>b.length then(0,0,false)else contSign b p (l2Len (b.getD p 0)) (l2Len (b.getD p 0)-1) 1 (headSign (b.getD p 0))):=by
  have hr:=hb.rd (p:Int);rw[rd_nat]at hr;have h4:=l2Len_le (b.getD p 0);simp only[spec_GetSign.f,spec_l1In_eq,Option.bind_some,inR_true];rw[w64 (x:=(b.length:Int)-1) (by omega) (by omega)];refine ev_pos (by omega) (ev_pos (by omega) (ev_pos (by omega) ?_));rw[rd_nat];refine ev_call (spec_l2Len_eq _ hr.1 hr.2) ?_;rw[w64 (x:=(b.length:Int)-(p:Int)) (by omega) (by omega)];by_cases h0:l2Len (b.getD p 0)=0
  · rw[if_pos (Or.inl h0)]
    refine ev_pos (by omega) (ev_shift ?_);simp only[spec_GetSign.j0];exact ev_pos trivial (Ev.now _)
  · refine ev_neg (by omega) (ev_shift ?_)
    simp only[spec_GetSign.j0];by_cases h1:p+l2Len (b.getD p 0)>b.length
    · rw[if_pos (Or.inr h1)];exact ev_pos (by rw[decide_eq_true_eq];omega) (Ev.now _)
    · rw[if_neg (by omega)]
      refine ev_neg (by rw[decide_eq_true_eq];omega) (ev_pos (by omega) (ev_pos (by omega) ?_));rw[rd_nat,w64 (x:=b.getD p 0) (by omega) (by omega)];unfold headSign;by_cases h2:l2Len (b.getD p 0)>1
      · rw[if_pos h2]
        refine ev_pos (by omega) (ev_pos (by rw[u64_small _ h4];omega) (ev_shift ?_));simp only[spec_GetSign.j1];exact spec_GetSign_l0 b p _ (by omega) hb hl _ 1 _ (by omega)
      · rw[if_neg h2]
        refine ev_neg (by omega) (ev_shift ?_);simp only[spec_GetSign.j1];exact spec_GetSign_l0 b p _ (by omega) hb hl _ 1 _ (by omega)
theorem contSign_none (b:List Int) (p k:Nat) (h:decL (b.drop p)=(65533,1)) (d:Nat):∀(i:Nat) (n:Int),contSign b p k d i n=(0,0,false):=by
  induction d with
  |zero=>
    intro i n;unfold contSign endSign;exact if_neg fun z=>decL_none h z.1 z.2
  |succ d ih=>
    intro i n;unfold contSign;by_cases hc:b.getD (p+i) 0/64=2
    · rw[if_pos hc];exact ih _ _
    · rw[if_neg hc]
theorem or_64 {x y:Int} (h0:0≤x) (h1:x≤100000000) (h2:0≤y) (h3:y<64):Go.bits .or .i64 (wrap64 (x*64)) y=x*64+y:=by
  rw[w64 (by omega) (by omega)];exact bits_join .i64 62 (by decide) wraps_i64 6 (x*64) y (by omega) (by omega) (by omega) h2 (by omega) (by omega)
theorem and_i64_31 (x:Int) (h0:0≤x) (h1:x≤255):Go.bits .and .i64 x 31=x%32:=bits_mask .i64 62 (by decide) wraps_i64 5 (by decide) x h0 (by omega)
theorem and_i64_15 (x:Int) (h0:0≤x) (h1:x≤255):Go.bits .and .i64 x 15=x%16:=bits_mask .i64 62 (by decide) wraps_i64 4 (by decide) x h0 (by omega)
theorem and_i64_7 (x:Int) (h0:0≤x) (h1:x≤255):Go.bits .and .i64 x 7=x%8:=bits_mask .i64 62 (by decide) wraps_i64 3 (by decide) x h0 (by omega)
theorem shr_2:shr .i64 127 (IntKind.u64.wrap ((2:Nat):Int))=31:=by decide
theorem shr_3:shr .i64 127 (IntKind.u64.wrap ((3:Nat):Int))=15:=by decide
theorem shr_4:shr .i64 127 (IntKind.u64.wrap ((4:Nat):Int))=7:=by decide
theorem contSign_enc (b:List Int) (p:Nat) (n:Int) (hs:signOk n=true) (he:enc n=(b.drop p).take (enc n).length) (hpk:p+(enc n).length≤b.length):
    l2Len (b.getD p 0)=(enc n).length∧contSign b p (enc n).length ((enc n).length-1) 1 (headSign (b.getD p 0))=(n,(p:Int)+(enc n).length,true):=by
  have hg:∀i,i<(enc n).length→b.getD (p+i) 0=(enc n).getD i 0:=by
    intro i hi
    have h1:(enc n)[i]? =b[p+i]? :=by
      have h2:((b.drop p).take (enc n).length)[i]? =b[p+i]? :=by rw[List.getElem?_take_of_lt hi,List.getElem?_drop]
      rw[←he]at h2;exact h2
    rw[List.getD_eq_getElem?_getD,List.getD_eq_getElem?_getD,h1]
  have hend:∀m:Int,m=n→endSign b p (enc n).length m=(n,(p:Int)+(enc n).length,true):=by
    intro m hm;subst hm;unfold endSign;rw[if_pos ⟨hs,he⟩]
  rcases enc_cases hs with ⟨a,c,e⟩|⟨a,c,e⟩|⟨a,c,c2,e⟩|⟨a,c,e⟩
  · have g0:=hg 0 (by rw[e];simp)
    rw[Nat.add_zero,e]at g0;simp only[List.getD_cons_zero]at g0;have hl:l2Len n=1:=by unfold l2Len;rw[if_pos (by omega)]
    rw[g0,hl];refine⟨by rw[e];rfl,?_⟩;rw[show(enc n).length-1=0 by rw[e];rfl];unfold contSign;refine hend _ ?_;unfold headSign;rw[hl];rfl
  · have g0:=hg 0 (by rw[e];simp)
    have g1:=hg 1 (by rw[e];simp);rw[e]at g0 g1;rw[Nat.add_zero]at g0;simp only[List.getD_cons_zero,List.getD_cons_succ]at g0 g1;have hl:l2Len (192+n/64)=2:=by unfold l2Len;rw[if_neg (by omega),if_pos (by omega)]
    have hh:headSign (192+n/64)=n/64:=by
      unfold headSign;rw[hl,if_pos (by decide),shr_2,and_i64_31 _ (by omega) (by omega)];omega
    rw[g0,hl,hh];refine⟨by rw[e];rfl,?_⟩;rw[show(enc n).length-1=1 by rw[e];rfl];unfold contSign;rw[g1,if_pos (by omega),or_64 (by omega) (by omega) (by omega) (by omega)];unfold contSign;exact hend _ (by omega)
  · have g0:=hg 0 (by rw[e];simp)
    have g1:=hg 1 (by rw[e];simp);have g2:=hg 2 (by rw[e];simp);rw[e]at g0 g1 g2;rw[Nat.add_zero]at g0;simp only[List.getD_cons_zero,List.getD_cons_succ]at g0 g1 g2;have hl:l2Len (224+n/4096)=3:=by unfold l2Len;rw[if_neg (by omega),if_neg (by omega),if_pos (by omega)]
    have hh:headSign (224+n/4096)=n/4096:=by
      unfold headSign;rw[hl,if_pos (by decide),shr_3,and_i64_15 _ (by omega) (by omega)];omega
    rw[g0,hl,hh];refine⟨by rw[e];rfl,?_⟩;rw[show(enc n).length-1=2 by rw[e];rfl];unfold contSign;rw[g1,if_pos (by omega),or_64 (by omega) (by omega) (by omega) (by omega)];unfold contSign;rw[g2,if_pos (by omega),or_64 (by omega) (by omega) (by omega) (by omega)];unfold contSign;exact hend _ (by omega)
  · have g0:=hg 0 (by rw[e];simp)
    have g1:=hg 1 (by rw[e];simp);have g2:=hg 2 (by rw[e];simp);have g3:=hg 3 (by rw[e];simp);rw[e]at g0 g1 g2 g3;rw[Nat.add_zero]at g0;simp only[List.getD_cons_zero,List.getD_cons_succ]at g0 g1 g2 g3;have hl:l2Len (240+n/262144)=4:=by unfold l2Len;rw[if_neg (by omega),if_neg (by omega),if_neg (by omega),if_pos (by omega)]
    have hh:headSign (240+n/262144)=n/262144:=by
      unfold headSign;rw[hl,if_pos (by decide),shr_4,and_i64_7 _ (by omega) (by omega)];omega
    rw[g0,hl,hh];refine⟨by rw[e];rfl,?_⟩;rw[show(enc n).length-1=3 by rw[e];rfl];unfold contSign;rw[g1,if_pos (by omega),or_64 (by omega) (by omega) (by omega) (by omega)];unfold contSign;rw[g2,if_pos (by omega),or_64 (by omega) (by omega) (by omega) (by omega)];unfold contSign;rw[g3,if_pos (by omega),or_64 (by omega) (by omega) (by omega) (by omega)];unfold contSign;exact hend _ (by omega)
theorem spec_GetSign_ev (b:List Int) (p:Int) (hb:Bytes b) (hl:b.length≤4611686018427387904):Ev (fun f=>spec_GetSign.f f b p) (getSign b p):=by
  unfold getSign;by_cases hp:0≤p∧p<b.length
  · rw[if_pos hp]
    obtain⟨p,rfl⟩:=Int.eq_ofNat_of_zero_le hp.1;rw[Int.toNat_natCast];have hpl:p<b.length:=by omega
    refine ev_is (spec_GetSign_walk b p hb hl hpl) ?_;by_cases hd:decL (b.drop p)=(65533,1)
    · rw[if_pos hd]
      by_cases h1:l2Len (b.getD p 0)=0∨p+l2Len (b.getD p 0)>b.length
      · rw[if_pos h1]
      · rw[if_neg h1];exact contSign_none b p _ hd _ _ _
    · rw[if_neg hd]
      obtain⟨hs,he,hk⟩:=decL_sound (b.drop p) (hb.drop p) (by intro z;have:=congrArg List.length z;simp at this;omega) hd;have hle:(enc ((decL (b.drop p)).1:Int)).length≤(b.drop p).length:=by have h9:=congrArg List.length he;rw[List.length_append]at h9;omega
      have he2:enc ((decL (b.drop p)).1:Int)=(b.drop p).take (enc ((decL (b.drop p)).1:Int)).length:=(take_of he rfl).symm;rw[List.length_drop]at hle;obtain⟨h1,h2⟩:=contSign_enc b p _ hs he2 (by omega);rw[h1,if_neg (by have:=enc_pos ((decL (b.drop p)).1:Int);omega),h2,hk]
  · rw[if_neg hp]
    simp only[spec_GetSign.f,spec_l1In_eq,Option.bind_some,inR_true];rw[w64 (x:=(b.length:Int)-1) (by omega) (by omega)];exact ev_neg (by omega) (Ev.now _)
theorem set_at_one (x:Int) (l:List Int):l.set (1:Int).toNat x=l.set 1 x:=rfl
theorem good_of {b:List Int}:(getSign b 0).2.2=good b:=rfl
theorem and_good {f:Nat→Option (Int×Int×Bool)} {g:Nat→Option (Int×Int×Bool)} {a b:List Int} {r:Bool} (h1:Ev f (getSign a 0)) (h2:Ev g (getSign b 0)) (h:(good a&&good b)=r):
    Ev (fun k=>(f k).bind fun x=>(g k).bind fun y=>if x.2.2=true then some y.2.2 else some false) r:=by
  refine ev_bind h1 (ev_bind h2 ?_);rw[good_of,good_of];by_cases z:good a=true
  · rw[z,Bool.true_and]at h;exact ev_pos z (ev_is (Ev.now _) h)
  · rw[Bool.eq_false_iff.2 z,Bool.false_and]at h;exact ev_neg z (ev_is (Ev.now _) h)
theorem spec_l6Utf_end (l:List Int) (hb:Bytes l) (hl:l≠[]) (h:l.length<l2Len (l.getD 0 0)):
    Ev (fun k=>spec_l6Utf.l0 k l (l2Len (l.getD 0 0):Nat) (l++List.replicate (l2Len (l.getD 0 0)-l.length) 128) (l++List.replicate (l2Len (l.getD 0 0)-l.length) 191)) (begUtf l):=by
  have h0:0<l.length:=List.length_pos_iff.2 hl;have h4:=l2Len_le (l.getD 0 0);have hr:=hb.rd 0;have er:rd l 0=l.getD 0 0:=rd_nat l 0;rw[er]at hr;have lenL:∀x:Int,(l++List.replicate (l2Len (l.getD 0 0)-l.length) x).length=l2Len (l.getD 0 0):=fun x=>by rw[List.length_append,List.length_replicate];omega
  have byL:∀x:Int,0≤x∧x≤255→Bytes (l++List.replicate (l2Len (l.getD 0 0)-l.length) x):=fun x hx=>hb.append (fun y hy=>by
    have:=(List.mem_replicate.1 hy).2
    omega)
  have bySet:∀(a:List Int) (x:Int),Bytes a→0≤x∧x≤255→Bytes (a.set 1 x):=fun a x ha hx y hy=>by
    rcases List.mem_or_eq_of_mem_set hy with z|z
    · exact ha y z
    · omega
  refine ev_shift ?_;simp only[spec_l6Utf.l0,set_at_one,er];refine ev_neg (by rw[lenL];omega) ?_;have ev:∀a:List Int,Bytes a→a.length≤8→Ev (fun k=>spec_GetSign.f k a 0) (getSign a 0):=fun a ha hl=>spec_GetSign_ev a 0 ha (by omega)
  have bl:=byL 128 (by omega);have bh:=byL 191 (by omega);have nl:=lenL 128;have nh:=lenL 191;by_cases h1:l.length=1
  · obtain⟨a,rfl⟩:=List.length_eq_one_iff.1 h1
    have k:=one_good hr.1 hr.2 (by omega);simp only[List.getD_cons_zero,List.length_singleton,List.singleton_append]at k nl nh bl bh h h4⊢;generalize hL:a::List.replicate (l2Len a-1) 128=L at *;generalize hH:a::List.replicate (l2Len a-1) 191=H at *;unfold fixLow fixHigh at k;refine ev_pos (by simp) (ev_pos (by simp) ?_);by_cases a0:a=224
    · rw[if_pos a0,if_neg (by omega),if_neg (by omega)]at k
      exact ev_pos a0 (ev_pos (by omega) (and_good (ev _ (bySet _ _ bl (by omega)) (by rw[List.length_set];omega)) (ev _ bh (by omega)) (by rw[k.1,k.2.1,k.2.2];rfl)))
    · refine ev_neg a0 ?_
      by_cases a1:a=237
      · rw[if_neg a0,if_neg (by omega),if_pos a1]at k
        exact ev_pos a1 (ev_pos (by omega) (and_good (ev _ bl (by omega)) (ev _ (bySet _ _ bh (by omega)) (by rw[List.length_set];omega)) (by rw[k.1,k.2.1,k.2.2];rfl)))
      · refine ev_neg a1 ?_
        by_cases a2:a=240
        · rw[if_neg a0,if_pos a2,if_neg a1,if_neg (by omega)]at k
          exact ev_pos a2 (ev_pos (by omega) (and_good (ev _ (bySet _ _ bl (by omega)) (by rw[List.length_set];omega)) (ev _ bh (by omega)) (by rw[k.1,k.2.1,k.2.2];rfl)))
        · refine ev_neg a2 ?_
          by_cases a3:a=244
          · rw[if_neg a0,if_neg a2,if_neg a1,if_pos a3]at k
            exact ev_pos a3 (ev_pos (by omega) (and_good (ev _ bl (by omega)) (ev _ (bySet _ _ bh (by omega)) (by rw[List.length_set];omega)) (by rw[k.1,k.2.1,k.2.2];rfl)))
          · rw[if_neg a0,if_neg a2,if_neg a1,if_neg a3]at k
            exact ev_neg a3 (and_good (ev _ bl (by omega)) (ev _ bh (by omega)) (by rw[k.1,k.2.1,k.2.2];rfl))
  · refine ev_neg (by omega) (and_good (ev _ bl (by omega)) (ev _ bh (by omega)) ?_)
    rw[more_good hb 128 (.inl rfl) (by omega) h,more_good hb 191 (.inr rfl) (by omega) h,Bool.and_self]
theorem spec_l6Utf_l0 (l:List Int) (sz:Nat) (hsz:sz≤4) (r:Bool) (d:Nat):∀low high:List Int,low.length+d=sz→high.length+d=sz→
    Ev (fun k=>spec_l6Utf.l0 k l (sz:Int) (low++List.replicate d 128) (high++List.replicate d 191)) r→Ev (fun k=>spec_l6Utf.l0 k l (sz:Int) low high) r:=by
  induction d with
  |zero=>intro low high _ _ h;simpa using h
  |succ d ih=>
    intro low high h1 h2 h;refine ev_shift ?_;simp only[spec_l6Utf.l0];refine ev_pos (by omega) (ev_pos (by omega) (ev_pos (by omega) (ih (low++[128]) (high++[191]) (by rw[List.length_append];show low.length+1+d=sz;omega) (by rw[List.length_append];show high.length+1+d=sz;omega) ?_)));rw[List.append_assoc,List.append_assoc];exact h
theorem spec_l6Utf_ev (l:List Int) (hb:Bytes l) (hlen:l.length≤4611686018427387904):Ev (fun k=>spec_l6Utf.f k l) (begUtf l):=by
  simp only[spec_l6Utf.f];by_cases hl:l=[]
  · subst hl;exact ev_pos (by simp) (ev_is (Ev.now _) rfl)
  · have h0:0<l.length:=List.length_pos_iff.2 hl
    have hr:=hb.rd 0;have er:rd l 0=l.getD 0 0:=rd_nat l 0;refine ev_neg (by omega) (ev_pos (by omega) (ev_call (spec_l2Len_eq _ hr.1 hr.2) ?_));rw[er];have h4:=l2Len_le (l.getD 0 0);by_cases h:(l2Len (l.getD 0 0):Nat)≤l.length
    · exact ev_pos (by omega) (ev_is (Ev.now _) (beg_short hb h (byte_nat hb 0)).symm)
    · simp only[Option.bind_some,List.nil_append,List.length_nil,Nat.zero_add]
      refine ev_neg (by omega) (ev_pos (by omega) (ev_pos (by omega) ?_));exact spec_l6Utf_l0 l _ h4 _ (l2Len (l.getD 0 0)-l.length) l l (by omega) (by omega) (spec_l6Utf_end l hb hl (by omega))
theorem begins_5 (l:List Int):begins 5 l=(decide (l.length=1)&&inR (rd l 0) 164 165):=by unfold begins;rw[if_neg (by decide),if_pos rfl]
theorem begins_0 (l:List Int):begins 0 l=begUtf l:=by unfold begins;rw[if_pos rfl]
theorem begins_no {cs:Int} (c0:cs≠0) (c5:cs≠5) (l:List Int):begins cs l=false:=by unfold begins;rw[if_neg c0,if_neg c5]
theorem spec_l6Begins_ev (cs:Int) (l:List Int) (hb:Bytes l) (hl:l.length≤4611686018427387904):Ev (fun k=>spec_l6Begins.f k cs l) (begins cs l):=by
  simp only[spec_l6Begins.f];by_cases c5:cs=5
  · subst c5
    rw[begins_5];refine ev_pos rfl ?_;by_cases h1:l.length=1
    · rw[decide_eq_true h1,Bool.true_and]
      refine ev_pos (by omega) (ev_pos (by omega) ?_);by_cases h2:rd l 0=164
      · exact ev_pos h2 (ev_is (Ev.now _) (by rw[h2];rfl))
      · refine ev_neg h2 (ev_is (Ev.now _) ?_)
        rw[Bool.eq_iff_iff,beq_iff_eq,inR_true];omega
    · rw[decide_eq_false h1,Bool.false_and];exact ev_neg (by omega) (Ev.now _)
  · refine ev_neg c5 ?_
    by_cases c0:cs=0
    · subst c0;rw[begins_0];exact ev_pos rfl (ev_bind (spec_l6Utf_ev l hb hl) (Ev.now _))
    · rw[begins_no c0 c5];exact ev_neg c0 (Ev.now _)
theorem spec_l5Cs_eq (n:Int):spec_l5Cs.f n=some (inR n 0 5):=by
  unfold spec_l5Cs.f;rw[spec_l1In_eq];rfl
theorem spec_DecOk_ev (cs:Int) (l:List Int) (c:Bool) (hb:Bytes l) (hl:l.length≤4611686018427387904):Ev (fun k=>spec_DecOk.f k cs l c) (decOk cs l c):=by
  simp only[spec_DecOk.f];refine ev_call (spec_l5Cs_eq cs) ?_;unfold decOk;by_cases h:inR cs 0 5=true
  · rw[h,Bool.true_and]
    refine ev_pos rfl ?_;by_cases hn:l=[]
    · subst hn;exact ev_pos (by simp) (ev_is (Ev.now _) (by simp))
    · have h1:0<l.length:=List.length_pos_iff.2 hn
      rw[decide_eq_false hn,Bool.false_or];refine ev_neg (by omega) ?_
      cases c with
      |true=>exact ev_pos rfl (Ev.now _)
      |false=>exact ev_neg (by simp) (ev_bind (spec_l6Begins_ev cs l hb hl) (ev_is (Ev.now _) (by simp)))
  · rw[Bool.eq_false_iff.2 h,Bool.false_and];exact ev_neg (by simp) (Ev.now _)
theorem spec_PairSign_ev (a b:Int):Ev (fun k=>spec_PairSign.f k a b) (pairSign a b):=by
  refine ev_shift (ev_same fun k=>?_);simp only[spec_PairSign.f,spec_PairSign.j0,spec_l1In_eq,Option.bind_some,inR_true];unfold pairSign;by_cases h:a=164
  · by_cases h2:161≤b∧b≤243
    · rw[if_pos h,if_pos h2,if_pos ⟨h,h2.1,h2.2⟩,w64 (x:=12353+b) (by omega) (by omega),w64 (by omega) (by omega)]
    · rw[if_pos h,if_neg h2,if_neg (c:=a=165) (by omega),if_neg (c:=a=164∧161≤b∧b≤243) (by omega),if_neg (c:=a=165∧161≤b∧b≤246) (by omega)]
  · rw[if_neg h,if_neg (by decide),if_neg (c:=a=164∧161≤b∧b≤243) (by omega)]
    by_cases h1:a=165
    · by_cases h2:161≤b∧b≤246
      · rw[if_pos h1,if_pos h2,if_pos ⟨h1,h2.1,h2.2⟩,w64 (x:=12449+b) (by omega) (by omega),w64 (by omega) (by omega)]
      · rw[if_pos h1,if_neg h2,if_neg (c:=a=165∧161≤b∧b≤246) (by omega)]
    · rw[if_neg h1,if_neg (c:=a=165∧161≤b∧b≤246) (by omega)]
theorem spec_EucSign_ev (b:List Int) (p:Int) (hb:Bytes b) (hl:b.length≤4611686018427387904):Ev (fun k=>spec_EucSign.f k b p) (eucSign b p):=by
  have r0:=hb.rd p;have r1:=hb.rd (p+1);have e1:wrap64 ((b.length:Int)-1)=(b.length:Int)-1:=w64 (by omega) (by omega);have e2:wrap64 (rd b p)=rd b p:=w64 (by omega) (by omega);have e3:wrap64 (rd b (p+1))=rd b (p+1):=w64 (by omega) (by omega);unfold eucSign;simp only[spec_EucSign.f,spec_l1In_eq,Option.bind_some,inR_true,e1,e2];by_cases h:0≤p∧p<b.length
  · have e4:wrap64 (p+1)=p+1:=w64 (by omega) (by omega)
    have e5:wrap64 (p+2)=p+2:=w64 (by omega) (by omega);rw[if_pos h];simp only[e4,e5,e3];refine ev_pos (by omega) (ev_pos h.1 (ev_pos h.2 ?_));by_cases h1:rd b p≤127
    · rw[if_pos h1];exact ev_pos (by omega) (Ev.now _)
    · rw[if_neg h1]
      refine ev_neg (by omega) ?_;by_cases h2:p+1<b.length
      · refine ev_neg (by omega) (ev_pos (by omega) (ev_pos h2 (ev_bind (spec_PairSign_ev _ _) ?_)))
        by_cases h3:(pairSign (rd b p) (rd b (p+1))).2=true
        · rw[if_pos (c:=p+1<(b.length:Int)∧(pairSign (rd b p) (rd b (p+1))).2=true) ⟨h2,h3⟩];exact ev_pos h3 (Ev.now _)
        · rw[if_neg (c:=p+1<(b.length:Int)∧(pairSign (rd b p) (rd b (p+1))).2=true) (fun z=>h3 z.2)];exact ev_neg h3 (Ev.now _)
      · rw[if_neg (c:=p+1<(b.length:Int)∧(pairSign (rd b p) (rd b (p+1))).2=true) (fun z=>h2 z.1)];exact ev_pos (by omega) (Ev.now _)
  · rw[if_neg h];exact ev_neg (by omega) (Ev.now _)
theorem spec_l3Nine_eq (b:Int):spec_l3Nine.f b=some (nineM b):=by
  unfold spec_l3Nine.f nineM;simp only[apply_ite some]
theorem spec_l3Koi_eq (b:Int) (h0:128≤b) (h1:b≤255):spec_l3Koi.f b=some (if koiM b=0 then-1 else koiM b):=
  high_of (P:=fun b=>spec_l3Koi.f b=some (if koiM b=0 then-1 else koiM b)) (by decide+kernel) b h0 h1
theorem koi_pos (b:Int) (h0:128≤b) (h1:b≤255):0≤koiM b:=high_of (P:=fun b=>0≤koiM b) (by decide+kernel) b h0 h1
theorem spec_l3Win_eq (b:Int) (h0:128≤b) (h1:b≤255):spec_l3Win.f b=some (if winM b=0 then-1 else winM b):=
  high_of (P:=fun b=>spec_l3Win.f b=some (if winM b=0 then-1 else winM b)) (by decide+kernel) b h0 h1
theorem win_pos (b:Int) (h0:128≤b) (h1:b≤255):0≤winM b:=high_of (P:=fun b=>0≤winM b) (by decide+kernel) b h0 h1
theorem nine_pos (b:Int) (h0:128≤b) (h1:b≤255):1≤nineM b:=high_of (P:=fun b=>1≤nineM b) (by decide+kernel) b h0 h1
theorem spec_ByteSign_ev (cs b:Int):Ev (fun k=>spec_ByteSign.f k cs b) (byteSign cs b):=by
  unfold byteSign;refine ev_shift (ev_same fun k=>?_);simp only[spec_ByteSign.f,spec_ByteSign.j0,spec_l1In_eq,Option.bind_some,inR_true];by_cases h1:1≤cs∧cs≤4
  · by_cases h2:0≤b∧b≤255
    · rw[if_pos h1,if_pos (c:=(1≤cs∧cs≤4)∧(0≤b∧b≤255)) ⟨h1,h2⟩,inR_true.2 h2]
      simp only[Bool.not_true,Bool.false_eq_true,if_false];by_cases h3:b≤127
      · rw[if_neg (by omega),if_neg (by omega),if_pos h3]
      · rw[if_pos (by omega),if_neg h3]
        have hb0:128≤b:=by omega
        unfold highM;by_cases c2:cs=2
        · have:=nine_pos b hb0 h2.2
          rw[if_pos c2,if_pos c2,spec_l3Nine_eq];simp only[Option.bind_some];rw[if_neg (by omega),if_neg (by omega)]
        · rw[if_neg c2,if_neg c2]
          by_cases c3:cs=3
          · have:=koi_pos b hb0 h2.2
            rw[if_pos c3,if_pos c3,spec_l3Koi_eq b hb0 h2.2];simp only[Option.bind_some];by_cases z:koiM b=0
            · rw[if_pos z,if_pos z,if_pos (by decide)]
            · rw[if_neg z,if_neg z,if_neg (by omega)]
          · rw[if_neg c3,if_neg c3]
            by_cases c4:cs=4
            · have:=win_pos b hb0 h2.2
              rw[if_pos c4,if_pos c4,spec_l3Win_eq b hb0 h2.2];simp only[Option.bind_some];by_cases z:winM b=0
              · rw[if_pos z,if_pos z,if_pos (by decide)]
              · rw[if_neg z,if_neg z,if_neg (by omega)]
            · rw[if_neg c4,if_neg c4,if_neg (by omega),if_neg (by omega)]
    · rw[if_pos h1,if_neg (c:=(1≤cs∧cs≤4)∧(0≤b∧b≤255)) (fun z=>h2 z.2),inR_false.2 h2];rfl
  · rw[if_neg h1,if_neg (c:=(1≤cs∧cs≤4)∧(0≤b∧b≤255)) (fun z=>h1 z.1)];rfl
theorem spec_l5Get_ev (cs:Int) (b:List Int) (p:Nat) (hp:p<b.length) (hb:Bytes b) (hl:b.length≤4611686018427387904):Ev (fun k=>spec_l5Get.f k cs b (p:Int)) (signIn cs b (p:Int)):=by
  have hr:=hb.rd (p:Int);simp only[spec_l5Get.f];unfold signIn;by_cases c0:cs=0
  · rw[if_pos c0];exact ev_pos c0 (ev_bind (spec_GetSign_ev b p hb hl) (Ev.now _))
  · rw[if_neg c0]
    by_cases c5:cs=5
    · rw[if_pos c5];exact ev_neg c0 (ev_pos c5 (ev_bind (spec_EucSign_ev b p hb hl) (Ev.now _)))
    · rw[if_neg c5,w64 (x:=rd b (p:Int)) (by omega) (by omega)]
      refine ev_neg c0 (ev_neg c5 (ev_pos (by omega) (ev_pos (by omega) (ev_bind (spec_ByteSign_ev cs (rd b (p:Int))) ?_))));rw[w64 (x:=(p:Int)+1) (by omega) (by omega)];exact Ev.now _
theorem spec_Feed_l0 (cs:Int) (all:List Int) (hb:Bytes all) (hl:all.length≤2097152) (h0:List Int) (b0:Bool) (c0:Int) (d:Nat):∀(p:Nat) (out:List Int),all.length≤p+d→p≤all.length→out.length≤4*p→
    Ev (fun k=>spec_Feed.l0 k all out (p:Int) cs h0 b0 c0 [] false) (c0,(feedAll (codeGet cs) (begins cs) (all.drop p)).2.1,(feedAll (codeGet cs) (begins cs) (all.drop p)).2.2,strOfNums (out++(feedAll (codeGet cs) (begins cs) (all.drop p)).1.flatMap encOk)):=by
  induction d with
  |zero=>
    intro p out h1 h2 h3;refine ev_shift ?_;simp only[spec_Feed.l0];rw[show all.drop p=[]from List.drop_of_length_le (by omega),feedAll_nil];exact ev_neg (by omega) (ev_is (Ev.now _) (by simp))
  |succ d ih=>
    intro p out h1 h2 h3;refine ev_shift ?_;simp only[spec_Feed.l0,Int.toNat_natCast];by_cases hp:p<all.length
    · refine ev_pos (by omega) (ev_bind (spec_l5Get_ev cs all p hp hb (by omega)) ?_)
      rcases signIn_at cs all p hp with ⟨n,k,e1,e2⟩|⟨e1,e2⟩
      · have hk:=(code_reads cs).pos (drop_ne hp) e1
        rw[List.length_drop]at hk;have hen:=encOk_length n;rw[feedAll_some (code_reads cs) (drop_ne hp) e1,e2];refine ev_pos rfl (ev_call (spec_PutSign_eq out n (by omega)) (ev_is (ih (p+k) (putSign out n) (by omega) (by omega) (by unfold putSign;rw[List.length_append];omega)) ?_));simp only[List.drop_drop,putSign,List.flatMap_cons,List.append_assoc]
      · rw[feedAll_none (code_reads cs) (drop_ne hp) e1]
        refine ev_neg (by rw[e2];simp) (ev_pos (by omega) (ev_pos (by omega) (ev_bind (spec_l6Begins_ev cs (all.drop p) (hb.drop p) (by rw[List.length_drop];omega)) ?_)));by_cases z:begins cs (all.drop p)=true
        · rw[if_pos z,if_pos z]
          simp only[Option.bind_some];exact ev_pos (by simp only[List.length_nil,List.length_drop];omega) (ev_is (Ev.now _) (by simp))
        · rw[if_neg z,if_neg z];exact ev_is (Ev.now _) (by simp)
    · rw[List.drop_of_length_le (by omega),feedAll_nil]
      exact ev_neg (by omega) (ev_is (Ev.now _) (by simp))
theorem spec_Feed_ev (cs:Int) (h:List Int) (c:Bool) (b:List Int) (hb:Bytes h) (bb:Bytes b) (hl:h.length≤1048576) (bl:b.length≤1048576):Ev (fun k=>spec_Feed.f k cs h c b) (cs,feed cs h c b):=by
  simp only[spec_Feed.f,Option.bind_some,List.nil_append,List.length_nil,Nat.zero_add];refine ev_pos (by omega) (ev_bind (spec_DecOk_ev cs h c hb (by omega)) ?_);unfold feed;by_cases z:decOk cs h c=true
  · refine ev_pos z (ev_shift ?_)
    simp only[spec_Feed.j0,Option.bind_some,List.nil_append,List.length_nil,Nat.zero_add]
    cases c with
    |true=>rw[if_neg (by simp)];exact ev_pos rfl (Ev.now _)
    |false=>
      rw[if_pos ⟨z,rfl⟩];refine ev_neg (by simp) (ev_pos (by omega) (ev_pos (by omega) (ev_is (spec_Feed_l0 cs (h++b) (hb.append bb) (by rw[List.length_append];omega) h false cs (h++b).length 0 [] (by omega) (by omega) (by simp)) ?_)));rw[List.drop_zero,List.nil_append]
  · rw[if_neg (fun y=>z y.1)]
    refine ev_neg z (ev_shift ?_);simp only[spec_Feed.j0];exact ev_pos trivial (Ev.now _)
theorem spec_Signs_l0 (b:List Int) (hb:Bytes b) (hl:b.length≤1099511627776) (d:Nat):∀(p:Nat) (out:List Int),b.length≤p+d→p≤b.length→out.length≤p→
    Ev (fun k=>spec_Signs.l0 k out b (p:Int)) (match readAll utfGet (b.drop p)with|some ns=>(out++ns,true)|none=>([],false)):=by
  induction d with
  |zero=>
    intro p out h0 h1 h2;refine ev_shift ?_;simp only[spec_Signs.l0];rw[List.drop_of_length_le (by omega),readAll_nil];exact ev_neg (by omega) (ev_is (Ev.now _) (by simp))
  |succ d ih=>
    intro p out h0 h1 h2;refine ev_shift ?_;simp only[spec_Signs.l0];by_cases hp:p<b.length
    · have hne:b.drop p≠[]:=by intro z;have:=congrArg List.length z;simp at this;omega
      have hk:=decL_le _ hne;rw[List.length_drop]at hk;refine ev_pos (by omega) (ev_bind (spec_GetSign_ev b p hb (by omega)) ?_);rw[readAll_cons utf_codes.toReads hne];by_cases he:decL (b.drop p)=(65533,1)
      · rw[utfGet_none hne he]
        have e:getSign b (p:Int)=(0,0,false):=by unfold getSign;rw[if_pos (by omega),Int.toNat_natCast,if_pos he]
        rw[e];exact ev_neg (by simp) (Ev.now _)
      · rw[utfGet_some hne he]
        have e:getSign b (p:Int)=(((decL (b.drop p)).1:Int),((p+(decL (b.drop p)).2:Nat):Int),true):=by
          unfold getSign;rw[if_pos (by omega),Int.toNat_natCast,if_neg he];simp
        rw[e];refine ev_pos rfl (ev_pos (by omega) (ev_is (ih (p+(decL (b.drop p)).2) (out++[((decL (b.drop p)).1:Int)]) (by omega) (by omega) (by rw[List.length_append];show out.length+1≤_;omega)) ?_));simp only[List.drop_drop]
        cases readAll utfGet (b.drop (p+(decL (b.drop p)).2))with
        |none=>rfl
        |some ns=>simp
    · rw[List.drop_of_length_le (by omega),readAll_nil]
      exact ev_neg (by omega) (ev_is (Ev.now _) (by simp))
theorem spec_Signs_ev (s:ByteArray) (hl:s.size≤1099511627776):Ev (fun k=>spec_Signs.f k s) (signs (numsOf s)):=by
  have hn:=numsOf_length s;have h:=spec_Signs_l0 (numsOf s) (numsOf_bytes s) (by omega) (numsOf s).length 0 [] (by omega) (by omega) (by simp);simp only[spec_Signs.f];refine ev_pos (by omega) (ev_is h ?_);rw[List.drop_zero];unfold signs
  cases readAll utfGet (numsOf s)with
  |none=>rfl
  |some ns=>simp
theorem spec_SignPair_eq (n:Int):spec_SignPair.f n=some (signPair n):=by
  unfold spec_SignPair.f signPair;simp only[spec_l1In_eq,Option.bind_some,inR_true];by_cases h:12353≤n∧n≤12435
  · rw[if_pos h,if_pos h,w64 (x:=n-12353) (by omega) (by omega),w64 (by omega) (by omega)]
  · rw[if_neg h,if_neg h]
    by_cases h2:12449≤n∧n≤12534
    · rw[if_pos h2,if_pos h2,w64 (x:=n-12449) (by omega) (by omega),w64 (by omega) (by omega)]
    · rw[if_neg h2,if_neg h2]
theorem spec_PutEuc_eq (b:List Int) (n:Int) (h:b.length+2<140737488355328):spec_PutEuc.f b n=some (b++(eucOf n).1,(eucOf n).2):=by
  have hb:b.length<140737488355328:=by omega
  unfold spec_PutEuc.f eucOf;simp only[Option.bind_some,List.length_nil,Nat.zero_add,List.nil_append,if_pos hb,spec_l1In_eq,spec_SignPair_eq,inR_true];by_cases h1:0≤n∧n≤127
  · rw[if_pos h1,if_pos h1];simp only[];rw[show n%256=n by omega]
  · rw[if_neg h1,if_neg h1]
    by_cases h2:(signPair n).2.2=true
    · have e:(signPair n).1%256=(signPair n).1∧(signPair n).2.1%256=(signPair n).2.1:=signPair_mod n
      rw[if_pos h2,if_pos h2,e.1,e.2];simp only[List.length_cons,List.length_nil];rw[if_pos (by omega)]
    · rw[if_neg h2,if_neg h2];simp
theorem spec_SignByte_l0 (cs n:Int) (d:Nat):∀b:Int,0≤b→b+d=256→Ev (fun k=>spec_SignByte.l0 k cs n b) (signByteFrom cs n d b):=by
  induction d with
  |zero=>
    intro b h0 h;refine ev_shift ?_;simp only[spec_SignByte.l0];exact ev_neg (by omega) (Ev.now _)
  |succ d ih=>
    intro b h0 h;refine ev_shift ?_;simp only[spec_SignByte.l0];rw[w64 (x:=b+1) (by omega) (by omega)];refine ev_pos (by omega) (ev_bind (spec_ByteSign_ev cs b) ?_);unfold signByteFrom;by_cases h1:(byteSign cs b).2=true
    · by_cases h2:(byteSign cs b).1=n
      · rw[if_pos ⟨h1,h2⟩];exact ev_pos h1 (ev_pos h2 (Ev.now _))
      · rw[if_neg (fun z=>h2 z.2)];exact ev_pos h1 (ev_neg h2 (ih (b+1) (by omega) (by omega)))
    · rw[if_neg (fun z=>h1 z.1)];exact ev_neg h1 (ih (b+1) (by omega) (by omega))
theorem spec_SignByte_ev (cs n:Int):Ev (fun k=>spec_SignByte.f k cs n) (signByte cs n):=spec_SignByte_l0 cs n 256 0 (by omega) (by omega)
theorem spec_l5Put_ev (cs:Int) (b:List Int) (n:Int) (h:b.length+8<140737488355328):Ev (fun k=>spec_l5Put.f k cs b n) (putIn cs b n):=by
  simp only[spec_l5Put.f];by_cases c0:cs=0
  · subst c0
    refine ev_pos rfl (ev_call (spec_PutSign_eq b n (by omega)) (ev_call (spec_SignOk_eq n) (ev_is (Ev.now _) ?_)));unfold putSign encOk;by_cases hs:signOk n=true
    · rw[putIn_utf hs,if_pos hs,hs]
    · rw[putIn_utf_no hs,if_neg hs];simp[Bool.eq_false_iff.2 hs]
  · by_cases c5:cs=5
    · subst c5
      rw[putIn_euc];exact ev_neg c0 (ev_pos rfl (ev_call (spec_PutEuc_eq b n (by omega)) (Ev.now _)))
    · refine ev_neg c0 (ev_neg c5 (ev_bind (spec_SignByte_ev cs n) ?_))
      simp only[Option.bind_some,List.nil_append,List.length_nil,Nat.zero_add];by_cases hs:(signByte cs n).2=true
      · rw[putIn_byte c0 c5 hs]
        exact ev_pos hs (ev_pos (by omega) (ev_pos (by omega) (Ev.now _)))
      · rw[putIn_byte_no c0 c5 hs]
        exact ev_neg hs (ev_pos (by omega) (Ev.now _))
theorem spec_Encode_l0 (cs:Int) (ns:List Int) (_hs:∀n∈ns,signOk n=true) (hl:ns.length≤1048576) (d:Nat):∀(i:Nat) (out:List Int),i+d=ns.length→out.length≤4*i→
    Ev (fun k=>spec_Encode.l0 k cs out ns (i:Int)) (match writeAll (codePut cs) (ns.drop i)with|some b=>(out++b,true)|none=>([],false)):=by
  induction d with
  |zero=>
    intro i out h0 h1;refine ev_shift ?_;simp only[spec_Encode.l0];rw[List.drop_of_length_le (by omega)];exact ev_neg (by omega) (ev_is (Ev.now _) (by simp[writeAll]))
  |succ d ih=>
    intro i out h0 h1;have hi:i<ns.length:=by omega
    refine ev_shift ?_;simp only[spec_Encode.l0,next_nat i (by omega)];rw[drop_cons_at ns i hi];refine ev_pos (by omega) (ev_pos (by omega) (ev_bind (spec_l5Put_ev cs out (rd ns (i:Int)) (by omega)) ?_));unfold writeAll putIn
    cases hx:codePut cs (rd ns (i:Int))with
    |none=>exact ev_neg (by simp) (Ev.now _)
    |some x=>
      have hxl:=codePut_length hx;refine ev_pos rfl (ev_is (ih (i+1) (out++x) (by omega) (by rw[List.length_append];omega)) ?_);simp only
      cases writeAll (codePut cs) (ns.drop (i+1))with
      |none=>rfl
      |some b=>simp
theorem spec_Encode_ev (cs:Int) (s:ByteArray) (h:s.size≤1048576):Ev (fun k=>spec_Encode.f k cs s) (encodeAll cs s):=by
  have hn:=numsOf_length s;simp only[spec_Encode.f,Option.bind_some];refine ev_bind (spec_Signs_ev s (by omega)) (ev_call (spec_l5Cs_eq cs) ?_);unfold encodeAll;by_cases hc:inR cs 0 5=true
  · rw[if_pos hc]
    refine ev_pos hc (ev_shift ?_);simp only[spec_Encode.j0]
    cases hr:readAll utfGet (numsOf s)with
    |none=>rw[signs_none hr];exact ev_pos (by simp) (Ev.now _)
    |some ns=>
      have h1:=readN_length utf_codes.toReads _ _ hr;rw[signs_some hr];refine ev_neg (by simp) (ev_is (spec_Encode_l0 cs ns (utf_range (numsOf_bytes s) hr) (by omega) ns.length 0 [] (by omega) (by simp)) ?_);rw[List.drop_zero];show _=(match writeAll (codePut cs) ns with|some b=>(b,true)|none=>([],false));cases writeAll (codePut cs) ns<;>rfl
  · rw[if_neg hc]
    refine ev_neg hc (ev_shift ?_);simp only[spec_Encode.j0];exact ev_pos trivial (Ev.now _)
theorem l2Sign_ok (c:List Int) (i h:Int) (hi:0≤i) (hl:c.length≤4611686018427387904):∃x i' h',spec_l2Sign.f c i h=some (x,i',h')∧0≤i'∧x∈([0,97,90,127,128,164,233,2047,2048,8364,1072,1102,1025,12354,12450,352,65535,65536,1114111]:List Int):=by
  unfold spec_l2Sign.f;obtain⟨x,i1,g1,e1,p1,q1⟩:=l1Int_ok c i h [0,97,90,127,128,164,233,2047,2048,8364,1072,1102,1025,12354,12450,352,65535,65536,1114111] hi hl (by simp);rw[e1];exact⟨_,_,_,rfl,p1,q1⟩
theorem l5Sign_ev (c:List Int) (i h cs:Int) (hi:0≤i) (hl:c.length≤4611686018427387904):∃x i' h',Ev (fun k=>spec_l5Sign.f k c i h cs) (x,i',h')∧0≤i':=by
  simp only[spec_l5Sign.f];by_cases c0:cs=0
  · obtain⟨x,i1,g1,e1,p1,_⟩:=l2Sign_ok c i h hi hl
    exact⟨x,i1,g1,ev_pos c0 (ev_call e1 (Ev.now _)),p1⟩
  · by_cases c5:cs=5
    · obtain⟨x,i1,g1,e1,p1,_⟩:=l1Int_ok c i h [97,32,12353,12435,12449,12534,12354] hi hl (by simp)
      exact⟨x,i1,g1,ev_neg c0 (ev_pos c5 (ev_call e1 (Ev.now _))),p1⟩
    · obtain⟨x,i1,g1,e1,p1,_⟩:=l1Int_ok c i h [65,97,32,164,192,200,228,255,163,128,130,189] hi hl (by simp)
      by_cases hs:(byteSign cs x).2=true
      · exact⟨_,i1,g1,ev_neg c0 (ev_neg c5 (ev_call e1 (ev_bind (spec_ByteSign_ev cs x) (ev_pos hs (Ev.now _))))),p1⟩
      · exact⟨_,i1,g1,ev_neg c0 (ev_neg c5 (ev_call e1 (ev_bind (spec_ByteSign_ev cs x) (ev_neg hs (Ev.now _))))),p1⟩
theorem l5Text_l0 (c:List Int) (cs:Int) (hl:c.length≤4611686018427387904) (d:Nat):∀(out:List Int) (i h:Int),0≤i→d≤1000→out.length+4*d≤8000→
    ∃s i' h',Ev (fun k=>spec_l5Text.l0 k cs out (d:Int) c i h) (s,i',h')∧0≤i'∧s.size≤out.length+4*d:=by
  induction d with
  |zero=>
    intro out i h hi _ _;refine⟨strOfNums out,i,h,ev_shift ?_,hi,by rw[strOfNums_size];omega⟩;simp only[spec_l5Text.l0];exact ev_neg (by omega) (Ev.now _)
  |succ d ih=>
    intro out i h hi hd ho;obtain⟨x,i1,g1,e1,p1⟩:=l5Sign_ev c i h cs hi hl;have hx:=encOk_length x;have hp:(putSign out x).length≤out.length+4:=by unfold putSign;rw[List.length_append];omega
    obtain⟨s,i2,g2,e2,p2,z2⟩:=ih (putSign out x) i1 g1 p1 (by omega) (by omega);refine⟨s,i2,g2,ev_shift ?_,p2,by omega⟩;simp only[spec_l5Text.l0];have ew:wrap64 (((d+1:Nat):Int)-1)=(d:Int):=by rw[w64 (by omega) (by omega)];omega
    rw[ew];exact ev_pos (by omega) (ev_bind e1 (ev_call (spec_PutSign_eq out x (by omega)) e2))
theorem l5Text_ev (c:List Int) (i h cs m:Int) (hi:0≤i) (hl:c.length≤4611686018427387904) (h0:0≤m) (hm:m≤100):∃s i' h',Ev (fun k=>spec_l5Text.f k c i h cs m) (s,i',h')∧0≤i'∧s.size≤1000:=by
  obtain⟨x,i1,g1,e1,p1,q1,_,r1⟩:=l1Below_ok c i h (m+1) hi hl;have r1':=r1 (by omega);obtain⟨d,hd⟩:=Int.eq_ofNat_of_zero_le q1;subst hd;obtain⟨s,i2,g2,e2,p2,z2⟩:=l5Text_l0 c cs hl d [] i1 g1 p1 (by omega) (by simp;omega);refine⟨s,i2,g2,?_,p2,by simp at z2;omega⟩;simp only[spec_l5Text.f];rw[w64 (x:=m+1) (by omega) (by omega)];exact ev_call e1 e2
theorem u8_xor_range (a b:Int):0≤Go.bits .xor .u8 a b∧Go.bits .xor .u8 a b≤255:=by
  have h:∀n:Int,0≤IntKind.u8.wrap n∧IntKind.u8.wrap n≤255:=fun n=>by rw[IntKind.wrap_u8];omega
  exact h _
theorem Bytes_set {l:List Int} (hb:Bytes l) (j:Nat) (x:Int) (h0:0≤x) (h1:x≤255):Bytes (l.set j x):=fun y hy=>by
  rcases List.mem_or_eq_of_mem_set hy with h|h
  · exact hb y h
  · subst h;exact⟨h0,h1⟩
theorem l1Bend_ok (c:List Int) (i h:Int) (l:List Int) (hi:0≤i) (hl:c.length≤4611686018427387904) (hb:Bytes l) (hll:l.length<140737488355328):
    ∃x i' h',spec_l1Bend.f c i h l=some (x,i',h')∧0≤i'∧Bytes x∧x.length≤l.length:=by
  unfold spec_l1Bend.f;simp only[Option.bind_some,List.length_nil,Nat.zero_add,List.nil_append,if_pos hll];obtain⟨x,i1,g1,e1,p1,q1,_⟩:=l1Below_ok c i h 5 hi hl;rw[e1];simp only[Option.bind_some];by_cases h0:x=0
  · rw[if_pos h0,w64 (x:=(l.length:Int)+1) (by omega) (by omega)]
    obtain⟨y,i2,g2,e2,p2,q2,_,r2⟩:=l1Below_ok c i1 g1 ((l.length:Int)+1) p1 hl;have:=r2 (by omega);rw[e2];simp only[Option.bind_some];rw[if_pos q2,if_pos (by omega)];exact⟨_,_,_,rfl,p2,hb.take _,by rw[List.length_take];omega⟩
  · rw[if_neg h0]
    by_cases h1:x=1
    · rw[if_pos h1]
      by_cases h2:(l.length:Int)>0
      · rw[if_pos h2]
        obtain⟨y,i2,g2,e2,p2,q2,_,r2⟩:=l1Below_ok c i1 g1 (l.length:Int) p1 hl;have:=r2 (by omega);rw[e2];simp only[Option.bind_some];rw[if_pos q2,if_pos (by omega)];obtain⟨z,i3,g3,e3,p3,q3,_⟩:=l1Below_ok c i2 g2 255 p2 hl;rw[e3];simp only[Option.bind_some];have hx:=u8_xor_range (rd l y) (wrap64 (1+z)%256);exact⟨_,_,_,rfl,p3,Bytes_set hb _ _ hx.1 hx.2,by rw[List.length_set];exact Nat.le_refl _⟩
      · rw[if_neg h2];exact⟨_,_,_,rfl,p1,hb,Nat.le_refl _⟩
    · rw[if_neg h1];exact⟨_,_,_,rfl,p1,hb,Nat.le_refl _⟩
theorem l5Bytes_ev (c:List Int) (i h cs:Int) (hi:0≤i) (hl:c.length≤4611686018427387904):∃b i' h',Ev (fun k=>spec_l5Bytes.f k c i h cs) (b,i',h')∧0≤i'∧Bytes b∧b.length≤5000:=by
  obtain⟨s,i1,g1,e1,p1,z1⟩:=l5Text_ev c i h cs 5 hi hl (by omega) (by omega);have hb:=encodeAll_bytes cs s;have hbl:=encodeAll_length cs s;obtain⟨x,i2,g2,e2,p2,q2,_,r2⟩:=l1Below_ok c i1 g1 5 p1 hl;simp only[spec_l5Bytes.f];by_cases x0:x=0
  · obtain⟨y,i3,g3,e3,p3,q3,r3⟩:=l1Bend_ok c i2 g2 (encodeAll cs s).1 p2 hl hb (by omega)
    exact⟨y,i3,g3,ev_bind e1 (ev_bind (spec_Encode_ev cs s (by omega)) (ev_call e2 (ev_pos x0 (ev_call e3 (Ev.now _))))),p3,q3,by omega⟩
  · by_cases x1:x=1
    · obtain⟨y,i3,g3,e3,p3,_⟩:=l1Int_ok c i2 g2 [128,129,164,255,194,157] p2 hl (by simp)
      refine⟨_,i3,g3,ev_bind e1 (ev_bind (spec_Encode_ev cs s (by omega)) (ev_call e2 (ev_neg x0 (ev_pos x1 (ev_call e3 (ev_pos (by omega) (Ev.now _))))))),p3,hb.append (.cons (by omega) (by omega) .nil),?_⟩;rw[List.length_append];show _+1≤5000;omega
    · exact⟨_,i2,g2,ev_bind e1 (ev_bind (spec_Encode_ev cs s (by omega)) (ev_call e2 (ev_neg x0 (ev_neg x1 (Ev.now _))))),p2,hb,by omega⟩
theorem spec_DecNew_eq (n:Int):spec_DecNew.f n=some (n,[],false):=rfl
theorem l1Once_ok (c:List Int) (i h n:Int) (hi:0≤i) (hl:c.length≤4611686018427387904):∃x i' h',spec_l1Once.f c i h n=some (x,i',h')∧0≤i':=by
  unfold spec_l1Once.f;obtain⟨x,i1,g1,e1,p1,_⟩:=l1Below_ok c i h n hi hl;rw[e1];exact⟨_,_,_,rfl,p1⟩
theorem l6Draw_ev (c:List Int) (i h:Int) (hi:0≤i) (hl:c.length≤4611686018427387904):∃t l o i' h',Ev (fun k=>spec_l6Draw.f k c i h) (t,l,o,i',h')∧0≤i'∧Bytes l∧l.length≤5000:=by
  obtain⟨x,i1,g1,e1,p1,_⟩:=l1Below_ok c i h 6 hi hl;obtain⟨b,i2,g2,e2,p2,q2,r2⟩:=l5Bytes_ev c i1 g1 x p1 hl;obtain⟨o,i3,g3,e3,p3⟩:=l1Once_ok c i2 g2 2 p2 hl
  have whole:∃t l o' i' h',Ev (fun k=>spec_l6Draw.j0 k b false c i3 g3 x [] false) (t,l,o',i',h')∧0≤i'∧Bytes l∧l.length≤5000:=by
    have f:=feed_fst (cs:=x) (h:=[]) (c:=false) (b:=b) .nil q2;refine⟨x,(feed x [] false b).1,(feed x [] false b).2.1,i3,g3,ev_shift ?_,p3,f.1,by have:=f.2;simp only[List.length_nil]at this;omega⟩;simp only[spec_l6Draw.j0];exact ev_neg (by simp) (ev_bind (spec_Feed_ev x [] false b .nil q2 (by simp) (by omega)) (Ev.now _))
  simp only[spec_l6Draw.f]
  cases o with
  |false=>
    obtain⟨t,l,o',i',h',ev,z⟩:=whole;exact⟨t,l,o',i',h',ev_call e1 (ev_call (spec_DecNew_eq x) (ev_bind e2 (ev_call e3 (ev_neg (by simp) ev)))),z⟩
  |true=>
    by_cases hn:(b.length:Int)>0
    · obtain⟨y,i4,g4,e4,p4,q4,_,r4⟩:=l1Below_ok c i3 g3 b.length p3 hl
      have r4':=r4 hn;have f:=feed_fst (cs:=x) (h:=[]) (c:=false) (b:=b.take y.toNat) .nil (q2.take _);refine⟨x,(feed x [] false (b.take y.toNat)).1,(feed x [] false (b.take y.toNat)).2.1,i4,g4,ev_call e1 (ev_call (spec_DecNew_eq x) (ev_bind e2 (ev_call e3 (ev_pos rfl (ev_shift ?_))))),p4,f.1,by have:=f.2;simp only[List.length_nil,List.length_take]at this;omega⟩;simp only[spec_l6Draw.j0];refine ev_pos (decide_eq_true hn) (ev_call e4 (ev_pos q4 (ev_pos (by omega) (ev_bind (spec_Feed_ev x [] false (b.take y.toNat) .nil (q2.take _) (by simp) (by rw[List.length_take];omega)) (Ev.now _)))))
    · obtain⟨t,l,o',i',h',ev,z⟩:=whole
      refine⟨t,l,o',i',h',ev_call e1 (ev_call (spec_DecNew_eq x) (ev_bind e2 (ev_call e3 (ev_pos rfl ?_)))),z⟩;rw[decide_eq_false hn];exact ev
theorem l1Bytes_l0 (c:List Int) (hl:c.length≤4611686018427387904) (n:Int) (hn:n≤1099511627776) (d:Nat):∀(j:Int) (out:List Int) (i h:Int),0≤j→j+d=n→(out.length:Int)=j→Bytes out→0≤i→
    ∃l i' h',Ev (fun k=>spec_l1Bytes.l0 k n out j c i h) (l,i',h')∧0≤i'∧Bytes l∧(l.length:Int)=n:=by
  induction d with
  |zero=>
    intro j out i h h0 hj ho hb hi;refine⟨out,i,h,ev_shift ?_,hi,hb,by omega⟩;simp only[spec_l1Bytes.l0];exact ev_neg (by omega) (Ev.now _)
  |succ d ih=>
    intro j out i h h0 hj ho hb hi;obtain⟨x,i1,g1,e1,p1,q1,r1⟩:=l1Byte_ok c i h hi hl;obtain⟨l,i2,g2,e2,p2,q2,r2⟩:=ih (j+1) (out++[x%256]) i1 g1 (by omega) (by omega) (by simp;omega) (hb.append (.cons (by omega) (by omega) .nil)) p1;refine⟨l,i2,g2,ev_shift ?_,p2,q2,r2⟩;simp only[spec_l1Bytes.l0];rw[w64 (x:=j+1) (by omega) (by omega)];exact ev_pos (by omega) (ev_call e1 (ev_pos (by omega) e2))
theorem l1Bytes_ev (c:List Int) (i h n:Int) (hi:0≤i) (hl:c.length≤4611686018427387904) (h0:0≤n) (hn:n≤1099511627776):
    ∃l i' h',Ev (fun k=>spec_l1Bytes.f k c i h n) (l,i',h')∧0≤i'∧Bytes l∧(l.length:Int)=n:=l1Bytes_l0 c hl n hn n.toNat 0 [] i h (by omega) (by omega) rfl Bytes.nil hi
theorem l1Str_ok (c:List Int) (i h:Int) (l:List ByteArray) (hi:0≤i) (hl:c.length≤4611686018427387904) (hn:l≠[]):∃x i' h',spec_l1Str.f c i h l=some (x,i',h')∧0≤i'∧x∈l:=by
  have h1:0<l.length:=List.length_pos_iff.2 hn;unfold spec_l1Str.f;obtain⟨x,i1,g1,e1,p1,q1,_,r1⟩:=l1Below_ok c i h l.length hi hl;have r2:=r1 (by omega);rw[e1];simp only[Option.bind_some];rw[if_pos q1,if_pos r2];obtain⟨m,rfl⟩:=Int.eq_ofNat_of_zero_le q1;have hm:m<l.length:=by omega
  refine⟨_,_,_,rfl,p1,?_⟩;rw[rdOf,Int.toNat_natCast,List.getD_eq_getElem?_getD,List.getElem?_eq_getElem hm];exact List.getElem_mem _
theorem l6Any_ev (c:List Int) (i h:Int) (hi:0≤i) (hl:c.length≤4611686018427387904):∃t l o i' h',Ev (fun k=>spec_l6Any.f k c i h) (t,l,o,i',h')∧0≤i'∧Bytes l∧l.length≤5000:=by
  obtain⟨t,l,o,i1,g1,e1,p1,q1,r1⟩:=l6Draw_ev c i h hi hl;obtain⟨x,i2,g2,e2,p2,_⟩:=l1Below_ok c i1 g1 6 p1 hl;simp only[spec_l6Any.f];by_cases x0:x=0
  · obtain⟨y,i3,g3,e3,p3,_⟩:=l3Any_ok c i2 g2 p2 hl
    exact⟨y,l,o,i3,g3,ev_bind e1 (ev_call e2 (ev_pos x0 (ev_call e3 (Ev.now _)))),p3,q1,r1⟩
  · by_cases x1:x=1
    · obtain⟨y,i3,g3,e3,p3,q3,_,r3⟩:=l1Below_ok c i2 g2 3 p2 hl
      have r3':=r3 (by omega);obtain⟨b,i4,g4,e4,p4,q4,r4⟩:=l1Bytes_ev c i3 g3 (1+y) p3 hl (by omega) (by omega);refine⟨t,b,o,i4,g4,ev_bind e1 (ev_call e2 (ev_neg x0 (ev_pos x1 (ev_call e3 ?_)))),p4,q4,by omega⟩;simp only;rw[w64 (x:=1+y) (by omega) (by omega)];exact ev_bind e4 (Ev.now _)
    · by_cases x2:x=2
      · obtain⟨y,i3,g3,e3,p3,m3⟩:=l1Str_ok c i2 g2 [(⟨#[226,130]⟩:ByteArray),⟨#[224]⟩,⟨#[224,128]⟩,⟨#[237,160]⟩,⟨#[240,143]⟩,⟨#[244,143,191]⟩,⟨#[245]⟩,⟨#[164]⟩] p2 hl (by simp)
        have hall:∀y∈[(⟨#[226,130]⟩:ByteArray),⟨#[224]⟩,⟨#[224,128]⟩,⟨#[237,160]⟩,⟨#[240,143]⟩,⟨#[244,143,191]⟩,⟨#[245]⟩,⟨#[164]⟩],y.size≤60:=by decide
        have hy:=hall y m3;exact⟨t,numsOf y,o,i3,g3,ev_bind e1 (ev_call e2 (ev_neg x0 (ev_neg x1 (ev_pos x2 (ev_call e3 (ev_pos (by dsimp only;omega) (Ev.now _))))))),p3,numsOf_bytes y,by rw[numsOf_length];omega⟩
      · exact⟨t,l,o,i2,g2,ev_bind e1 (ev_call e2 (ev_neg x0 (ev_neg x1 (ev_neg x2 (Ev.now _))))),p2,q1,r1⟩
theorem DrawDecOk_ev (c:List Int) (hl:c.length≤4611686018427387904):∃t l o,Ev (fun k=>spec_DrawDecOk.f k c) (t,l,o)∧Bytes l∧l.length≤5000:=by
  obtain⟨h,hN⟩:=l1New_ev c hl;obtain⟨t,l,o,i1,g1,e1,_,q,r⟩:=l6Any_ev c 0 h (by omega) hl;refine⟨t,l,o,?_,q,r⟩;simp only[spec_DrawDecOk.f];exact ev_bind hN (ev_bind e1 (Ev.now _))
theorem DrawFeed_ev (c:List Int) (hl:c.length≤4611686018427387904):∃t l o b,Ev (fun k=>spec_DrawFeed.f k c) (t,l,o,b)∧Bytes l∧l.length≤5000∧Bytes b∧b.length≤5000:=by
  obtain⟨h,hN⟩:=l1New_ev c hl;obtain⟨t,l,o,i1,g1,e1,p1,q,r⟩:=l6Any_ev c 0 h (by omega) hl;obtain⟨b,i2,g2,e2,_,q2,r2⟩:=l5Bytes_ev c i1 g1 t p1 hl;refine⟨t,l,o,b,?_,q,r,q2,r2⟩;simp only[spec_DrawFeed.f];exact ev_bind hN (ev_bind e1 (ev_bind e2 (Ev.now _)))
theorem impl_within_eq (a b c:Int):impl_within.f a b c=some (inR a b c):=by
  unfold impl_within.f inR;by_cases h:a≥b<;>simp[h]
theorem impl_begins_eq (cs:Int) (l:List Int) (hb:Bytes l):impl_begins.f cs l=some (begins cs l):=by
  unfold impl_begins.f begins begUtf;by_cases hl:l=[]
  · subst hl
    rw[if_pos (by simp),if_pos rfl];by_cases c0:cs=0
    · rw[if_pos c0]
    · rw[if_neg c0];simp
  · have h1:0<l.length:=List.length_pos_iff.2 hl
    rw[if_neg (by omega),if_neg hl];by_cases c0:cs=0
    · rw[if_pos c0,if_pos c0]
      have e:utf8_FullRune.f l=some (fullR l):=by unfold utf8_FullRune.f;rw[if_pos (bytesOk_iff.2 hb)]
      rw[e];rfl
    · rw[if_neg c0,if_neg c0]
      by_cases c5:cs=5
      · rw[if_pos c5,if_pos c5]
        have r0:=hb.rd 0;by_cases h2:l.length=1
        · rw[if_pos (by omega),if_pos (by omega),w64 (by omega) (by omega),impl_within_eq,decide_eq_true h2];simp
        · rw[if_neg (by omega),decide_eq_false h2];simp
      · rw[if_neg c5,if_neg c5]
theorem impl_isSet_eq (n:Int):impl_isSet.f n=some (inR n 0 5):=by
  unfold impl_isSet.f;simp only[impl_within_eq,Option.bind_some]
theorem impl_DecOk_eq (cs:Int) (l:List Int) (c:Bool) (hb:Bytes l):impl_DecOk.f cs l c=some (decOk cs l c):=by
  unfold impl_DecOk.f decOk;rw[impl_isSet_eq];simp only[Option.bind_some];by_cases h:inR cs 0 5=true
  · rw[if_pos h,h,Bool.true_and]
    by_cases hl:l=[]
    · subst hl;simp
    · have h1:0<l.length:=List.length_pos_iff.2 hl
      rw[if_neg (by omega),decide_eq_false hl,impl_begins_eq cs l hb];cases c<;>simp
  · rw[if_neg h,Bool.eq_false_iff.2 h];rfl
theorem impl_joined_1 (a:List Int) (h:a.length<140737488355328):Ev (fun k=>impl_joined.f k [a]) a:=by
  refine ev_shift (ev_shift (ev_same fun k=>?_));simp only[impl_joined.f,impl_joined.l0];simp[rd_L3,wrap64,h]
theorem impl_joined_2 (a b:List Int) (h:a.length+b.length<140737488355328):Ev (fun k=>impl_joined.f k [a,b]) (a++b):=by
  refine ev_shift (ev_shift (ev_shift (ev_same fun k=>?_)));have ha:a.length<140737488355328:=by omega
  simp only[impl_joined.f,impl_joined.l0];simp[rd_L3,wrap64,h,ha]
theorem decL_range (l:List Int) (hb:Bytes l) (hl:l≠[]):(decL l).1≤1114111∧(decL l).2≤4:=by
  by_cases h:decL l=(65533,1)
  · rw[h];exact⟨by decide,by decide⟩
  · obtain⟨hs,_,hk⟩:=decL_sound l hb hl h
    have h1:=signOk_iff.1 hs;have h2:=enc_length ((decL l).1:Int);exact⟨by omega,by omega⟩
theorem getSign_out {b:List Int} {p:Int} (h:¬(0≤p∧p<b.length)):getSign b p=(0,0,false):=if_neg h
theorem getSign_none {b:List Int} {n:Nat} (h:n<b.length) (e:decL (b.drop n)=(65533,1)):getSign b (n:Int)=(0,0,false):=by
  unfold getSign;rw[if_pos (by omega),Int.toNat_natCast,if_pos e]
theorem getSign_some {b:List Int} {n:Nat} (h:n<b.length) (e:decL (b.drop n)≠(65533,1)):getSign b (n:Int)=(((decL (b.drop n)).1:Int),(n:Int)+((decL (b.drop n)).2:Int),true):=by
  unfold getSign;rw[if_pos (by omega),Int.toNat_natCast,if_neg e]
theorem impl_GetSign_ev (b:List Int) (p:Int) (hb:Bytes b) (hl:b.length≤4611686018427387904):Ev (fun k=>impl_GetSign.f k b p) (getSign b p):=by
  simp only[impl_GetSign.f];by_cases h0:p<0
  · rw[getSign_out (by omega)]
    refine ev_pos h0 (ev_shift ?_);simp only[impl_GetSign.j0];exact ev_pos trivial (Ev.now _)
  · refine ev_neg h0 (ev_shift ?_)
    simp only[impl_GetSign.j0];by_cases h1:p<b.length
    · obtain⟨n,rfl⟩:=Int.eq_ofNat_of_zero_le (show 0≤p by omega)
      rw[Int.toNat_natCast];have hne:b.drop n≠[]:=by intro z;have:=congrArg List.length z;simp at this;omega
      have hr:=decL_range _ (hb.drop n) hne
      have hd:utf8_DecodeRune.f (b.drop n)=some (((decL (b.drop n)).1:Int),((decL (b.drop n)).2:Int)):=by
        unfold utf8_DecodeRune.f;rw[if_neg hne,if_pos (bytesOk_iff.2 (hb.drop n))]
      refine ev_neg (by simp;omega) (ev_pos (by omega) (ev_pos (by omega) (ev_call hd ?_)));dsimp only;rw[w64 (x:=((decL (b.drop n)).1:Int)) (by omega) (by omega),w64 (x:=(n:Int)+((decL (b.drop n)).2:Int)) (by omega) (by omega)];by_cases e:decL (b.drop n)=(65533,1)
      · rw[getSign_none (by omega) e,e];exact ev_pos (by decide) (ev_pos (by decide) (Ev.now _))
      · rw[getSign_some (by omega) e]
        by_cases e1:((decL (b.drop n)).1:Int)=65533
        · refine ev_pos e1 (ev_neg ?_ (Ev.now _))
          have h2:=decL_le (b.drop n) hne;intro z;exact e (Prod.ext (by simp only;omega) (by simp only;omega))
        · exact ev_neg e1 (Ev.now _)
    · rw[getSign_out (by omega)]
      exact ev_pos (by rw[decide_eq_true_eq];omega) (Ev.now _)
theorem impl_PairSign_ev (a b:Int):Ev (fun k=>impl_PairSign.f k a b) (pairSign a b):=by
  refine ev_shift (ev_same fun k=>?_);simp only[impl_PairSign.f,impl_PairSign.j0,impl_within_eq,Option.bind_some,inR_true];unfold pairSign;by_cases h:a=164
  · by_cases h2:161≤b∧b≤243
    · rw[if_pos h,if_pos h2,if_pos ⟨h,h2.1,h2.2⟩,w64 (x:=12353+b) (by omega) (by omega),w64 (by omega) (by omega)]
    · rw[if_pos h,if_neg h2,if_neg (c:=a=165) (by omega),if_neg (c:=a=164∧161≤b∧b≤243) (by omega),if_neg (c:=a=165∧161≤b∧b≤246) (by omega)]
  · rw[if_neg h,if_neg (by decide),if_neg (c:=a=164∧161≤b∧b≤243) (by omega)]
    by_cases h1:a=165
    · by_cases h2:161≤b∧b≤246
      · rw[if_pos h1,if_pos h2,if_pos ⟨h1,h2.1,h2.2⟩,w64 (x:=12449+b) (by omega) (by omega),w64 (by omega) (by omega)]
      · rw[if_pos h1,if_neg h2,if_neg (c:=a=165∧161≤b∧b≤246) (by omega)]
    · rw[if_neg h1,if_neg (c:=a=165∧161≤b∧b≤246) (by omega)]
theorem impl_EucSign_ev (b:List Int) (p:Int) (hb:Bytes b) (hl:b.length≤4611686018427387904):Ev (fun k=>impl_EucSign.f k b p) (eucSign b p):=by
  have r0:=hb.rd p;have r1:=hb.rd (p+1);have e2:wrap64 (rd b p)=rd b p:=w64 (by omega) (by omega);have e3:wrap64 (rd b (p+1))=rd b (p+1):=w64 (by omega) (by omega);unfold eucSign;refine ev_shift ?_;simp only[impl_EucSign.f,impl_EucSign.j0,e2];by_cases h:0≤p∧p<b.length
  · have e4:wrap64 (p+1)=p+1:=w64 (by omega) (by omega)
    have e5:wrap64 (p+2)=p+2:=w64 (by omega) (by omega);rw[if_pos h];simp only[e4,e5,e3];refine ev_neg (by omega) (ev_neg (by simp;omega) (ev_pos h.1 (ev_pos h.2 ?_)));by_cases h1:rd b p≤127
    · rw[if_pos h1];exact ev_pos h1 (Ev.now _)
    · rw[if_neg h1]
      refine ev_neg h1 ?_;by_cases h2:p+1<b.length
      · refine ev_neg (by omega) (ev_pos (by omega) (ev_pos h2 ?_))
        refine ev_bind (impl_PairSign_ev (rd b p) (rd b (p+1))) ?_;by_cases h3:(pairSign (rd b p) (rd b (p+1))).2=true
        · rw[if_pos (c:=p+1<(b.length:Int)∧(pairSign (rd b p) (rd b (p+1))).2=true) ⟨h2,h3⟩];exact ev_pos h3 (Ev.now _)
        · rw[if_neg (c:=p+1<(b.length:Int)∧(pairSign (rd b p) (rd b (p+1))).2=true) (fun z=>h3 z.2)];exact ev_neg h3 (Ev.now _)
      · rw[if_neg (c:=p+1<(b.length:Int)∧(pairSign (rd b p) (rd b (p+1))).2=true) (fun z=>h2 z.1)];exact ev_pos (by omega) (Ev.now _)
  · rw[if_neg h]
    by_cases h0:p<0
    · exact ev_pos h0 (ev_pos (by simp) (Ev.now _))
    · exact ev_neg h0 (ev_pos (by simp;omega) (Ev.now _))
theorem impl_nineSign_eq (b:Int):impl_nineSign.f b=some (nineM b):=by
  unfold impl_nineSign.f nineM;simp only[apply_ite some]
theorem impl_koiSign_eq (b:Int) (h0:128≤b) (h1:b≤255):impl_koiSign.f b=some (koiM b):=
  high_of (P:=fun b=>impl_koiSign.f b=some (koiM b)) (by decide+kernel) b h0 h1
theorem impl_winSign_eq (b:Int) (h0:128≤b) (h1:b≤255):impl_winSign.f b=some (winM b):=
  high_of (P:=fun b=>impl_winSign.f b=some (winM b)) (by decide+kernel) b h0 h1
theorem impl_ByteSign_ev (cs b:Int):Ev (fun k=>impl_ByteSign.f k cs b) (byteSign cs b):=by
  unfold byteSign;refine ev_shift (ev_same fun k=>?_);simp only[impl_ByteSign.f,impl_ByteSign.j0,impl_within_eq,Option.bind_some,inR_true]
  have fin:∀n:Int,(some (n,(n != 0)):Option (Int×Bool))=some (if n=0 then(0,false)else(n,true)):=by
    intro n;by_cases z:n=0
    · rw[if_pos z,z];rfl
    · rw[if_neg z,bne_iff_ne.2 z]
  by_cases h1:1≤cs∧cs≤4
  · by_cases h2:0≤b∧b≤255
    · rw[if_pos h1,if_pos (c:=(1≤cs∧cs≤4)∧(0≤b∧b≤255)) ⟨h1,h2⟩,inR_true.2 h2]
      simp only[Bool.not_true,Bool.false_eq_true,if_false];by_cases h3:b≤127
      · rw[if_pos h3,if_pos h3]
      · rw[if_neg h3,if_neg h3]
        have hb0:128≤b:=by omega
        unfold highM;by_cases c2:cs=2
        · rw[if_pos c2,if_pos c2,impl_nineSign_eq];exact fin _
        · rw[if_neg c2,if_neg c2]
          by_cases c3:cs=3
          · rw[if_pos c3,if_pos c3,impl_koiSign_eq b hb0 h2.2];exact fin _
          · rw[if_neg c3,if_neg c3]
            by_cases c4:cs=4
            · rw[if_pos c4,if_pos c4,impl_winSign_eq b hb0 h2.2];exact fin _
            · rw[if_neg c4,if_neg c4];exact fin _
    · rw[if_pos h1,if_neg (c:=(1≤cs∧cs≤4)∧(0≤b∧b≤255)) (fun z=>h2 z.2),inR_false.2 h2];rfl
  · rw[if_neg h1,if_neg (c:=(1≤cs∧cs≤4)∧(0≤b∧b≤255)) (fun z=>h1 z.1)];rfl
theorem impl_signIn_ev (cs:Int) (b:List Int) (p:Nat) (hp:p<b.length) (hb:Bytes b) (hl:b.length≤4611686018427387904):Ev (fun k=>impl_signIn.f k cs b (p:Int)) (signIn cs b (p:Int)):=by
  have hr:=hb.rd (p:Int);simp only[impl_signIn.f];unfold signIn;by_cases c0:cs=0
  · rw[if_pos c0];exact ev_pos c0 (ev_bind (impl_GetSign_ev b p hb hl) (Ev.now _))
  · rw[if_neg c0]
    by_cases c5:cs=5
    · rw[if_pos c5];exact ev_neg c0 (ev_pos c5 (ev_bind (impl_EucSign_ev b p hb hl) (Ev.now _)))
    · rw[if_neg c5,w64 (x:=rd b (p:Int)) (by omega) (by omega)]
      refine ev_neg c0 (ev_neg c5 (ev_pos (by omega) (ev_pos (by omega) (ev_bind (impl_ByteSign_ev cs (rd b (p:Int))) ?_))));rw[w64 (x:=(p:Int)+1) (by omega) (by omega)];exact Ev.now _
theorem impl_SignOk_eq (n:Int):impl_SignOk.f n=some (signOk n):=by
  unfold impl_SignOk.f signOk;simp only[impl_within_eq,Option.bind_some];cases inR n 0 1114111<;>simp
theorem appendRune_j3 (k:Nat) (b:List Int) (n m:Int) (h:b.length+4<140737488355328) (h0:0≤n) (h1:n≤65535):utf8_appendRuneNonASCII.j0 (k+1) b n m true=some (b++[224+n/4096,128+n/64%64,128+n%64]):=by
  simp only[utf8_appendRuneNonASCII.j0,Option.bind_some,List.length_cons,List.length_nil];rw[if_pos trivial,if_pos (by omega),show n/4096%256=n/4096 by omega,u8_or224 _ (by omega) (by omega)]
theorem appendRune_j4 (k:Nat) (b:List Int) (n m:Int) (h:b.length+4<140737488355328) (h0:65536≤n) (h1:n≤1114111) (hm:m=n):utf8_appendRuneNonASCII.j0 (k+1) b n m false=some (b++[240+n/262144,128+n/4096%64,128+n/64%64,128+n%64]):=by
  subst hm;simp only[utf8_appendRuneNonASCII.j0,Option.bind_some,List.length_cons,List.length_nil];rw[if_neg (by decide),if_pos (by omega),if_pos (by omega),if_pos (by omega),show m/262144%256=m/262144 by omega,u8_or240 _ (by omega) (by omega)]
theorem appendRuneNonASCII_eq (k:Nat) (b:List Int) (n:Int) (h:b.length+4<140737488355328) (h1:signOk n=true) (h2:128≤n):utf8_appendRuneNonASCII.f (k+1) b n=some (b++enc n):=by
  have hr:=signOk_iff.1 h1;have hm:n%4294967296=n:=by omega
  unfold enc;simp only[utf8_appendRuneNonASCII.f,Option.bind_some,hm,List.length_cons,List.length_nil];rw[if_neg (c:=n≤127) (by omega)];by_cases h3:n≤2047
  · rw[if_pos h3,if_pos h3,show n/64%256=n/64 by omega,u8_or192 _ (by omega) (by omega),if_pos (by omega)]
  · rw[if_neg h3,if_neg h3]
    by_cases h4:n≤65535
    · rw[if_pos h4]
      by_cases h5:n<55296
      · rw[if_pos h5,decide_eq_true h5];exact appendRune_j3 k b n n h (by omega) h4
      · rw[if_neg h5,if_pos (by omega),decide_eq_true h4];exact appendRune_j3 k b n n h (by omega) h4
    · rw[if_neg h4,if_neg (by omega),if_pos (by omega),decide_eq_false h4];exact appendRune_j4 k b n n h (by omega) (by omega) rfl
theorem AppendRune_eq (k:Nat) (b:List Int) (n:Int) (h:b.length+4<140737488355328) (h1:signOk n=true):utf8_AppendRune.f (k+1) b n=some (b++enc n):=by
  have hr:=signOk_iff.1 h1;simp only[utf8_AppendRune.f];by_cases h2:n≤127
  · rw[if_pos (by omega),if_pos (by omega),show n%256=n by omega];unfold enc;rw[if_pos h2]
  · rw[if_neg (by omega),appendRuneNonASCII_eq k b n h h1 (by omega)];rfl
theorem impl_PutSign_ev (b:List Int) (n:Int) (h:b.length+4<140737488355328):Ev (fun k=>impl_PutSign.f k b n) (putSign b n):=by
  unfold putSign encOk;simp only[impl_PutSign.f,impl_SignOk_eq];refine ev_bind (impl_joined_1 b (by omega)) ?_;simp only[Option.bind_some];by_cases h1:signOk n=true
  · have hr:=signOk_iff.1 h1
    have e:wrap32 n=n:=by unfold wrap32;omega
    rw[if_pos h1,e];exact ev_pos h1 (ev_bind (ev_shift (ev_same fun k=>AppendRune_eq k b n h h1)) (Ev.now _))
  · rw[if_neg h1]
    exact ev_neg h1 (ev_is (Ev.now _) (by simp))
theorem impl_Feed_l0 (cs:Int) (all:List Int) (hb:Bytes all) (hl:all.length≤2097152) (h0:List Int) (b0:Bool) (c0:Int) (d:Nat):∀(p:Nat) (out:List Int),all.length≤p+d→p≤all.length→out.length≤4*p→
    Ev (fun k=>impl_Feed.l0 k all out (p:Int) cs h0 b0 c0 false) (c0,(feedAll (codeGet cs) (begins cs) (all.drop p)).2.1,(feedAll (codeGet cs) (begins cs) (all.drop p)).2.2,strOfNums (out++(feedAll (codeGet cs) (begins cs) (all.drop p)).1.flatMap encOk)):=by
  induction d with
  |zero=>
    intro p out h1 h2 h3;refine ev_shift ?_;simp only[impl_Feed.l0];rw[show all.drop p=[]from List.drop_of_length_le (by omega),feedAll_nil];exact ev_neg (by omega) (ev_is (Ev.now _) (by simp))
  |succ d ih=>
    intro p out h1 h2 h3;refine ev_shift ?_;simp only[impl_Feed.l0,Int.toNat_natCast];by_cases hp:p<all.length
    · refine ev_pos (by omega) (ev_bind (impl_signIn_ev cs all p hp hb (by omega)) ?_)
      rcases signIn_at cs all p hp with ⟨n,k,e1,e2⟩|⟨e1,e2⟩
      · have hk:=(code_reads cs).pos (drop_ne hp) e1
        rw[List.length_drop]at hk;have hen:=encOk_length n;rw[feedAll_some (code_reads cs) (drop_ne hp) e1,e2];refine ev_pos rfl (ev_bind (impl_PutSign_ev out n (by omega)) (ev_is (ih (p+k) (putSign out n) (by omega) (by omega) (by unfold putSign;rw[List.length_append];omega)) ?_));simp only[List.drop_drop,putSign,List.flatMap_cons,List.append_assoc]
      · rw[feedAll_none (code_reads cs) (drop_ne hp) e1]
        refine ev_neg (by rw[e2];simp) (ev_pos (by omega) (ev_pos (by omega) (ev_call (impl_begins_eq cs (all.drop p) (hb.drop p)) ?_)));by_cases z:begins cs (all.drop p)=true
        · rw[if_pos z]
          exact ev_pos z (ev_bind (impl_joined_1 (all.drop p) (by rw[List.length_drop];omega)) (ev_is (Ev.now _) (by simp)))
        · rw[if_neg z];exact ev_neg z (ev_is (Ev.now _) (by simp))
    · rw[List.drop_of_length_le (by omega),feedAll_nil]
      exact ev_neg (by omega) (ev_is (Ev.now _) (by simp))
theorem impl_Feed_ev (cs:Int) (h:List Int) (c:Bool) (b:List Int) (hb:Bytes h) (bb:Bytes b) (hl:h.length≤1048576) (bl:b.length≤1048576):Ev (fun k=>impl_Feed.f k cs h c b) (cs,feed cs h c b):=by
  simp only[impl_Feed.f];refine ev_bind (impl_joined_1 h (by omega)) (ev_call (impl_DecOk_eq cs h c hb) ?_);unfold feed;by_cases z:decOk cs h c=true
  · refine ev_pos z (ev_shift ?_)
    simp only[impl_Feed.j0]
    cases c with
    |true=>rw[if_neg (by simp)];exact ev_pos rfl (Ev.now _)
    |false=>
      rw[if_pos ⟨z,rfl⟩];refine ev_neg (by simp) (ev_bind (impl_joined_2 h b (by omega)) (ev_is (impl_Feed_l0 cs (h++b) (hb.append bb) (by rw[List.length_append];omega) h false cs (h++b).length 0 [] (by omega) (by omega) (by simp)) ?_));rw[List.drop_zero,List.nil_append]
  · rw[if_neg (fun y=>z y.1)]
    refine ev_neg z (ev_shift ?_);simp only[impl_Feed.j0];exact ev_pos trivial (Ev.now _)
theorem DrawDecEnd_ev (c:List Int) (hl:c.length≤4611686018427387904):∃t l o,Ev (fun k=>spec_DrawDecEnd.f k c) (t,l,o)∧Bytes l∧l.length≤5000:=by
  obtain⟨h,hN⟩:=l1New_ev c hl;obtain⟨t,l,o,i1,g1,e1,_,q,r⟩:=l6Any_ev c 0 h (by omega) hl;refine⟨t,l,o,?_,q,r⟩;simp only[spec_DrawDecEnd.f];exact ev_bind hN (ev_bind e1 (Ev.now _))
theorem DrawDecNew_ev (c:List Int) (hl:c.length≤4611686018427387904):∃n,Ev (fun k=>spec_DrawDecNew.f k c) n:=by
  obtain⟨h,hN⟩:=l1New_ev c hl;obtain⟨x,i1,g1,e1,_⟩:=l3Any_ok c 0 h (by omega) hl;refine⟨x,?_⟩;simp only[spec_DrawDecNew.f];exact ev_bind hN (ev_call e1 (Ev.now _))
def decEnd (cs:Int) (l:List Int) (c:Bool):Bool:=decOk cs l c&&(!c&&decide (l=[]))
theorem impl_DecEnd_eq (cs:Int) (l:List Int) (c:Bool) (hb:Bytes l):impl_DecEnd.f cs l c=some (decEnd cs l c):=by
  unfold impl_DecEnd.f decEnd;rw[impl_DecOk_eq cs l c hb];simp only[Option.bind_some];by_cases h:decOk cs l c=true
  · rw[if_pos h,h]
    cases c with
    |true=>simp
    |false=>
      simp only[Bool.false_eq_true,if_false,Bool.not_false,Bool.true_and,Option.some.injEq];by_cases hl:l=[]
      · subst hl;simp
      · have h1:0<l.length:=List.length_pos_iff.2 hl
        rw[decide_eq_false hl];exact beq_eq_false_iff_ne.2 (by omega)
  · rw[if_neg h,Bool.eq_false_iff.2 h];rfl
theorem spec_DecEnd_ev (cs:Int) (l:List Int) (c:Bool) (hb:Bytes l) (hl:l.length≤4611686018427387904):Ev (fun k=>spec_DecEnd.f k cs l c) (decOk cs l c&&(!c&&decide (l=[]))):=by
  simp only[spec_DecEnd.f];refine ev_bind (spec_DecOk_ev cs l c hb hl) ?_;by_cases h:decOk cs l c=true
  · rw[h,Bool.true_and]
    refine ev_pos rfl ?_
    cases c with
    |true=>exact ev_pos rfl (Ev.now _)
    |false=>
      refine ev_neg (by simp) (ev_is (Ev.now _) ?_);simp only[Bool.not_false,Bool.true_and];by_cases hn:l=[]
      · subst hn;rfl
      · have h1:0<l.length:=List.length_pos_iff.2 hn
        rw[decide_eq_false hn];exact beq_eq_false_iff_ne.2 (by omega)
  · rw[Bool.eq_false_iff.2 h,Bool.false_and];exact ev_neg (by simp) (Ev.now _)
theorem impl_DecNew_eq (n:Int):impl_DecNew.f n=some (n,[],false):=rfl
theorem FnStreamsBent:laws_FnStreamsBent.Pure:=by
  intro l _ _ _;apply Ev.rounds;simp only[laws_FnStreamsBent.f];by_cases h:(l.length:Int)>1048576
  · exact ev_call (laws_big_eq l) (ev_pos (decide_eq_true h) (Ev.now _))
  refine ev_call (laws_big_eq l) (ev_neg (by simpa using h) ?_);have hl:l.length≤4611686018427387904:=by omega
  obtain⟨t,s,o,d1,sb,sl⟩:=DrawDecOk_ev l hl;obtain⟨t2,s2,o2,b,d2,sb2,sl2,bb,bl⟩:=DrawFeed_ev l hl;obtain⟨t3,s3,o3,d3,sb3,sl3⟩:=DrawDecEnd_ev l hl;obtain⟨n,d4⟩:=DrawDecNew_ev l hl;refine ev_bind d1 (ev_bind d2 (ev_bind (impl_Feed_ev t2 s2 o2 b sb2 bb (by omega) (by omega)) (ev_bind (spec_Feed_ev t2 s2 o2 b sb2 bb (by omega) (by omega)) (ev_bind d3 (ev_bind d4 ?_)))));refine ev_call (impl_DecOk_eq t s o sb) (ev_bind (spec_DecOk_ev t s o sb (by omega)) (ev_pos (by simp) (ev_pos rfl (ev_pos (by simp) (ev_pos rfl (ev_pos rfl ?_))))));refine ev_call (impl_DecEnd_eq t3 s3 o3 sb3) (ev_bind (spec_DecEnd_ev t3 s3 o3 sb3 (by omega)) (ev_pos (by simp[decEnd]) (ev_call (impl_DecNew_eq n) (ev_pos rfl (ev_call (impl_DecNew_eq n) (ev_is (Ev.now _) rfl))))))
end Go.Proofs.YtjadcnkelffdgaaDoor.Pure
