/- What the program's functions compute, in plain Lean over whole numbers and lists, with plain lemmas on it; no program in sight, no condition beyond those that each lemma names. -/
import Derived.Test.YtjadcnkelffdgaaDoorBase
namespace Go.Proofs.YtjadcnkelffdgaaDoor.Model
open Go.RowKit Go.Proofs.YtjadcnkelffdgaaDoorW.PrintWords Go.Proofs.YtjadcnkelffdgaaDoor.Base
def inR (a lo hi:Int):Bool:=decide (lo≤a)&&decide (a≤hi)
theorem inR_true {a lo hi:Int}:inR a lo hi=true↔lo≤a∧a≤hi:=by simp[inR]
theorem inR_false {a lo hi:Int}:inR a lo hi=false↔¬(lo≤a∧a≤hi):=by rw[←inR_true];simp
def signOk (n:Int):Bool:=inR n 0 1114111&& !inR n 55296 57343
def pairSign (hi lo:Int):Int×Bool:=
  if hi=164∧161≤lo∧lo≤243 then(12353+lo-161,true)else if hi=165∧161≤lo∧lo≤246 then(12449+lo-161,true)else(0,false)
def signPair (n:Int):Int×Int×Bool:=
  if 12353≤n∧n≤12435 then(164,n-12353+161,true)else if 12449≤n∧n≤12534 then(165,n-12449+161,true)else(0,0,false)
def weight (n:Int):Int:=
  if n=32∨(97≤n∧n≤122)∨(48≤n∧n≤57)then 3
  else if(65≤n∧n≤90)∨(192≤n∧n≤591)∨(1024≤n∧n≤1119)∨(12353≤n∧n≤12543)then 2
  else if n=9∨n=10∨n=13 then 0
  else if n<32∨(127≤n∧n≤159)then-5 else 0
def csNames:List ByteArray:=[⟨#[117,116,102,56]⟩,⟨#[108,97,116,105,110,49]⟩,⟨#[108,97,116,105,110,57]⟩,⟨#[107,111,105,56]⟩,⟨#[99,112,49,50,53,50]⟩,⟨#[101,117,99,106,112]⟩]
def csName (cs:Int):ByteArray:=if 0≤cs∧cs≤5 then csNames.getD cs.toNat ⟨#[]⟩else⟨#[]⟩
def csOfFrom (s:List UInt8):Nat→Int→Int
  |0,_=>-1
  |d+1,i=>if(csName i).toList=s then i else csOfFrom s d (i+1)
def csOf (s:ByteArray):Int:=csOfFrom s.toList 6 0
def getW (b:List Int) (p:Int):Int×Int×Bool:=
  if 0≤p∧p+2≤b.length then(rd b p*256+rd b (p+1),p+2,true)else(0,0,false)
def getText (b:List Int) (p:Int):ByteArray×Int×Bool:=
  if(getW b p).2.2=true∧(getW b p).1≤60∧p+2+(getW b p).1≤b.length then(strOfNums ((b.take (p+2+(getW b p).1).toNat).drop (p+2).toNat),p+2+(getW b p).1,true)
  else(⟨#[]⟩,0,false)
def word (n:Int):List Int:=[n/256%256,n%256]
def nameFrom (s:ByteArray):Nat→Nat→Bool
  |0,_=>inR s.size 1 6
  |d+1,i=>if inR (bt s i) 97 122=true∨inR (bt s i) 48 57=true then nameFrom s d (i+1)else false
def nameOk (s:ByteArray):Bool:=nameFrom s s.size 0
def sumBit (x:Nat):Nat:=if x*2>65535 then(x*2)^^^69665 else x*2
def sumBits:Nat→Nat→Nat
  |0,x=>x
  |n+1,x=>sumBits n (sumBit x)
def sumByte (x:Nat) (b:Int):Nat:=sumBits 8 (x^^^(b.toNat*256))
def sumFrom (x:Nat) (l:List Int):Nat:=l.foldl sumByte x
theorem sumFrom_cons (x:Nat) (b:Int) (l:List Int):sumFrom x (b::l)=sumFrom (sumByte x b) l:=List.foldl_cons ..
def sum (b:List Int):Int:=(sumFrom 65535 b:Nat)
def marks (m:Int) (n:Nat):List Int:=(List.range n).map fun j:Nat=>(m+(j:Int))%256
def eucSign (b:List Int) (p:Int):Int×Int×Bool:=
  if 0≤p∧p<b.length then
    if rd b p≤127 then(rd b p,p+1,true)
    else if p+1<b.length∧(pairSign (rd b p) (rd b (p+1))).2=true then((pairSign (rd b p) (rd b (p+1))).1,p+2,true)else(0,0,false)
  else(0,0,false)
def eucOf (n:Int):List Int×Bool:=
  if 0≤n∧n≤127 then([n],true)else if(signPair n).2.2=true then([(signPair n).1,(signPair n).2.1],true)else([],false)
def enc (n:Int):List Int:=
  if n≤127 then[n]else if n≤2047 then[192+n/64,128+n%64]
  else if n≤65535 then[224+n/4096,128+n/64%64,128+n%64]
  else[240+n/262144,128+n/4096%64,128+n/64%64,128+n%64]
def encOk (n:Int):List Int:=if signOk n=true then enc n else[]
def putSign (b:List Int) (n:Int):List Int:=b++encOk n
def nineM (b:Int):Int:=if b=164 then 8364 else if b=166 then 352 else if b=168 then 353 else if b=180 then 381 else if b=184 then 382 else if b=188 then 338 else if b=189 then 339 else if b=190 then 376 else b
def koiList:List Int:=[1102,1072,1073,1094,1076,1077,1092,1075,1093,1080,1081,1082,1083,1084,1085,1086,1087,1103,1088,1089,1090,1091,1078,1074,1100,1099,1079,1096,1101,1097,1095,1098]
def koiM (b:Int):Int:=if b≥224 then rd koiList (b-224)-32 else if b≥192 then rd koiList (b-192)else if b=163 then 1105 else if b=179 then 1025 else 0
def winList:List Int:=[8364,0,8218,402,8222,8230,8224,8225,710,8240,352,8249,338,0,381,0,0,8216,8217,8220,8221,8226,8211,8212,732,8482,353,8250,339,0,382,376]
def winM (b:Int):Int:=if b≥160 then b else rd winList (b-128)
def highM (cs b:Int):Int:=if cs=2 then nineM b else if cs=3 then koiM b else if cs=4 then winM b else b
def byteSign (cs b:Int):Int×Bool:=
  if(1≤cs∧cs≤4)∧(0≤b∧b≤255)then(if b≤127 then(b,true)else if highM cs b=0 then(0,false)else(highM cs b,true))else(0,false)
def signByteFrom (cs n:Int):Nat→Int→Int×Bool
  |0,_=>(0,false)
  |d+1,b=>if(byteSign cs b).2=true∧(byteSign cs b).1=n then(b,true)else signByteFrom cs n d (b+1)
def signByte (cs n:Int):Int×Bool:=signByteFrom cs n 256 0
theorem high_of {P:Int→Prop} (h:∀j:Fin 128,P ((128+j.val:Nat):Int)) (b:Int) (h0:128≤b) (h1:b≤255):P b:=by
  obtain⟨m,hm⟩:=Int.eq_ofNat_of_zero_le (show 0≤b-128 by omega);have:=h ⟨m,by omega⟩;simp only at this
  rwa [show((128+m:Nat):Int)=b by omega]at this
theorem wraps_i64 (n:Int) (h0:0≤n) (h1:n<2^62):IntKind.i64.wrap n=n:=by rw[IntKind.wrap_i64];omega
theorem or_byte {x y:Int} (h0:0≤x) (h1:x≤255) (h2:0≤y) (h3:y≤255):Go.bits .or .i64 (x*256) y=x*256+y:=
  bits_join .i64 62 (by decide) wraps_i64 8 (x*256) y (by omega) (by omega) (by omega) h2 (by omega) (by omega)
theorem i64_wrap (n:Int):IntKind.i64.wrap n=wrap64 n:=by rw[IntKind.wrap_i64,wrap64]
theorem and_nat (x:Int) (m:Nat) (hm:m<2^62):Go.bits .and .i64 x (m:Int)=(((x%18446744073709551616).toNat&&&m:Nat):Int):=by
  have e:(BitVec.ofInt 64 x).toNat=(x%18446744073709551616).toNat:=by
    rw[BitVec.toNat_ofInt,show((2^64:Nat):Int)=18446744073709551616 by decide]
  have h:Go.bits .and .i64 x (m:Int)=IntKind.i64.wrap (((BitVec.ofInt 64 x).toNat&&&(BitVec.ofInt 64 (m:Int)).toNat:Nat):Int):=by
    rw[←BitVec.toNat_and];rfl
  have hm':m%2^64=m:=Nat.mod_eq_of_lt (by omega);rw[h,e,BitVec.ofInt_natCast,BitVec.toNat_ofNat,hm'];have:=Nat.and_lt_two_pow (x%18446744073709551616).toNat hm;exact wraps_i64 _ (by omega) (by omega)
theorem and_255 (x:Int):Go.bits .and .i64 x 255=x%256:=by
  have h:=and_nat x 255 (by decide);rw[show(255:Nat)=2^8-1 by decide,Nat.and_two_pow_sub_one_eq_mod]at h;rw[show(255:Int)=((2^8-1:Nat):Int) by decide,h];omega
theorem and_65535 (x:Int):Go.bits .and .i64 x 65535=x%65536:=by
  have h:=and_nat x 65535 (by decide);rw[show(65535:Nat)=2^16-1 by decide,Nat.and_two_pow_sub_one_eq_mod]at h;rw[show(65535:Int)=((2^16-1:Nat):Int) by decide,h];omega
theorem and_63 (x:Int):Go.bits .and .i64 x 63=x%64:=by
  have h:=and_nat x 63 (by decide);rw[show(63:Nat)=2^6-1 by decide,Nat.and_two_pow_sub_one_eq_mod]at h;rw[show(63:Int)=((2^6-1:Nat):Int) by decide,h];omega
theorem or_128 {y:Int} (h0:0≤y) (h1:y<64):Go.bits .or .i64 128 y=128+y:=
  bits_join .i64 62 (by decide) wraps_i64 6 128 y (by omega) (by omega) (by omega) h0 (by omega) (by omega)
theorem or_192 {y:Int} (h0:0≤y) (h1:y<64):Go.bits .or .i64 192 y=192+y:=
  bits_join .i64 62 (by decide) wraps_i64 6 192 y (by omega) (by omega) (by omega) h0 (by omega) (by omega)
theorem or_224 {y:Int} (h0:0≤y) (h1:y<32):Go.bits .or .i64 224 y=224+y:=
  bits_join .i64 62 (by decide) wraps_i64 5 224 y (by omega) (by omega) (by omega) h0 (by omega) (by omega)
theorem or_240 {y:Int} (h0:0≤y) (h1:y<16):Go.bits .or .i64 240 y=240+y:=
  bits_join .i64 62 (by decide) wraps_i64 4 240 y (by omega) (by omega) (by omega) h0 (by omega) (by omega)
theorem signOk_iff {n:Int}:signOk n=true↔(0≤n∧n≤55295)∨(57344≤n∧n≤1114111):=by
  unfold signOk;rw[Bool.and_eq_true,Bool.not_eq_true',inR_true,inR_false];omega
theorem pairSign_range {a b:Int} (h:(pairSign a b).2=true):12353≤(pairSign a b).1∧(pairSign a b).1≤12534:=by
  unfold pairSign at h⊢;by_cases h1:a=164∧161≤b∧b≤243
  · rw[if_pos h1];simp only[];omega
  · by_cases h2:a=165∧161≤b∧b≤246
    · rw[if_neg h1,if_pos h2];simp only[];omega
    · rw[if_neg h1,if_neg h2]at h;cases h
theorem signPair_mod (n:Int):(signPair n).1%256=(signPair n).1∧(signPair n).2.1%256=(signPair n).2.1:=by
  unfold signPair;by_cases h1:12353≤n∧n≤12435
  · rw[if_pos h1];simp only[];omega
  · by_cases h2:12449≤n∧n≤12534
    · rw[if_neg h1,if_pos h2];simp only[];omega
    · rw[if_neg h1,if_neg h2];decide
theorem eucOf_length (n:Int):(eucOf n).1.length≤2:=by
  unfold eucOf;by_cases h1:0≤n∧n≤127
  · rw[if_pos h1];simp
  · by_cases h2:(signPair n).2.2=true
    · rw[if_neg h1,if_pos h2];simp
    · rw[if_neg h1,if_neg h2];simp
theorem enc_length (n:Int):(enc n).length≤4:=by
  unfold enc;by_cases h1:n≤127
  · rw[if_pos h1];simp
  · by_cases h2:n≤2047
    · rw[if_neg h1,if_pos h2];simp
    · by_cases h3:n≤65535
      · rw[if_neg h1,if_neg h2,if_pos h3];simp
      · rw[if_neg h1,if_neg h2,if_neg h3];simp
theorem encOk_length (n:Int):(encOk n).length≤4:=by
  unfold encOk;by_cases h:signOk n=true
  · rw[if_pos h];exact enc_length n
  · rw[if_neg h];simp
theorem rd_nat (l:List Int) (i:Nat):rd l (i:Int)=l.getD i 0:=by simp[rd]
theorem rd_lt (l:List Int) (i:Nat) (h:i<l.length):rd l (i:Int)=l[i]:=by
  rw[rd_nat,List.getD_eq_getElem?_getD,List.getElem?_eq_getElem h];rfl
theorem next_nat (i:Nat) (h:i≤9223372036854775806):wrap64 ((i:Int)+1)=((i+1:Nat):Int):=by unfold wrap64;omega
def marksI (m:Int) (n:Nat):List Int:=(List.range n).map fun j:Nat=>m+(j:Int)
theorem marksI_length (m:Int) (n:Nat):(marksI m n).length=n:=by simp[marksI]
theorem marksI_get (m:Int) (n i:Nat) (h:i<n):(marksI m n)[i]? =some (m+(i:Int)):=by
  rw[marksI,List.getElem?_map,List.getElem?_range h];rfl
theorem marks_length (m:Int) (n:Nat):(marks m n).length=n:=by simp[marks]
theorem marks_get (m:Int) (n i:Nat) (h:i<n):(marks m n)[i]? =some ((m+(i:Int))%256):=by
  rw[marks,List.getElem?_map,List.getElem?_range h];rfl
theorem xor_nat (a b:Nat) (ha:a<2^62) (hb:b<2^62):Go.bits .xor .i64 (a:Int) (b:Int)=((a^^^b:Nat):Int):=by
  have ha':a%2^64=a:=Nat.mod_eq_of_lt (by omega);have hb':b%2^64=b:=Nat.mod_eq_of_lt (by omega);have h:=Nat.xor_lt_two_pow ha hb
  have e:Go.bits .xor .i64 (a:Int) (b:Int)=IntKind.i64.wrap (((BitVec.ofInt 64 (a:Int)).toNat^^^(BitVec.ofInt 64 (b:Int)).toNat:Nat):Int):=by
    rw[←BitVec.toNat_xor];rfl
  rw[e,BitVec.ofInt_natCast,BitVec.ofInt_natCast,BitVec.toNat_ofNat,BitVec.toNat_ofNat,ha',hb'];exact wraps_i64 _ (by omega) (by omega)
theorem sumBit_le (x:Nat) (h:x≤65535):sumBit x≤65535:=by
  unfold sumBit;by_cases h1:x*2>65535
  · rw[if_pos h1]
    have e:(x*2^^^69665)>>>16=0:=by
      rw[Nat.shiftRight_xor_distrib,Nat.shiftRight_eq_div_pow,show x*2/2^16=1 by omega];rfl
    rw[Nat.shiftRight_eq_div_pow]at e;omega
  · rw[if_neg h1];omega
theorem sumBits_le (n:Nat):∀x:Nat,x≤65535→sumBits n x≤65535:=by
  induction n with
  |zero=>intro x h;exact h
  |succ n ih=>intro x h;exact ih _ (sumBit_le x h)
theorem xor_byte_le (x:Nat) (b:Int) (h:x≤65535) (h0:0≤b) (h1:b≤255):x^^^(b.toNat*256)≤65535:=by
  have:=Nat.xor_lt_two_pow (n:=16) (show x<2^16 by omega) (show b.toNat*256<2^16 by omega);omega
theorem sumByte_le (x:Nat) (b:Int) (h:x≤65535) (h0:0≤b) (h1:b≤255):sumByte x b≤65535:=sumBits_le 8 _ (xor_byte_le x b h h0 h1)
end Go.Proofs.YtjadcnkelffdgaaDoor.Model
