import Derived.Test.YtjacdajcppcdlaaGreatDoorPlReturnTimec
set_option linter.unusedVariables false
set_option maxRecDepth 100000
noncomputable section
namespace Go.Cm
open IntKind (wrap)
def P.i_rat_add (k:Nat) (x:RB×RB×Unit):Option (RB×Unit):=
 (S.a0v ((x.1.1,x.1.2.1,x.1.2.2),())).bind fun y0=>if y0.1==0 then some ((x.2.1.1,x.2.1.2.1,x.2.1.2.2),())else(S.a0v ((x.2.1.1,x.2.1.2.1,x.2.1.2.2),())).bind fun y1=>if y1.1==0 then some ((x.1.1,x.1.2.1,x.1.2.2),())else(S.i_nat_cmp (x.1.2.2,x.2.1.2.2,())).bind fun y2=>if y2.1 != 0 then(S.i_nat_mul (x.1.2.1,x.2.1.2.2,())).bind fun y3=>(S.i_nat_mul (x.2.1.2.1,x.1.2.2,())).bind fun y4=>(S.i_nat_mul (x.1.2.2,x.2.1.2.2,())).bind fun y5=>if x.1.1==x.2.1.1 then(S.i_nat_add (y3.1,y4.1,())).bind fun y6=>(S.i_lowest (x.1.1,y6.1,y5.1,())).bind fun y7=>some ((y7.1.1,y7.1.2.1,y7.1.2.2),())else(S.i_nat_cmp (y3.1,y4.1,())).bind fun y8=>if decide (y8.1>=0)then(S.i_nat_sub (y3.1,y4.1,())).bind fun y9=>(S.i_lowest (x.1.1,y9.1,y5.1,())).bind fun y10=>some ((y10.1.1,y10.1.2.1,y10.1.2.2),())else(S.i_nat_sub (y4.1,y3.1,())).bind fun y11=>(S.i_lowest (x.2.1.1,y11.1,y5.1,())).bind fun y12=>some ((y12.1.1,y12.1.2.1,y12.1.2.2),())else if x.1.1==x.2.1.1 then(S.i_nat_add (x.1.2.1,x.2.1.2.1,())).bind fun y13=>(S.i_lowest (x.1.1,y13.1,x.1.2.2,())).bind fun y14=>some ((y14.1.1,y14.1.2.1,y14.1.2.2),())else(S.i_nat_cmp (x.1.2.1,x.2.1.2.1,())).bind fun y15=>if decide (y15.1>=0)then(S.i_nat_sub (x.1.2.1,x.2.1.2.1,())).bind fun y16=>(S.i_lowest (x.1.1,y16.1,x.1.2.2,())).bind fun y17=>some ((y17.1.1,y17.1.2.1,y17.1.2.2),())else(S.i_nat_sub (x.2.1.2.1,x.1.2.1,())).bind fun y18=>(S.i_lowest (x.2.1.1,y18.1,x.1.2.2,())).bind fun y19=>some ((y19.1.1,y19.1.2.1,y19.1.2.2),())
theorem ra_mul (p q:Nat) (hp:(nd B32 p).length<=100000000) (hq:(nd B32 q).length<=100000000):S.i_nat_mul (nd B32 p,(nd B32 q,()))=some (nd B32 (p*q),()):=by
 unfold S.i_nat_mul;dsimp only;rw[if_pos ⟨dig_nd a0e _,dig_nd a0e _,by omega,by omega⟩,a0i a0e,a0i a0e]
theorem ra_add (p q:Nat) (hp:(nd B32 p).length<=100000000) (hq:(nd B32 q).length<=100000000):S.i_nat_add (nd B32 p,(nd B32 q,()))=some (nd B32 (p+q),()):=by
 unfold S.i_nat_add;dsimp only;rw[if_pos ⟨dig_nd a0e _,dig_nd a0e _,by omega,by omega⟩,a0i a0e,a0i a0e]
theorem ra_sub (p q:Nat) (hp:(nd B32 p).length<=100000000) (h:q<=p):S.i_nat_sub (nd B32 p,(nd B32 q,()))=some (nd B32 (p - q),()):=by
 unfold S.i_nat_sub;dsimp only;rw[a0i a0e,a0i a0e,if_pos ⟨dig_nd a0e _,dig_nd a0e _,nd_shorter' a0e h,h,by omega⟩]
theorem ra_cmp (p q:Nat) (hp:(nd B32 p).length<=100000000):S.i_nat_cmp (nd B32 p,(nd B32 q,()))=some (cmpN p q,()):=by
 unfold S.i_nat_cmp;dsimp only;rw[if_pos ⟨a0j a0e _,a0j a0e _,by omega⟩,a0i a0e,a0i a0e]
theorem ra_low (n:Bool) (p q:Nat) (hp:(nd B32 p).length<=100000000) (hq:(nd B32 q).length<=100000000) (h0:q≠0):S.i_lowest (n,(nd B32 p,(nd B32 q,())))=some (rp B32 (lowN n p q),()):=by
 unfold S.i_lowest;dsimp only;rw[if_pos ⟨a0j a0e _,a0j a0e _,nd_ne a0e h0,by omega,by omega⟩,a0i a0e,a0i a0e]
theorem ra_sign (n:Bool) (p:Nat) (bs:List Int):S.a0v ((n,(nd B32 p,bs)),())=some (sgnQ n p,()):=by
 unfold S.a0v;dsimp only;rw[if_pos (a0j a0e _),a0i a0e]
def S.a0x (x:(RB×(RB×Unit))):(Option (RB×Unit)):=if lowb B32 40000000 x.1=true/\lowb B32 40000000 x.2.1=true then some (rp B32 (addQ (rv B32 x.1) (rv B32 x.2.1)),())else none
theorem S.i_rat_add_ok (x r) (h:S.a0x x=some r):∃k,P.i_rat_add k x=some r:=by
 obtain⟨x,y,u⟩:=x;unfold S.a0x at h;dsimp only at h;split at h
 case isFalse=>cases h
 rename_i hc;obtain⟨hx,hy⟩:=hc;cases h;rw[lowb_iff]at hx hy;obtain⟨hx,lx⟩:=hx;obtain⟨hy,ly⟩:=hy;obtain⟨n1,p1,q1,rfl,x1,x2⟩:=rok_nd hx;obtain⟨n2,p2,q2,rfl,y1,y2⟩:=rok_nd hy;rw[rv_nd a0e]at lx ly ⊢;rw[rv_nd a0e];have hq1:q1≠0:=by have:0<q1:=lx.1;omega
 have hq2:q2≠0:=by have:0<q2:=ly.1;omega
 refine⟨0,?_⟩;unfold P.i_rat_add;dsimp only;rw[ra_sign,Option.bind_some];dsimp only
 by_cases h1:p1=0
 ·rw[if_pos (by simpa using sgnQ_zero.2 h1),addQ_zero_left _ _ lx ly h1];rfl
 ·rw[if_neg (by simpa using fun q=>h1 (sgnQ_zero.1 q)),ra_sign,Option.bind_some];dsimp only
  by_cases h2:p2=0
  ·rw[if_pos (by simpa using sgnQ_zero.2 h2),addQ_zero_right _ _ lx ly h2];rfl
  ·rw[if_neg (by simpa using fun q=>h2 (sgnQ_zero.1 q)),ra_cmp q1 q2 (by omega),Option.bind_some];dsimp only;have m1:=nd_mul_len a0e p1 q2;have m2:=nd_mul_len a0e p2 q1;have m3:=nd_mul_len a0e q1 q2
   by_cases hq:q1=q2
   ·rw[if_neg (by simpa using cmpN_zero.2 hq),addQ_same _ _ lx hq];dsimp only;have a1:=nd_add_len a0e p1 p2;have a2:=nd_sub_len a0e p1 p2;have a3:=nd_sub_len a0e p2 p1
    by_cases hn:n1=n2
    ·rw[if_pos (by simpa using hn),if_pos hn,ra_add p1 p2 (by omega) (by omega),Option.bind_some,ra_low n1 _ q1 (by omega) (by omega) hq1,Option.bind_some]
    ·rw[if_neg (by simpa using hn),if_neg hn,ra_cmp p1 p2 (by omega),Option.bind_some];dsimp only;have hlt:=cmpN_lt (a:=p1) (b:=p2)
     by_cases hle:p2<=p1
     ·have hge:cmpN p1 p2>=0:=by omega
      rw[if_pos (decide_eq_true hge),if_pos hle,ra_sub p1 p2 (by omega) hle,Option.bind_some,ra_low n1 _ q1 (by omega) (by omega) hq1,Option.bind_some]
     ·have hge:¬cmpN p1 p2>=0:=by omega
      rw[if_neg (by simpa using hge),if_neg hle,ra_sub p2 p1 (by omega) (by omega),Option.bind_some,ra_low n2 _ q1 (by omega) (by omega) hq1,Option.bind_some]
   ·have hq0:q1*q2≠0:=Nat.mul_ne_zero hq1 hq2;rw[if_pos (by simpa using fun q=>hq (cmpN_zero.1 q)),ra_mul p1 q2 (by omega) (by omega),Option.bind_some,ra_mul p2 q1 (by omega) (by omega),Option.bind_some,ra_mul q1 q2 (by omega) (by omega),Option.bind_some];dsimp only;unfold addQ;dsimp only;have a1:=nd_add_len a0e (p1*q2) (p2*q1);have a2:=nd_sub_len a0e (p1*q2) (p2*q1);have a3:=nd_sub_len a0e (p2*q1) (p1*q2)
    by_cases hn:n1=n2
    ·rw[if_pos (by simpa using hn),if_pos hn,ra_add _ _ (by omega) (by omega),Option.bind_some,ra_low n1 _ _ (by omega) (by omega) hq0,Option.bind_some]
    ·rw[if_neg (by simpa using hn),if_neg hn,ra_cmp _ _ (by omega),Option.bind_some];dsimp only;have hlt:=cmpN_lt (a:=p1*q2) (b:=p2*q1)
     by_cases hle:p2*q1<=p1*q2
     ·have hge:cmpN (p1*q2) (p2*q1)>=0:=by
       rcases Int.lt_or_le (cmpN (p1*q2) (p2*q1)) 0 with g|g
       ·have:=hlt.1 g;omega
       ·exact g
      rw[if_pos (decide_eq_true hge),if_pos hle,ra_sub _ _ (by omega) hle,Option.bind_some,ra_low n1 _ _ (by omega) (by omega) hq0,Option.bind_some]
     ·have hge:¬cmpN (p1*q2) (p2*q1)>=0:=by
       have:=hlt.2 (Nat.lt_of_not_le hle);omega
      rw[if_neg (by simpa using hge),if_neg hle,ra_sub _ _ (by omega) (Nat.le_of_lt (Nat.lt_of_not_le hle)),Option.bind_some,ra_low n2 _ _ (by omega) (by omega) hq0,Option.bind_some]
def P.i_rat_mul (k:Nat) (x:RB×RB×Unit):Option (RB×Unit):=
 (S.a0v ((x.1.1,x.1.2.1,x.1.2.2),())).bind fun y0=>if y0.1==0 then(S.i_whole (0,())).bind fun y1=>some ((y1.1.1,y1.1.2.1,y1.1.2.2),())else(S.a0v ((x.2.1.1,x.2.1.2.1,x.2.1.2.2),())).bind fun y2=>if y2.1==0 then(S.i_whole (0,())).bind fun y3=>some ((y3.1.1,y3.1.2.1,y3.1.2.2),())else(S.i_lowest (false,x.1.2.1,x.2.1.2.2,())).bind fun y4=>(S.i_lowest (false,x.2.1.2.1,x.1.2.2,())).bind fun y5=>(S.i_nat_mul (y4.1.2.1,y5.1.2.1,())).bind fun y6=>(S.i_nat_mul (y4.1.2.2,y5.1.2.2,())).bind fun y7=>some ((! (x.1.1==x.2.1.1),y6.1,y7.1),())
theorem rm_mul (p q:Nat) (hp:(nd B32 p).length<=100000000) (hq:(nd B32 q).length<=100000000):S.i_nat_mul (nd B32 p,(nd B32 q,()))=some (nd B32 (p*q),()):=by
 unfold S.i_nat_mul;dsimp only;rw[if_pos ⟨dig_nd a0e _,dig_nd a0e _,by omega,by omega⟩,a0i a0e,a0i a0e]
theorem rm_low (n:Bool) (p q:Nat) (hp:(nd B32 p).length<=100000000) (hq:(nd B32 q).length<=100000000) (h0:q≠0):S.i_lowest (n,(nd B32 p,(nd B32 q,())))=some (rp B32 (lowN n p q),()):=by
 unfold S.i_lowest;dsimp only;rw[if_pos ⟨a0j a0e _,a0j a0e _,nd_ne a0e h0,by omega,by omega⟩,a0i a0e,a0i a0e]
theorem rm_sign (n:Bool) (p:Nat) (bs:List Int):S.a0v ((n,(nd B32 p,bs)),())=some (sgnQ n p,()):=by
 unfold S.a0v;dsimp only;rw[if_pos (a0j a0e _),a0i a0e]
theorem rm_zero:S.i_whole (0,())=some (rp B32 (false,(0,1)),()):=by
 unfold S.i_whole;rfl
def S.i_rat_mul (x:(RB×(RB×Unit))):(Option (RB×Unit)):=if lowb B32 40000000 x.1=true/\lowb B32 40000000 x.2.1=true then some (rp B32 (mulQ (rv B32 x.1) (rv B32 x.2.1)),())else none
theorem S.i_rat_mul_ok (x r) (h:S.i_rat_mul x=some r):∃k,P.i_rat_mul k x=some r:=by
 obtain⟨x,y,u⟩:=x;unfold S.i_rat_mul at h;dsimp only at h;split at h
 case isFalse=>cases h
 rename_i hc;obtain⟨hx,hy⟩:=hc;cases h;rw[lowb_iff]at hx hy;obtain⟨hx,lx⟩:=hx;obtain⟨hy,ly⟩:=hy;obtain⟨n1,p1,q1,rfl,x1,x2⟩:=rok_nd hx;obtain⟨n2,p2,q2,rfl,y1,y2⟩:=rok_nd hy;rw[rv_nd a0e]at lx ly ⊢;rw[rv_nd a0e];have hq1:0<q1:=lx.1;have hq2:0<q2:=ly.1;refine⟨0,?_⟩;unfold P.i_rat_mul mulQ;dsimp only;rw[rm_sign,Option.bind_some,rm_zero,Option.bind_some];dsimp only
 by_cases h1:p1=0
 ·rw[if_pos (by simpa using sgnQ_zero.2 h1),h1,Nat.zero_mul,lowN_zero _ (Nat.mul_pos hq1 hq2)]
 ·rw[if_neg (by simpa using fun q=>h1 (sgnQ_zero.1 q)),rm_sign,Option.bind_some];dsimp only
  by_cases h2:p2=0
  ·rw[if_pos (by simpa using sgnQ_zero.2 h2),h2,Nat.mul_zero,lowN_zero _ (Nat.mul_pos hq1 hq2)]
  ·have d1:=nd_div_len a0e p1 (Nat.gcd p1 q2);have d2:=nd_div_len a0e p2 (Nat.gcd p2 q1);have d3:=nd_div_len a0e q2 (Nat.gcd p1 q2);have d4:=nd_div_len a0e q1 (Nat.gcd p2 q1);rw[if_neg (by simpa using fun q=>h2 (sgnQ_zero.1 q)),rm_low false p1 q2 (by omega) (by omega) (by omega),Option.bind_some,rm_low false p2 q1 (by omega) (by omega) (by omega),Option.bind_some,cross_mul _ (fun _=>⟨h1,h2⟩) hq1 hq2 lx.2.2 ly.2.2];unfold rp lowN;dsimp only;rw[rm_mul _ _ (by omega) (by omega),Option.bind_some,rm_mul _ _ (by omega) (by omega),Option.bind_some];rfl
def P.i_rat_cmp (k:Nat) (x:RB×RB×Unit):Option (Int×Unit):=
 (S.a0v ((x.1.1,x.1.2.1,x.1.2.2),())).bind fun y0=>(S.a0v ((x.2.1.1,x.2.1.2.1,x.2.1.2.2),())).bind fun y1=>if y0.1 != y1.1 then(S.a0v ((x.1.1,x.1.2.1,x.1.2.2),())).bind fun y2=>(S.a0v ((x.2.1.1,x.2.1.2.1,x.2.1.2.2),())).bind fun y3=>some (wrap .i64 (y2.1 - y3.1),())else(S.i_nat_mul (x.1.2.1,x.2.1.2.2,())).bind fun y4=>(S.i_nat_mul (x.2.1.2.1,x.1.2.2,())).bind fun y5=>(S.i_nat_cmp (y4.1,y5.1,())).bind fun y6=>if x.1.1 then some (wrap .i64 (0 - y6.1),())else some (y6.1,())
def S.i_rat_cmp (x:(RB×(RB×Unit))):(Option (Int×Unit)):=P.i_rat_cmp 0 x
theorem S.i_rat_cmp_ok (x r) (h:S.i_rat_cmp x=some r):∃k,P.i_rat_cmp k x=some r:=⟨0,h⟩
def P.i_rat_isOne (k:Nat) (x:RB×Unit):Option (Bool×Unit):=
 (S.i_whole (1,())).bind fun y0=>(S.i_rat_cmp ((x.1.1,x.1.2.1,x.1.2.2),(y0.1.1,y0.1.2.1,y0.1.2.2),())).bind fun y1=>some (y1.1==0,())
def S.i_rat_isOne (x:(RB×Unit)):(Option (Bool×Unit)):=if rok B32 40000000 x.1=true/\qok (rv B32 x.1)=true then some (isOneQ (rv B32 x.1),())else none
theorem S.i_rat_isOne_ok (x r) (h:S.i_rat_isOne x=some r):∃k,P.i_rat_isOne k x=some r:=by
 obtain⟨x,u⟩:=x;unfold S.i_rat_isOne at h;dsimp only at h;split at h
 case isFalse=>cases h
 rename_i hc;obtain⟨hr,hq⟩:=hc;obtain⟨n,p,q,rfl,l1,l2⟩:=rok_nd hr;rw[rv_nd a0e]at h hq;rw[qok_iff]at hq;obtain⟨h0,h1⟩:=hq;dsimp only at h0 h1;cases h;refine⟨0,?_⟩;have hw:S.i_whole (1,())=some ((false,(nd B32 1,nd B32 1)),()):=by rfl
 unfold P.i_rat_isOne isOneQ;dsimp only;rw[hw,Option.bind_some];dsimp only;unfold S.i_rat_cmp P.i_rat_cmp;dsimp only;have hs:∀(n:Bool) (p:Nat) (ys:List Int),S.a0v ((n,(nd B32 p,ys)),())=some (sgnQ n p,()):=by
  intro n p ys;unfold S.a0v;dsimp only;rw[if_pos (a0j a0e _),a0i a0e]
 have o1:(nd B32 1).length<=40000000:=by rw[nd_one a0e];decide
 have em:∀p q,(nd B32 p).length<=40000000->(nd B32 q).length<=40000000->S.i_nat_mul (nd B32 p,(nd B32 q,()))=some (nd B32 (p*q),()):=by
  intro p q hp hq;unfold S.i_nat_mul;dsimp only;rw[if_pos ⟨dig_nd a0e _,dig_nd a0e _,by omega,by omega⟩,a0i a0e,a0i a0e]
 have ec:S.i_nat_cmp (nd B32 (p*1),(nd B32 (1*q),()))=some (cmpN (p*1) (1*q),()):=by
  unfold S.i_nat_cmp;dsimp only;rw[if_pos ⟨a0j a0e _,a0j a0e _,by rw[Nat.mul_one];omega⟩,a0i a0e,a0i a0e]
 rw[hs,Option.bind_some,hs,Option.bind_some];dsimp only;have s1:sgnQ false 1=1:=rfl;rw[s1]
 by_cases hp:p=0
 ·subst hp;rw[decide_eq_false (fun z=>by have:=z.2;omega)];rfl
 ·cases n
  ·have s2:sgnQ false p=1:=by
    unfold sgnQ;rw[if_neg hp];rfl
   rw[s2,if_neg (by decide),em _ _ l1 o1,Option.bind_some,em _ _ o1 l2,Option.bind_some];dsimp only;rw[ec,Option.bind_some];dsimp only;rw[if_neg (by decide),Option.bind_some];have hz:=cmpN_zero (a:=p*1) (b:=1*q);rw[Nat.mul_one,Nat.one_mul]at hz ⊢
   by_cases he:p=q
   ·rw[decide_eq_true ⟨rfl,he⟩,hz.2 he];rfl
   ·rw[decide_eq_false (fun z=>he z.2)];dsimp only;rw[beq_eq_false_iff_ne.2 (fun z=>he (hz.1 z))]
  ·have s2:sgnQ true p= -1:=by
    unfold sgnQ;rw[if_neg hp];rfl
   rw[s2,decide_eq_false (fun z=>by cases z.1)];rfl
def S.strings_Cut (x:(ByteArray×(ByteArray×Unit))):(Option ((ByteArray×(ByteArray×Bool))×Unit)):=if x.1.size<4294967281 then some ((⟨(Go.Lib.cut x.1.data.toList x.2.1.data.toList).1.toArray⟩,(⟨(Go.Lib.cut x.1.data.toList x.2.1.data.toList).2.1.toArray⟩,(Go.Lib.cut x.1.data.toList x.2.1.data.toList).2.2)),())else none
def S.strings_CutPrefix (x:(ByteArray×(ByteArray×Unit))):(Option ((ByteArray×Bool)×Unit)):=some ((⟨(Go.Lib.trimPrefix x.1.data.toList x.2.1.data.toList).toArray⟩,Go.Lib.hasPrefix x.1.data.toList x.2.1.data.toList),())
def S.strconv_ParseUint (x:(ByteArray×(Int×(Int×Unit)))):(Option ((Int×Bool)×Unit)):=if x.2.1=10/\x.2.2.1=64/\x.1.size<=281474976710656 then some (match Go.Lib.parseUintB 64 x.1.data.toList with| .ok v=>(((v:Nat):Int),false)| .«syntax» =>(0,true)| .range=>(18446744073709551615,true),())else none
abbrev i_readNat.A:=Int×Int×ByteArray×List Int×Unit
abbrev i_readNat.B:=Option ((List Int×Bool)×Unit)
abbrev P.i_readNat_b7 (g5:ByteArray×List Int×Unit->i_readNat.B) (x8:Int×Int×Int×List Int×Int×ByteArray×Int×Unit) (g9:Int×Int×Int×List Int×Int×ByteArray×Int×Unit->i_readNat.B):i_readNat.B:=
 (fun(a b c e h:Int) (d:List Int) (f:ByteArray)=>if decide (a<b)then g9 (wrap .i64 (a+1),b,wrap .u64 (c*10),d,e,f,h,())else(S.i_natOf (c,())).bind fun y10=>(S.i_nat_mul (d,y10.1,())).bind fun y11=>(S.i_natOf (e,())).bind fun y12=>(S.i_nat_add (y11.1,y12.1,())).bind fun y13=>if decide (0<=(f.size:Int))then if decide ((f.size:Int)<=(f.size:Int))then if decide (0<=h)then if decide (h<=(f.size:Int))then g5 (ByteArray.extract f h.toNat (Int.toNat (f.size:Int)),y13.1,())else none else none else none else none) x8.1 x8.2.1 x8.2.2.1 x8.2.2.2.2.1 x8.2.2.2.2.2.2.1 x8.2.2.2.1 x8.2.2.2.2.2.1
abbrev P.i_readNat_b3 (k:Nat) (x4:ByteArray×List Int×Unit) (g5:ByteArray×List Int×Unit->i_readNat.B):i_readNat.B:=
 if ! ((ByteArray.toList x4.1)==(ByteArray.toList (bs [])))then if(Int.tmod (x4.1.size:Int) 9)==0 then if decide (9<=(x4.1.size:Int))then(S.strconv_ParseUint (ByteArray.extract x4.1 0 9,10,64,())).bind fun y6=>loopP (P.i_readNat_b7 g5) k (0,9,1,x4.2.1,y6.1.1,x4.1,9,())else none else if decide (0<=(Int.tmod (x4.1.size:Int) 9))then if decide ((Int.tmod (x4.1.size:Int) 9)<=(x4.1.size:Int))then if decide (0<=(Int.tmod (x4.1.size:Int) 9))then(S.strconv_ParseUint (ByteArray.extract x4.1 0 (Int.toNat (Int.tmod (x4.1.size:Int) 9)),10,64,())).bind fun y14=>loopP (P.i_readNat_b7 g5) k (0,Int.tmod (x4.1.size:Int) 9,1,x4.2.1,y14.1.1,x4.1,Int.tmod (x4.1.size:Int) 9,())else none else none else none else some ((x4.2.1,true),())
abbrev P.i_readNat_b0 (k:Nat) (x1:i_readNat.A) (g2:i_readNat.A->i_readNat.B):i_readNat.B:=
 if decide (x1.1<x1.2.1)then if decide (0<=x1.1)then if decide (x1.1<(x1.2.2.1.size:Int))then if decide ((byteAt x1.2.2.1 x1.1)<48)then some (([],false),())else if decide (0<=x1.1)then if decide (x1.1<(x1.2.2.1.size:Int))then if decide ((byteAt x1.2.2.1 x1.1)>57)then some (([],false),())else g2 (wrap .i64 (x1.1+1),x1.2.1,x1.2.2.1,x1.2.2.2.1,())else none else none else none else none else loopP (P.i_readNat_b3 k) k (x1.2.2.1,x1.2.2.2.1,())
abbrev P.i_readNat_b22 (k:Nat) (x23:i_readNat.A) (g24:i_readNat.A->i_readNat.B):i_readNat.B:=
 (fun(a b:Int) (c:ByteArray) (d:List Int)=>if decide (a<b)then if decide (0<=a)then if decide (a<(c.size:Int))then if decide ((byteAt c a)<48)then some (([],false),())else if decide (0<=a)then if decide (a<(c.size:Int))then if decide ((byteAt c a)>57)then some (([],false),())else g24 (wrap .i64 (a+1),b,c,d,())else none else none else none else none else loopP (P.i_readNat_b3 k) k (c,d,())) x23.1 x23.2.1 x23.2.2.1 x23.2.2.2.1
def P.i_readNat (k:Nat) (x:ByteArray×Unit):i_readNat.B:=
 if(ByteArray.toList x.1)==(ByteArray.toList (bs []))then some (([],false),())else if decide ((x.1.size:Int)>200)then some (([],false),())else if decide (0<(x.1.size:Int))then if(byteAt x.1 0)==48 then if decide ((x.1.size:Int)>1)then some (([],false),())else loopP (P.i_readNat_b0 k) k (0,(x.1.size:Int),x.1,[],())else loopP (P.i_readNat_b22 k) k (0,(x.1.size:Int),x.1,[],())else none
theorem rn_len {p m:Nat} (h:p<10^m):(nd B32 p).length<=m:=by
 rw[nd_len a0e];exact Nat.lt_of_lt_of_le h (Nat.pow_le_pow_left (by decide) _)
theorem rn_times (g) (t:ByteArray) (p v n:Nat) (hn:n<=9) (hv:v<10^n) (hp:p<10^200) (hnl:n<=t.size) (K:Nat) (hK:n<K):
  loopP (P.i_readNat_b7 g) K ((0:Int),((n:Int),((1:Int),(nd B32 p,((v:Int),(t,((n:Int),())))))))=g (ByteArray.extract t n t.size,(nd B32 (p*10^n+v),())):=by
 have hp9:10^n<=10^9:=Nat.pow_le_pow_right (by decide) hn;have h9:(10:Nat)^9=1000000000:=by decide
 have key:=a0g (k:=K) (b:=P.i_readNat_b7 g) (n:=n) (st:=fun i=>((i:Int),(n:Int),((10^i:Nat):Int),nd B32 p,(v:Int),t,(n:Int),())) (F:=fun i=>g (ByteArray.extract t n t.size,(nd B32 (p*10^n+v),()))) (fun i g' hi hg'=>by
  unfold P.i_readNat_b7;dsimp only at hg' ⊢;refine Eq.trans ?_ hg';have e1:(i:Int)<(n:Int):=by omega
  have hpi:10^(i+1)<=10^9:=Nat.pow_le_pow_right (by decide) (by omega);rw[Nat.pow_succ]at hpi ⊢;rw[if_pos (decide_eq_true e1),wr (by omega) (by omega),show((10^i:Nat):Int)*10=((10^i*10:Nat):Int) by omega,wu (by omega) (by omega)];rfl) (fun g'=>by
  unfold P.i_readNat_b7;dsimp only;rw[if_neg (by simp)];unfold S.i_natOf S.i_nat_mul S.i_nat_add;dsimp only;have hl1:=rn_len hp;have hl2:=rn_len (p:=10^n) (m:=10) (by omega);have hl3:(nd B32 (p*10^n)).length<=209:=rn_len (by
   have:p*10^n<10^200*10^9:=Nat.mul_lt_mul_of_lt_of_le hp hp9 (Nat.pow_pos (by decide));rwa [<-Nat.pow_add]at this)
  have hl4:=rn_len (p:=v) (m:=9) (by omega);rw[if_pos ⟨by omega,by omega⟩,Option.bind_some,Int.toNat_natCast];dsimp only;rw[if_pos ⟨dig_nd a0e _,dig_nd a0e _,by omega,by omega⟩,Option.bind_some,if_pos ⟨by omega,by omega⟩,Option.bind_some,Int.toNat_natCast];dsimp only;rw[a0i a0e,a0i a0e,if_pos ⟨dig_nd a0e _,dig_nd a0e _,by omega,by omega⟩,Option.bind_some,a0i a0e,a0i a0e];have c1:(0:Int)<=(t.size:Int):=by omega
  have c2:(0:Int)<=(n:Int):=by omega
  have c3:(n:Int)<=(t.size:Int):=by omega
  rw[if_pos (decide_eq_true c1),if_pos (decide_eq_true (Int.le_refl _)),if_pos (decide_eq_true c2),if_pos (decide_eq_true c3),Int.toNat_natCast,Int.toNat_natCast]) hK
 exact key
theorem rn_loop (K:Nat) (hK:10<=K) (m:Nat):∀(t:ByteArray) (p k:Nat),t.data.toList.length=m->allD t.data.toList=true->m<=200->p<10^(200 - m)->m<k->
  loopP (P.i_readNat_b3 K) k (t,(nd B32 p,()))=some ((nd B32 (p*10^m+dv t.data.toList),true),()):=by
 induction m using Nat.strongRecOn with
 |ind m ih=>
  intro t p k hm hd hm2 hp hk;obtain⟨k,rfl⟩:∃j,k=j+1:=⟨k - 1,by omega⟩
  rw[a0k];have hs:t.size=t.data.toList.length:=by rw[Array.length_toList];rfl
  have hstep:∀n:Nat,0<n->n<=9->n<=m->Option.bind (S.strconv_ParseUint (ByteArray.extract t 0 n,(10,(64,())))) (fun(y6:((Int×Bool)×Unit))=>(Go.Cm.loopP (P.i_readNat_b7 (loopP (P.i_readNat_b3 K) k)) K ((0:Int),((n:Int),((1:Int),(nd B32 p,(y6.1.1,(t,((n:Int),())))))))))=some ((nd B32 (p*10^m+dv t.data.toList),true),()):=by
   intro n hn0 hn9 hnm;have hx:(ByteArray.extract t 0 n).data.toList=t.data.toList.take n:=by rw[ext_list,List.drop_zero]
   have hxl:(t.data.toList.take n).length=n:=by simp;omega
   have hxs:(ByteArray.extract t 0 n).size=n:=by
    have:(ByteArray.extract t 0 n).size=(ByteArray.extract t 0 n).data.toList.length:=by rw[Array.length_toList];rfl
    rw[this,hx,hxl]
   have hdx:=allD_take hd n;have hpar:=parse_dv (t.data.toList.take n) hdx (by intro q;rw[q]at hxl;simp at hxl;omega) (by omega);unfold S.strconv_ParseUint;dsimp only;rw[if_pos ⟨rfl,rfl,by omega⟩,hx,hpar,Option.bind_some];dsimp only;have hv:=dv_lt hdx;rw[hxl]at hv;have hp200:p<10^200:=Nat.lt_of_lt_of_le hp (Nat.pow_le_pow_right (by decide) (by omega));rw[rn_times _ t p _ n hn9 hv hp200 (by omega) K (by omega)];have hd2:(ByteArray.extract t n t.size).data.toList=t.data.toList.drop n:=by
    rw[ext_list,List.take_of_length_le (by omega)]
   have hl2:(t.data.toList.drop n).length=m - n:=by simp;omega
   have hb:p*10^n+dv (t.data.toList.take n)<10^(200 - (m - n)):=by
    have h1:(p+1)*10^n<=10^(200 - m)*10^n:=Nat.mul_le_mul_right _ hp;rw[<-Nat.pow_add,show 200 - m+n=200 - (m - n) by omega,Nat.add_mul,Nat.one_mul]at h1;omega
   rw[ih (m - n) (by omega) _ _ k (by rw[hd2,hl2]) (by rw[hd2];exact allD_drop hd n) (by omega) hb (by omega),hd2];have h3:=dv_append (t.data.toList.take n) (t.data.toList.drop n);rw[List.take_append_drop,hl2]at h3;rw[h3,Nat.add_mul,Nat.mul_assoc,<-Nat.pow_add,show n+(m - n)=m by omega,Nat.add_assoc]
  generalize loopP (P.i_readNat_b3 K) k=G at hstep ⊢;unfold P.i_readNat_b3;dsimp only;have hbs:ByteArray.toList (bs [])=[]:=by rw[ByteArray.toList_eq];rfl
  rw[hbs,ByteArray.toList_eq,hs,hm]
  by_cases h0:m=0
  ·subst h0;have:t.data.toList=[]:=List.eq_nil_of_length_eq_zero hm;rw[this,if_neg (by simp),Nat.pow_zero,Nat.mul_one,show dv []=0 from rfl,Nat.add_zero]
  ·have hne:t.data.toList≠ []:=by
    intro q;rw[q]at hm;simp at hm;omega
   have hmod:Int.tmod (m:Int) 9=((m%9:Nat):Int):=by
    rw[Int.tmod_eq_emod_of_nonneg (by omega)];omega
   rw[if_pos (by simpa using hne),hmod]
   by_cases h9:m%9=0
   ·have c1:(9:Int)<=(m:Int):=by omega
    rw[if_pos (by simp [h9]),if_pos (decide_eq_true c1)];exact hstep 9 (by omega) (by omega) (by omega)
   ·have c1:(0:Int)<=((m%9:Nat):Int):=by omega
    have c2:((m%9:Nat):Int)<=(m:Int):=by omega
    rw[if_neg (by simp;omega),if_pos (decide_eq_true c1),if_pos (decide_eq_true c2),if_pos (decide_eq_true c1),Int.toNat_natCast];exact hstep (m%9) (by omega) (by omega) (by omega)
theorem rn_scan (b:Nat->(Int×(Int×(ByteArray×((List Int)×Unit))))->((Int×(Int×(ByteArray×((List Int)×Unit))))->Option (((List Int)×Bool)×Unit))->Option (((List Int)×Bool)×Unit)) (hbb:b=P.i_readNat_b0) (t:ByteArray) (hl:t.data.toList.length<=200) (K:Nat) (hK:300<=K):
  loopP (b K) K ((0:Int),((t.size:Int),(t,([],()))))=some (if allD t.data.toList=true then(nd B32 (dv t.data.toList),true)else([],false),()):=by
 subst hbb;have hs:t.size=t.data.toList.length:=by rw[Array.length_toList];rfl
 rw[hs];have hloop:=rn_loop K (by omega) t.data.toList.length t 0 K rfl;generalize hL:t.data.toList=l at*;have key:∀d i k:Nat,i+d=l.length->d<k->allD (l.take i)=true->loopP (P.i_readNat_b0 K) k ((i:Int),((l.length:Int),(t,(([]:List Int),()))))=some (if allD l=true then(nd B32 (dv l),true)else([],false),()):=by
  intro d
  induction d with
  |zero=>
   intro i k hi hk hd;obtain⟨k,rfl⟩:∃j,k=j+1:=⟨k - 1,by omega⟩
   have:i=l.length:=by omega
   subst this;rw[List.take_length]at hd;rw[a0k];unfold P.i_readNat_b0;dsimp only;rw[if_neg (by simp),if_pos hd];have:=hloop hd hl (Nat.pow_pos (by decide)) (by omega);rw[nd_zero a0e,Nat.zero_mul,Nat.zero_add]at this;exact this
  |succ d ih=>
   intro i k hi hk hd;obtain⟨k,rfl⟩:∃j,k=j+1:=⟨k - 1,by omega⟩
   have hil:i<l.length:=by omega
   rw[a0k];unfold P.i_readNat_b0;dsimp only;have e1:(i:Int)<(l.length:Int):=by omega
   have e2:(0:Int)<=(i:Int):=by omega
   have hb:byteAt t (i:Int)=(l[i].toNat:Int):=by
    unfold byteAt;rw[hL,a0o l i _ hil]
   have ha2:allD (l.take (i+1))=(allD (l.take i)&&isD l[i]):=by
    rw[<-List.take_append_getElem hil,allD_append];simp [allD]
   have ha3:allD l=true->isD l[i]=true:=fun q=>decide_eq_true (allD_get q hil)
   rw[hs,hb,wr (x:=(i:Int)+1) (by omega) (by omega)];simp only[e1,e2,decide_true,if_true]
   by_cases c1:48<=l[i].toNat
   ·rw[if_neg (by simp;omega)]
    by_cases c2:l[i].toNat<=57
    ·have:isD l[i]=true:=decide_eq_true ⟨c1,c2⟩;rw[this,Bool.and_true]at ha2;rw[if_neg (by simp;omega)];exact ih (i+1) k (by omega) (by omega) (by rw[ha2];exact hd)
    ·have:isD l[i]=false:=decide_eq_false (fun q=>c2 q.2);rw[if_pos (decide_eq_true (by omega)),if_neg (fun q=>by rw[ha3 q]at this;cases this)]
   ·have:isD l[i]=false:=decide_eq_false (fun q=>c1 q.1);rw[if_pos (decide_eq_true (by omega)),if_neg (fun q=>by rw[ha3 q]at this;cases this)]
 exact key l.length 0 K (by omega) (by omega) rfl
def S.i_readNat (x:(ByteArray×Unit)):(Option (((List Int)×Bool)×Unit)):=some (if okN x.1.data.toList=true then(nd B32 (dv x.1.data.toList),true)else([],false),())
theorem S.i_readNat_ok (x r) (h:S.i_readNat x=some r):∃k,P.i_readNat k x=some r:=by
 obtain⟨t,u⟩:=x;unfold S.i_readNat at h;dsimp only at h;refine⟨300,?_⟩;rw[<-h];unfold P.i_readNat;dsimp only;have hs:t.size=t.data.toList.length:=by rw[Array.length_toList];rfl
 have hbs:ByteArray.toList (bs [])=[]:=by rw[ByteArray.toList_eq];rfl
 rw[hbs,ByteArray.toList_eq];have hscan:=rn_scan P.i_readNat_b0 rfl t;have hscan2:=rn_scan P.i_readNat_b22 rfl t;unfold okN okR
 by_cases h1:t.data.toList=[]
 ·rw[h1,if_pos (by rfl)];rfl
 ·have hpos:0<t.data.toList.length:=List.length_pos_iff.2 h1;rw[if_neg (by simpa using h1),decide_eq_true h1,Bool.true_and,hs]
  by_cases h2:t.data.toList.length<=200
  ·have d2:¬(t.data.toList.length:Int)>200:=by omega
   have d3:(0:Int)<(t.data.toList.length:Int):=by omega
   rw[if_neg (by simpa using d2),if_pos (decide_eq_true d3),decide_eq_true h2,Bool.true_and];have s1:=hscan h2 300 (by omega);have s2:=hscan2 h2 300 (by omega);rw[hs]at s1 s2;have hb:byteAt t 0=(t.data.toList[0].toNat:Int):=by
    exact congrArg (fun c:UInt8=>(c.toNat:Int)) (a0o t.data.toList 0 0 hpos)
   have hh:t.data.toList.head? =some t.data.toList[0]:=by
    generalize t.data.toList=l at*;cases l with
    |nil=>simp at h1
    |cons c r=>rfl
   rw[hb,hh]
   by_cases c1:t.data.toList[0]=48
   ·rw[c1,if_pos (by rfl)]
    by_cases h3:t.data.toList.length=1
    ·have d4:¬(t.data.toList.length:Int)>1:=by omega
     rw[if_neg (by simpa using d4),s1,decide_eq_true h3,Bool.true_or,Bool.and_true]
    ·have d4:(t.data.toList.length:Int)>1:=by omega
     rw[if_pos (decide_eq_true d4),decide_eq_false h3,Bool.false_or,decide_eq_false (by simp),Bool.and_false,if_neg (by simp)]
   ·have c2:¬((t.data.toList[0].toNat:Int)=48):=by
     intro q;apply c1;apply UInt8.toNat_inj.1;show _=48;omega
    rw[if_neg (by simpa using c2),s2,decide_eq_true (p:=some t.data.toList[0]≠some 48) (by simpa using c1),Bool.or_true,Bool.and_true]
  ·have d2:(t.data.toList.length:Int)>200:=by omega
   rw[if_pos (decide_eq_true d2),decide_eq_false h2,Bool.false_and,Bool.and_false,if_neg (by simp)]
def P.i_readRat (k:Nat) (x:ByteArray×Unit):Option ((RB×Bool)×Unit):=
 (S.strings_Cut (x.1,bs [47],())).bind fun y0=>(S.strings_CutPrefix (y0.1.1,bs [45],())).bind fun y1=>(S.i_readNat (y1.1.1,())).bind fun y2=>if !y2.1.2 then some (((false,[],[]),false),())else if y1.1.2 then if(y2.1.1.length:Int)==0 then some (((false,[],[]),false),())else(S.i_natOf (1,())).bind fun y3=>if !y0.1.2.2 then some (((y1.1.2,y2.1.1,y3.1),true),())else(S.i_readNat (y0.1.2.1,())).bind fun y4=>if !y4.1.2 then some (((false,[],[]),false),())else(S.i_natOf (1,())).bind fun y5=>(S.i_nat_cmp (y4.1.1,y5.1,())).bind fun y6=>if decide (y6.1<=0)then some (((false,[],[]),false),())else(S.i_nat_gcd (y2.1.1,y4.1.1,())).bind fun y7=>(S.i_natOf (1,())).bind fun y8=>(S.i_nat_cmp (y7.1,y8.1,())).bind fun y9=>if y9.1 != 0 then some (((false,[],[]),false),())else some (((y1.1.2,y2.1.1,y4.1.1),true),())else(S.i_natOf (1,())).bind fun y10=>if !y0.1.2.2 then some (((y1.1.2,y2.1.1,y10.1),true),())else(S.i_readNat (y0.1.2.1,())).bind fun y11=>if !y11.1.2 then some (((false,[],[]),false),())else(S.i_natOf (1,())).bind fun y12=>(S.i_nat_cmp (y11.1.1,y12.1,())).bind fun y13=>if decide (y13.1<=0)then some (((false,[],[]),false),())else(S.i_nat_gcd (y2.1.1,y11.1.1,())).bind fun y14=>(S.i_natOf (1,())).bind fun y15=>(S.i_nat_cmp (y14.1,y15.1,())).bind fun y16=>if y16.1 != 0 then some (((false,[],[]),false),())else some (((y1.1.2,y2.1.1,y11.1.1),true),())
def S.i_readRat (x:(ByteArray×Unit)):(Option ((RB×Bool)×Unit)):=if x.1.size<4294967281 then some ((rp B32 (rdRat x.1.data.toList).1,(rdRat x.1.data.toList).2),())else none
theorem rr_bad:((false,(([]:List Int),([]:List Int))),false)=(rp B32 noQ.1,noQ.2):=by
 unfold noQ rp;dsimp only;rw[nd_zero a0e]
theorem natOf_one:S.i_natOf (1,())=some (nd B32 1,()):=by
 unfold S.i_natOf;rfl
theorem rr_rest (neg:Bool) (c:List UInt8×List UInt8×Bool) (hok:okN c.1=true) (hn:¬(neg=true/\dv c.1=0)):
  (Option.bind (S.i_natOf ((1:Int),())) (fun(y10:((List Int)×Unit))=>(if((!c.2.2)=true)then(some (((neg,(nd B32 (dv c.1),y10.1)),true),()))
 else(Option.bind (S.i_readNat ((⟨c.2.1.toArray⟩:ByteArray),())) (fun(y11:(((List Int)×Bool)×Unit))=>(if((!y11.1.2)=true)then(some (((false,(([]:List Int),([]:List Int))),false),()))
 else(Option.bind (S.i_natOf ((1:Int),())) (fun(y12:((List Int)×Unit))=>(Option.bind (S.i_nat_cmp (y11.1.1,(y12.1,()))) (fun(y13:(Int×Unit))=>(if((decide (y13.1<=(0:Int)))=true)then(some (((false,(([]:List Int),([]:List Int))),false),()))
 else(Option.bind (S.i_nat_gcd (nd B32 (dv c.1),(y11.1.1,()))) (fun(y14:((List Int)×Unit))=>(Option.bind (S.i_natOf ((1:Int),())) (fun(y15:((List Int)×Unit))=>(Option.bind (S.i_nat_cmp (y14.1,(y15.1,()))) (fun(y16:(Int×Unit))=>(if((y16.1 != (0:Int))=true)then(some (((false,(([]:List Int),([]:List Int))),false),()))
 else(some (((neg,(nd B32 (dv c.1),y11.1.1)),true),()))))))))))))))))))))=some ((rp B32 (rdBody neg c).1,(rdBody neg c).2),()):=by
 have hbody:rdBody neg c=(if c.2.2=true then(if okN c.2.1=true/\1<dv c.2.1/\Nat.gcd (dv c.1) (dv c.2.1)=1 then((neg,(dv c.1,dv c.2.1)),true)else noQ)else((neg,(dv c.1,1)),true)):=if_pos ⟨hok,hn⟩;rw[natOf_one,Option.bind_some,rr_bad,hbody];obtain⟨a,b,f⟩:=c;dsimp only at*;cases f
 ·rfl
 ·rw[if_neg (by decide),if_pos rfl];unfold S.i_readNat;rw[Option.bind_some];dsimp only;cases hb:okN b
  ·have hx:¬((false:Bool)=true/\1<dv b/\Nat.gcd (dv a) (dv b)=1):=fun q=>by cases q.1
   rw[if_neg hx];rfl
  ·have lb:=nd_len200 (B:=B32) (by decide) (okN_lt hb);have la:=nd_len200 (B:=B32) (by decide) (okN_lt hok);have e1:S.i_nat_cmp (nd B32 (dv b),(nd B32 1,()))=some (cmpN (dv b) 1,()):=by
    unfold S.i_nat_cmp;dsimp only;rw[if_pos ⟨a0j a0e _,a0j a0e _,by omega⟩,a0i a0e,a0i a0e]
   have e2:S.i_nat_gcd (nd B32 (dv a),(nd B32 (dv b),()))=some (nd B32 (Nat.gcd (dv a) (dv b)),()):=by
    unfold S.i_nat_gcd;dsimp only;rw[if_pos ⟨a0j a0e _,a0j a0e _,by omega,by omega⟩,a0i a0e,a0i a0e]
   show(Option.bind (S.i_natOf ((1:Int),())) (fun(y12:((List Int)×Unit))=>(Option.bind (S.i_nat_cmp (nd B32 (dv b),(y12.1,()))) (fun(y13:(Int×Unit))=>(if((decide (y13.1<=(0:Int)))=true)then(some ((rp B32 noQ.1,noQ.2),()))
 else(Option.bind (S.i_nat_gcd (nd B32 (dv a),(nd B32 (dv b),()))) (fun(y14:((List Int)×Unit))=>(Option.bind (S.i_natOf ((1:Int),())) (fun(y15:((List Int)×Unit))=>(Option.bind (S.i_nat_cmp (y14.1,(y15.1,()))) (fun(y16:(Int×Unit))=>(if((y16.1 != (0:Int))=true)then(some ((rp B32 noQ.1,noQ.2),()))
 else(some (((neg,(nd B32 (dv a),nd B32 (dv b))),true),()))))))))))))))=_
   rw[natOf_one,Option.bind_some];dsimp only;rw[e1,Option.bind_some];dsimp only
   by_cases h1:1<dv b
   ·have hc:¬(cmpN (dv b) 1<=0):=by
     have:=(cmpN_gt (a:=dv b) (b:=1)).2 h1;omega
    have lg:(nd B32 (Nat.gcd (dv a) (dv b))).length<=200:=Nat.le_trans (nd_shorter' a0e (Nat.le_of_dvd (by omega) (Nat.gcd_dvd_right _ _))) lb;have e3:S.i_nat_cmp (nd B32 (Nat.gcd (dv a) (dv b)),(nd B32 1,()))=some (cmpN (Nat.gcd (dv a) (dv b)) 1,()):=by
     unfold S.i_nat_cmp;dsimp only;rw[if_pos ⟨a0j a0e _,a0j a0e _,by omega⟩,a0i a0e,a0i a0e]
    rw[if_neg (by simpa using hc),e2,Option.bind_some,Option.bind_some];dsimp only;rw[e3,Option.bind_some];dsimp only
    by_cases hg:Nat.gcd (dv a) (dv b)=1
    ·rw[if_neg (by simpa using cmpN_zero.2 hg),if_pos ⟨rfl,h1,hg⟩];rfl
    ·rw[if_pos (by simpa using fun q=>hg (cmpN_zero.1 q)),if_neg (fun q=>hg q.2.2)]
   ·have hc:cmpN (dv b) 1<=0:=by
     have h2:¬(cmpN (dv b) 1>0):=fun q=>h1 ((cmpN_gt (a:=dv b) (b:=1)).1 q)
     omega
    rw[if_pos (decide_eq_true hc),if_neg (fun q=>h1 q.2.1)]
theorem S.i_readRat_ok (x r) (h:S.i_readRat x=some r):∃k,P.i_readRat k x=some r:=by
 obtain⟨s,u⟩:=x;unfold S.i_readRat at h;dsimp only at h;split at h
 case isFalse=>cases h
 rename_i hsz;refine⟨0,?_⟩;rw[<-h];unfold P.i_readRat;dsimp only;have e0:S.strings_Cut (s,(bs [47],()))=some ((⟨(cutP 47 s.data.toList).1.toArray⟩,(⟨(cutP 47 s.data.toList).2.1.toArray⟩,(cutP 47 s.data.toList).2.2)),()):=by
  unfold S.strings_Cut;dsimp only;rw[if_pos hsz,show(bs [47]).data.toList=[47]from rfl,cut_cutP]
 have e1:∀l:List UInt8,S.strings_CutPrefix (⟨l.toArray⟩,(bs [45],()))=some ((⟨(if l.head? =some 45 then l.tail else l).toArray⟩,decide (l.head? =some 45)),()):=by
  intro l;unfold S.strings_CutPrefix Go.Lib.trimPrefix Go.Lib.hasPrefix;dsimp only;rw[show(bs [45]).data.toList=[45]from rfl];cases l with
  |nil=>rfl
  |cons b r=>
   by_cases hb:b=45
   ·subst hb;simp
   ·have hb':¬(45=b):=fun q=>hb q.symm
    have hp:([45].isPrefixOf (b::r))=false:=by
     show((45:UInt8)==b&&([]:List UInt8).isPrefixOf r)=false;rw[show((45:UInt8)==b)=false from beq_eq_false_iff_ne.2 hb',Bool.false_and]
    have hh:¬((b::r).head? =some 45):=by simpa using hb
    rw[hp,if_neg (by decide),if_neg hh,decide_eq_false hh]
 rw[e0,Option.bind_some];dsimp only;rw[e1,Option.bind_some];dsimp only;generalize s.data.toList=l at*;have hcut:∃(neg:Bool) (c:List UInt8×List UInt8×Bool),decide ((cutP 47 l).1.head? =some 45)=neg/\(if(cutP 47 l).1.head? =some 45 then(cutP 47 l).1.tail else(cutP 47 l).1)=c.1/\(cutP 47 l).2.1=c.2.1/\(cutP 47 l).2.2=c.2.2/\rdRat l=rdBody neg c:=by
  unfold rdRat;cases l with
  |nil=>exact⟨false,cutP 47 [],rfl,rfl,rfl,rfl,rfl⟩
  |cons b r=>
   by_cases hb:b=45
   ·subst hb;have hc:cutP 47 (45::r)=(45::(cutP 47 r).1,(cutP 47 r).2.1,(cutP 47 r).2.2):=by rw[cutP_cons,if_neg (by decide)]
    rw[hc];exact⟨true,cutP 47 r,rfl,rfl,rfl,rfl,rfl⟩
   ·have hh:¬((cutP 47 (b::r)).1.head? =some 45):=by
     rw[cutP_cons];split
     ·simp
     ·simpa using hb
    refine⟨false,cutP 47 (b::r),decide_eq_false hh,if_neg hh,rfl,rfl,?_⟩;rw[if_neg (by simpa using hb)]
 obtain⟨neg,c,h1,h2,h3,h4,h5⟩:=hcut;rw[h1,h2,h3,h4,h5];have e2:S.i_readNat (⟨c.1.toArray⟩,())=some (if okN c.1=true then(nd B32 (dv c.1),true)else([],false),()):=rfl;rw[e2,Option.bind_some];cases hok:okN c.1
 ·have:rdBody neg c=noQ:=by
   unfold rdBody;rw[if_neg (fun q=>by rw[hok]at q;cases q.1)]
  rw[this,<-rr_bad];rfl
 ·rw[if_pos rfl];dsimp only;rw[if_neg (show ¬((!true)=true) by decide)];have hz:(((nd B32 (dv c.1)).length:Int)==0)=decide (dv c.1=0):=by
   have:=canon_nil a0e (a0j a0e (dv c.1));rw[a0i a0e]at this
   by_cases h0:dv c.1=0
   ·rw[this.2 h0,h0];rfl
   ·have hne:=fun q=>h0 (this.1 q)
    rw[decide_eq_false h0];simpa using hne
  cases neg
  ·rw[if_neg (by decide)];exact rr_rest false c hok (fun q=>by cases q.1)
  ·rw[if_pos rfl,hz]
   by_cases h0:dv c.1=0
   ·have:rdBody true c=noQ:=by
     unfold rdBody;rw[if_neg (fun q=>q.2 ⟨rfl,h0⟩)]
    rw[if_pos (decide_eq_true h0),this,<-rr_bad]
   ·rw[if_neg (by simpa using h0)];exact rr_rest true c hok (fun q=>h0 q.2)
abbrev i_rats.A:=Option ((List RB×Bool)×Unit)
abbrev P.i_rats_b0 (x1:Int×Int×List ByteArray×List RB×Unit) (g2:Int×Int×List ByteArray×List RB×Unit->i_rats.A):i_rats.A:=
 if decide (x1.1<x1.2.1)then if decide (0<=x1.1)then if decide (x1.1<(x1.2.2.1.length:Int))then(S.i_readRat (x1.2.2.1.getD x1.1.toNat (bs []),())).bind fun y3=>if !y3.1.2 then some (([],false),())else if decide (((x1.2.2.2.1.length+(List.length [(y3.1.1.1,y3.1.1.2.1,y3.1.1.2.2)]))*56)<=140737488355328)then g2 (wrap .i64 (x1.1+1),x1.2.1,x1.2.2.1,x1.2.2.2.1++[(y3.1.1.1,y3.1.1.2.1,y3.1.1.2.2)],())else none else none else none else some ((x1.2.2.2.1,true),())
def P.i_rats (k:Nat) (x:List ByteArray×Unit):i_rats.A:=
 if decide ((x.1.length:Int)>300)then some (([],false),())else loopP P.i_rats_b0 k (0,(x.1.length:Int),x.1,[],())
open Classical in
def S.i_rats (x:((List ByteArray)×Unit)):(Option (((List RB)×Bool)×Unit)):=if okT x.1=true then some (((rdAll x.1).1.map (rp B32),(rdAll x.1).2),())else none
theorem i_rats_read (s:ByteArray) (h:s.size<=1000000):S.i_readRat (s,())=some ((rp B32 (rdRat s.data.toList).1,(rdRat s.data.toList).2),()):=by
 unfold S.i_readRat;exact if_pos (by dsimp only;omega)
theorem S.i_rats_ok (x r) (h:S.i_rats x=some r):∃k,P.i_rats k x=some r:=by
 obtain⟨ls,u⟩:=x;unfold S.i_rats at h;dsimp only at h;split at h
 case isFalse=>cases h
 rename_i hc;cases h;refine⟨ls.length+1,?_⟩;unfold P.i_rats rdAll;dsimp only
 by_cases hl:(ls.length:Int)>300
 ·rw[if_pos (decide_eq_true hl),if_neg (show ¬(ls.length<=300/\(ls.all fun s=>(rdRat s.data.toList).2)=true)from fun z=>by omega)];rfl
 rw[if_neg (by simpa using hl)];have key:=a0g (k:=ls.length+1) (b:=P.i_rats_b0) (n:=ls.length) (st:=fun i=>((i:Int),(ls.length:Int),ls,(ls.take i).map (fun s=>rp B32 (rdRat s.data.toList).1),())) (F:=fun i=>some (if((ls.drop i).all fun s=>(rdRat s.data.toList).2)=true then(ls.map (fun s=>rp B32 (rdRat s.data.toList).1),true)else([],false),())) (fun i g hi hg=>by
  unfold P.i_rats_b0;dsimp only at hg ⊢;have e1:(i:Int)<(ls.length:Int):=by omega
  have e2:(0:Int)<=(i:Int):=by omega
  simp only[e1,e2,decide_true,if_true];rw[a0o ls i _ hi,i_rats_read _ (okT_get hc hi),Option.bind_some,List.drop_eq_getElem_cons hi,List.all_cons];dsimp only;cases hf:(rdRat ls[i].data.toList).2
  ·rw[if_pos (by rfl),if_neg (by simp)]
  ·rw[if_neg (by simp),wr (by omega) (by omega),Bool.true_and,<-hg];have e3:((List.map (fun s:ByteArray=>rp B32 (rdRat s.data.toList).1) (ls.take i)).length+1)*56<=140737488355328:=by
    rw[List.length_map,List.length_take];omega
   simp only[List.length_cons,List.length_nil,Nat.zero_add];rw[if_pos (decide_eq_true e3),List.take_add_one,List.getElem?_eq_getElem hi,Option.toList_some,List.map_append];rfl) (fun g=>by
  unfold P.i_rats_b0;dsimp only;rw[if_neg (by simp),List.take_length,List.drop_length];rfl) (by omega)
 refine key.trans ?_;rw[List.drop_zero]
 by_cases ha:(ls.all fun s=>(rdRat s.data.toList).2)=true
 ·rw[if_pos ha,if_pos (show ls.length<=300/\(ls.all fun s=>(rdRat s.data.toList).2)=true from⟨by omega,ha⟩),List.map_map];rfl
 ·rw[if_neg ha,if_neg (fun z=>ha z.2)];rfl
abbrev P.i_sum_b1 (x2:Int×Int×List RB×RB×RB×Unit) (g3:Int×Int×List RB×RB×RB×Unit->Option (RB×Unit)):Option (RB×Unit):=
 if decide (x2.1<x2.2.1)then if decide (0<=x2.1)then if decide (x2.1<(x2.2.2.1.length:Int))then(S.a0x ((x2.2.2.2.1.1,x2.2.2.2.1.2.1,x2.2.2.2.1.2.2),((x2.2.2.1.getD x2.1.toNat (false,[],[])).1,(x2.2.2.1.getD x2.1.toNat (false,[],[])).2.1,(x2.2.2.1.getD x2.1.toNat (false,[],[])).2.2),())).bind fun y4=>g3 (wrap .i64 (x2.1+1),x2.2.1,x2.2.2.1,(y4.1.1,y4.1.2.1,y4.1.2.2),(x2.2.2.2.2.1.1,x2.2.2.2.2.1.2.1,x2.2.2.2.2.1.2.2),())else none else none else some ((x2.2.2.2.1.1,x2.2.2.2.1.2.1,x2.2.2.2.1.2.2),())
def P.i_sum (k:Nat) (x:List RB×Unit):Option (RB×Unit):=
 (S.i_whole (0,())).bind fun y0=>loopP P.i_sum_b1 k (0,(x.1.length:Int),x.1,(y0.1.1,y0.1.2.1,y0.1.2.2),(false,[],[]),())
open Classical in
def S.i_sum (x:((List RB)×Unit)):(Option (RB×Unit)):=if goodS B32 x.1 then some (rp B32 (sumQ (x.1.map (rv B32))),())else none
theorem i_sum_add (a b:Q3) (ha:lowb B32 40000000 (rp B32 a)=true) (hb:lowb B32 40000000 (rp B32 b)=true):S.a0x (rp B32 a,(rp B32 b,()))=some (rp B32 (addQ a b),()):=by
 unfold S.a0x;dsimp only;rw[if_pos ⟨ha,hb⟩,rv_rp a0e,rv_rp a0e]
theorem S.i_sum_ok (x r) (h:S.i_sum x=some r):∃k,P.i_sum k x=some r:=by
 obtain⟨xs,u⟩:=x;unfold S.i_sum at h;dsimp only at h;split at h
 case isFalse=>cases h
 rename_i hc;obtain⟨qs,rfl,hlen,hq,hg⟩:=hc;cases h;refine⟨qs.length+1,?_⟩;unfold P.i_sum;have hz:S.i_whole (0,())=some (rp B32 a1f,()):=by rfl
 dsimp only;rw[hz,Option.bind_some,map_rv a0e,List.length_map];have key:=a0g (k:=qs.length+1) (b:=P.i_sum_b1) (n:=qs.length) (st:=fun i=>((i:Int),(qs.length:Int),qs.map (rp B32),rp B32 (sumQ (qs.take i)),(false,(([]:List Int),([]:List Int))),())) (F:=fun i=>some (rp B32 (sumQ qs),())) (fun i g hi hg'=>by
  unfold P.i_sum_b1;dsimp only at hg' ⊢;have e1:(i:Int)<(qs.length:Int):=by omega
  have e2:(0:Int)<=(i:Int):=by omega
  have e3:(i:Int)<((qs.map (rp B32)).length:Int):=by rw[List.length_map];omega
  rw[if_pos (decide_eq_true e1),if_pos (decide_eq_true e2),if_pos (decide_eq_true e3),a0o (qs.map (rp B32)) i _ (by rw[List.length_map];exact hi),List.getElem_map];have ea:=i_sum_add (sumQ (qs.take i)) qs[i] (lowb_rp9 (by decide) (hg i).1 (hg i).2 (by decide)) (lowb_rp9 (by decide) (hq _ (List.getElem_mem hi)).1 (hq _ (List.getElem_mem hi)).2 (by decide));rw[sumQ_take hi]at ea;show Option.bind (S.a0x (rp B32 (sumQ (qs.take i)),(rp B32 qs[i],()))) _=_;rw[ea,Option.bind_some,wr (by omega) (by omega)];exact hg') (fun g=>by
  unfold P.i_sum_b1;dsimp only;rw[if_neg (by simp),List.take_length]) (by omega)
 exact key
def P.i_isMinus (k:Nat) (x:RB×Unit):Option (Bool×Unit):=
 (S.a0v ((x.1.1,x.1.2.1,x.1.2.2),())).bind fun y0=>some (decide (y0.1<0),())
def S.i_isMinus (x:(RB×Unit)):(Option (Bool×Unit)):=if lowb B32 40000000 x.1=true then some (x.1.1,())else none
theorem S.i_isMinus_ok (x r) (h:S.i_isMinus x=some r):∃k,P.i_isMinus k x=some r:=by
 obtain⟨x,u⟩:=x;unfold S.i_isMinus at h;dsimp only at h;split at h
 case isFalse=>cases h
 rename_i hc;obtain⟨hr,hl⟩:=lowb_iff.1 hc;obtain⟨n,p,q,rfl,l1,l2⟩:=rok_nd hr;rw[rv_nd a0e]at hl;cases h;refine⟨0,?_⟩;unfold P.i_isMinus S.a0v;dsimp only;rw[if_pos (a0j a0e _),a0i a0e,Option.bind_some];dsimp only;have h2:=hl.2.1;dsimp only at h2;unfold sgnQ;cases n
 ·by_cases hp:p=0
  ·rw[if_pos hp];rfl
  ·rw[if_neg hp];rfl
 ·rw[if_neg (h2 rfl)];rfl
abbrev P.slices_IndexFunc__i_rat_i_rat_b0 (x1:Int×Int×Unit×List RB×Unit) (g2:Int×Int×Unit×List RB×Unit->Option (Int×Unit)):Option (Int×Unit):=
 if decide (x1.1<x1.2.1)then if decide (0<=x1.1)then if decide (x1.1<(x1.2.2.2.1.length:Int))then(S.i_isMinus (((x1.2.2.2.1.getD x1.1.toNat (false,[],[])).1,(x1.2.2.2.1.getD x1.1.toNat (false,[],[])).2.1,(x1.2.2.2.1.getD x1.1.toNat (false,[],[])).2.2),())).bind fun y3=>if y3.1 then some (x1.1,())else g2 (wrap .i64 (x1.1+1),x1.2.1,(),x1.2.2.2.1,())else none else none else some ((-1:Int),())
def P.slices_IndexFunc__i_rat_i_rat (k:Nat) (x:List RB×Unit×Unit):Option (Int×Unit):=
 loopP P.slices_IndexFunc__i_rat_i_rat_b0 k (0,(x.1.length:Int),(),x.1,())
open Classical in
def S.slices_IndexFunc__i_rat_i_rat (x:((List RB)×(Unit×Unit))):(Option (Int×Unit)):=if goodL B32 x.1 then some (ixM x.1,())else none
theorem S.slices_IndexFunc__i_rat_i_rat_ok (x r) (h:S.slices_IndexFunc__i_rat_i_rat x=some r):∃k,P.slices_IndexFunc__i_rat_i_rat k x=some r:=by
 obtain⟨xs,u,u'⟩:=x;unfold S.slices_IndexFunc__i_rat_i_rat at h;dsimp only at h;split at h
 case isFalse=>cases h
 rename_i hc;obtain⟨qs,n,rfl,hg⟩:=hc;cases h;have hlen:=good_len hg;refine⟨qs.length+1,?_⟩;unfold P.slices_IndexFunc__i_rat_i_rat;dsimp only;have hm:∀i (hi:i<qs.length),S.i_isMinus (rp B32 qs[i],())=some (qs[i].1,()):=by
  intro i hi;unfold S.i_isMinus;dsimp only;rw[if_pos (good_get (by decide) hg hi)];rfl
 have key:=a0g (k:=qs.length+1) (b:=P.slices_IndexFunc__i_rat_i_rat_b0) (n:=qs.length) (st:=fun i=>((i:Int),(qs.length:Int),(),qs.map (rp B32),())) (F:=fun i=>some (if ixM ((qs.drop i).map (rp B32))<0 then -1 else ixM ((qs.drop i).map (rp B32))+i,())) (fun i g hi hg'=>by
  unfold P.slices_IndexFunc__i_rat_i_rat_b0;dsimp only at hg' ⊢;have e1:(i:Int)<(qs.length:Int):=by omega
  have e2:(0:Int)<=(i:Int):=by omega
  have e3:(i:Int)<((qs.map (rp B32)).length:Int):=by rw[List.length_map];omega
  rw[if_pos (decide_eq_true e1),if_pos (decide_eq_true e2),if_pos (decide_eq_true e3),a0o (qs.map (rp B32)) i _ (by rw[List.length_map];exact hi),List.getElem_map];show Option.bind (S.i_isMinus (rp B32 qs[i],())) _=_;rw[hm i hi,Option.bind_some,List.drop_eq_getElem_cons hi,List.map_cons,ixM_cons];dsimp only;rw[show(rp B32 qs[i]).1=qs[i].1 from rfl];cases hf:qs[i].1
  ·simp only[Bool.false_eq_true,if_false];rw[wr (by omega) (by omega)];refine hg'.trans ?_;congr 2;split
   ·rfl
   ·rw[if_neg (by omega)];omega
  ·simp) (fun g=>by
  unfold P.slices_IndexFunc__i_rat_i_rat_b0;dsimp only;rw[if_neg (by simp),List.drop_length];rfl) (by omega)
 rw[List.length_map];refine key.trans ?_;rw[List.drop_zero];congr 2;have hr: -1<=ixM (qs.map (rp B32)):=by
  generalize qs.map (rp B32)=zs
  induction zs with
  |nil=>decide
  |cons z zs ih=>
   rw[ixM_cons];split
   ·omega
   ·split<;>omega
 split<;>omega
def P.slices_ContainsFunc__i_rat_i_rat (k:Nat) (x:List RB×Unit×Unit):Option (Bool×Unit):=
 (S.slices_IndexFunc__i_rat_i_rat (x.1,(),())).bind fun y0=>some (decide (y0.1>=0),())
open Classical in
def S.a0s (x:((List RB)×(Unit×Unit))):(Option (Bool×Unit)):=if goodL B32 x.1 then some (x.1.any fun r=>r.1,())else none
theorem S.slices_ContainsFunc__i_rat_i_rat_ok (x r) (h:S.a0s x=some r):∃k,P.slices_ContainsFunc__i_rat_i_rat k x=some r:=by
 obtain⟨xs,u,u'⟩:=x;unfold S.a0s at h;dsimp only at h;split at h
 case isFalse=>cases h
 rename_i hc;cases h;refine⟨0,?_⟩;unfold P.slices_ContainsFunc__i_rat_i_rat S.slices_IndexFunc__i_rat_i_rat;dsimp only;rw[if_pos hc,Option.bind_some,<-ixM_any]
abbrev P.i_summ_b1 (x2:Int×Int×List RB×RB×RB×Unit) (g3:Int×Int×List RB×RB×RB×Unit->Option (RB×List RB×Unit)):Option (RB×List RB×Unit):=
 (fun(a b:Int) (c:List RB) (d e:RB)=>if decide (a<b)then if decide (0<=a)then if decide (a<(c.length:Int))then(S.a0x ((d.1,d.2.1,d.2.2),((c.getD (0+a.toNat) (false,[],[])).1,(c.getD (0+a.toNat) (false,[],[])).2.1,(c.getD (0+a.toNat) (false,[],[])).2.2),())).bind fun y4=>g3 (wrap .i64 (a+1),b,c,(y4.1.1,y4.1.2.1,y4.1.2.2),(e.1,e.2.1,e.2.2),())else none else none else some ((d.1,d.2.1,d.2.2),c,())) x2.1 x2.2.1 x2.2.2.1 x2.2.2.2.1 x2.2.2.2.2.1
def P.i_summ (k:Nat) (x:List RB×Unit):Option (RB×List RB×Unit):=
 (S.i_whole (0,())).bind fun y0=>loopP P.i_summ_b1 k (0,(x.1.length:Int),x.1,(y0.1.1,y0.1.2.1,y0.1.2.2),(false,[],[]),())
open Classical in
def S.i_summ (x:((List RB)×Unit)):(Option (RB×((List RB)×Unit))):=if goodS B32 x.1 then some (rp B32 (sumQ (x.1.map (rv B32))),(x.1,()))else none
theorem i_summ_add (a b:Q3) (ha:lowb B32 40000000 (rp B32 a)=true) (hb:lowb B32 40000000 (rp B32 b)=true):S.a0x (rp B32 a,(rp B32 b,()))=some (rp B32 (addQ a b),()):=by
 unfold S.a0x;dsimp only;rw[if_pos ⟨ha,hb⟩,rv_rp a0e,rv_rp a0e]
theorem S.i_summ_ok (x r) (h:S.i_summ x=some r):∃k,P.i_summ k x=some r:=by
 obtain⟨xs,u⟩:=x;unfold S.i_summ at h;dsimp only at h;split at h
 case isFalse=>cases h
 rename_i hc;obtain⟨qs,rfl,hlen,hq,hg⟩:=hc;cases h;refine⟨qs.length+1,?_⟩;unfold P.i_summ;have hz:S.i_whole (0,())=some (rp B32 a1f,()):=by rfl
 dsimp only;rw[hz,Option.bind_some,map_rv a0e,List.length_map];have key:=a0g (k:=qs.length+1) (b:=P.i_summ_b1) (n:=qs.length) (st:=fun i=>((i:Int),(qs.length:Int),qs.map (rp B32),rp B32 (sumQ (qs.take i)),(false,(([]:List Int),([]:List Int))),())) (F:=fun i=>some (rp B32 (sumQ qs),(qs.map (rp B32),()))) (fun i g hi hg'=>by
  unfold P.i_summ_b1;dsimp only at hg' ⊢;have e1:(i:Int)<(qs.length:Int):=by omega
  have e2:(0:Int)<=(i:Int):=by omega
  have e3:(i:Int)<((qs.map (rp B32)).length:Int):=by rw[List.length_map];omega
  rw[if_pos (decide_eq_true e1),if_pos (decide_eq_true e2),if_pos (decide_eq_true e3),Nat.zero_add,a0o (qs.map (rp B32)) i _ (by rw[List.length_map];exact hi),List.getElem_map];have ea:=i_summ_add (sumQ (qs.take i)) qs[i] (lowb_rp9 (by decide) (hg i).1 (hg i).2 (by decide)) (lowb_rp9 (by decide) (hq _ (List.getElem_mem hi)).1 (hq _ (List.getElem_mem hi)).2 (by decide));rw[sumQ_take hi]at ea;show Option.bind (S.a0x (rp B32 (sumQ (qs.take i)),(rp B32 qs[i],()))) _=_;rw[ea,Option.bind_some,wr (by omega) (by omega)];exact hg') (fun g=>by
  unfold P.i_summ_b1;dsimp only;rw[if_neg (by simp),List.take_length]) (by omega)
 exact key
def P.i_weightsOf (k:Nat) (x:List ByteArray×Unit):Option ((List RB×Bool)×Unit):=
 (S.i_rats (x.1,())).bind fun y0=>if !y0.1.2 then some (([],false),())else(S.a0s (y0.1.1,(),())).bind fun y1=>if y1.1 then some (([],false),())else(S.i_sum (y0.1.1,())).bind fun y2=>(S.i_rat_isOne ((y2.1.1,y2.1.2.1,y2.1.2.2),())).bind fun y3=>if !y3.1 then some (([],false),())else some ((y0.1.1,true),())
def S.i_weightsOf (x:((List ByteArray)×Unit)):(Option (((List RB)×Bool)×Unit)):=if okT x.1=true then some (((wtAll x.1).1.map (rp B32),(wtAll x.1).2),())else none
theorem S.i_weightsOf_ok (x r) (h:S.i_weightsOf x=some r):∃k,P.i_weightsOf k x=some r:=by
 obtain⟨ls,u⟩:=x;unfold S.i_weightsOf at h;dsimp only at h;split at h
 case isFalse=>cases h
 rename_i hc;cases h;refine⟨0,?_⟩;unfold P.i_weightsOf S.i_rats;dsimp only;rw[if_pos hc,Option.bind_some];dsimp only;unfold wtAll;have hg:=rdAll_good (ls:=ls);have hL:=rdAll_goodL (B:=B32) (ls:=ls);cases hf:(rdAll ls).2
 ·rfl
 have hg':=hg hf;have hL':=hL hf;rw[if_neg (by decide)];have ea:S.a0s ((rdAll ls).1.map (rp B32),(),())=some ((rdAll ls).1.any fun r=>r.1,()):=by
  unfold S.a0s;dsimp only;rw[if_pos hL',any_rp]
 have es:S.i_sum ((rdAll ls).1.map (rp B32),())=some (rp B32 (sumQ (rdAll ls).1),()):=by
  unfold S.i_sum;dsimp only;rw[if_pos (goodL_S hL'),map_rv a0e]
 have eo:S.i_rat_isOne (rp B32 (sumQ (rdAll ls).1),())=some (isOneQ (sumQ (rdAll ls).1),()):=by
  unfold S.i_rat_isOne;dsimp only;rw[rv_rp a0e,if_pos ⟨good_rok (by decide) hg',low_qok (good_sum hg').1⟩]
 rw[ea,Option.bind_some];dsimp only;unfold isW;cases hm:((rdAll ls).1.any fun r=>r.1)
 ·rw[if_neg (by decide),es,Option.bind_some];show Option.bind (S.i_rat_isOne (rp B32 (sumQ (rdAll ls).1),())) _=_;rw[eo,Option.bind_some];cases ho:isOneQ (sumQ (rdAll ls).1)
  ·rfl
  ·simp [hf]
 ·rfl
abbrev i_chainOf.A:=Int×Int×List (List ByteArray)×List (List ByteArray)×List (List RB)×Unit
abbrev i_chainOf.B:=Option ((List (List RB)×Bool)×Unit)
abbrev P.i_chainOf_b0 (x1:i_chainOf.A) (g2:i_chainOf.A->i_chainOf.B):i_chainOf.B:=
 if decide (x1.1<x1.2.1)then if decide (0<=x1.1)then if decide (x1.1<(x1.2.2.1.length:Int))then(S.i_weightsOf (x1.2.2.1.getD x1.1.toNat [],())).bind fun y3=>if !y3.1.2 then some (([],false),())else if(y3.1.1.length:Int) != (x1.2.2.2.1.length:Int)then some (([],false),())else if decide (((x1.2.2.2.2.1.length+(List.length [y3.1.1]))*24)<=140737488355328)then g2 (wrap .i64 (x1.1+1),x1.2.1,x1.2.2.1,x1.2.2.2.1,x1.2.2.2.2.1++[y3.1.1],())else none else none else none else some ((x1.2.2.2.2.1,true),())
def P.i_chainOf (k:Nat) (x:List (List ByteArray)×Unit):i_chainOf.B:=
 if decide ((x.1.length:Int)<1)then some (([],false),())else if decide ((x.1.length:Int)>12)then some (([],false),())else loopP P.i_chainOf_b0 k (0,(x.1.length:Int),x.1,x.1,[],())
def S.i_chainOf (x:((List (List ByteArray))×Unit)):(Option (((List (List RB))×Bool)×Unit)):=if x.1.all okT=true then some (((chQ x.1).1.map (fun r=>r.map (rp B32)),(chQ x.1).2),())else none
theorem S.i_chainOf_ok (x r) (h:S.i_chainOf x=some r):∃k,P.i_chainOf k x=some r:=by
 obtain⟨rows,u⟩:=x;unfold S.i_chainOf at h;dsimp only at h;split at h
 case isFalse=>cases h
 rename_i hc;cases h;refine⟨rows.length+1,?_⟩;unfold P.i_chainOf chQ;dsimp only
 by_cases h1:1<=rows.length
 case neg=>
  rw[if_pos (decide_eq_true (show(rows.length:Int)<1 by omega)),decide_eq_false h1];rfl
 rw[if_neg (by simpa using(show ¬(rows.length:Int)<1 by omega)),decide_eq_true h1]
 by_cases h2:rows.length<=12
 case neg=>
  rw[if_pos (decide_eq_true (show(rows.length:Int)>12 by omega)),decide_eq_false h2];rfl
 rw[if_neg (by simpa using(show ¬(rows.length:Int)>12 by omega)),decide_eq_true h2];simp only[Bool.true_and];have key:=a0g (k:=rows.length+1) (b:=P.i_chainOf_b0) (n:=rows.length) (st:=fun i=>((i:Int),(rows.length:Int),rows,rows,(rows.take i).map (fun r=>(rdAll r).1.map (rp B32)),())) (F:=fun i=>some (if((rows.drop i).all fun r=>decide (r.length=rows.length)&&(wtAll r).2)=true then(rows.map (fun r=>(rdAll r).1.map (rp B32)),true)else([],false),())) (fun i g hi hg'=>by
  have e1:(i:Int)<(rows.length:Int):=by omega
  have e2:(0:Int)<=(i:Int):=by omega
  have hr:okT rows[i]=true:=List.all_eq_true.1 hc _ (List.getElem_mem hi);have e4:(((rows.take i).map (fun r=>(rdAll r).1.map (rp B32))).length+1)*24<=140737488355328:=by
   rw[List.length_map,List.length_take];omega
  unfold P.i_chainOf_b0;dsimp only at hg' ⊢;simp only[e1,e2,decide_true,if_true];rw[a0o rows i _ hi,List.drop_eq_getElem_cons hi,List.all_cons];have ew:S.i_weightsOf (rows[i],())=some (((wtAll rows[i]).1.map (rp B32),(wtAll rows[i]).2),()):=by
   unfold S.i_weightsOf;exact if_pos hr
  rw[ew,Option.bind_some];dsimp only;cases hw:(wtAll rows[i]).2
  ·rw[if_pos (by decide),Bool.and_false,Bool.false_and,if_neg (by decide)]
  obtain⟨w1,w2,w3⟩:=wtAll_ok hw;have w4:=(rdAll_ok w1).1;rw[if_neg (by decide),w3,List.length_map,w4,Bool.and_true]
  by_cases hl:rows[i].length=rows.length
  case neg=>
   rw[if_pos (by simp;omega),decide_eq_false hl,Bool.false_and,if_neg (by decide)]
  rw[if_neg (by simp;omega),decide_eq_true hl,Bool.true_and];simp only[List.length_cons,List.length_nil,Nat.zero_add];rw[if_pos (decide_eq_true e4),wr (by omega) (by omega),<-hg',List.take_add_one,List.getElem?_eq_getElem hi,Option.toList_some,List.map_append];rfl) (fun g=>by
  unfold P.i_chainOf_b0;dsimp only;rw[if_neg (by simp),List.take_length,List.drop_length];rfl) (by omega)
 rw[List.drop_zero]at key;refine Eq.trans key ?_
 by_cases ha:(rows.all fun r=>decide (r.length=rows.length)&&(wtAll r).2)=true
 ·rw[if_pos ha,if_pos ha,List.map_map];rfl
 ·rw[if_neg ha,if_neg ha];rfl
abbrev i_reach.A:=Int×Int×List RB×List Bool×List Int×List (List RB)×Unit
abbrev i_reach.B:=List Int×List (List RB)×List Bool×Unit
abbrev i_reach.C:=Option (List Bool×Unit)
abbrev P.i_reach_b3 (g2:i_reach.B->i_reach.C) (x4:i_reach.A) (g5:i_reach.A->i_reach.C):i_reach.C:=
 (fun(a b:Int) (c:List RB) (d:List Bool) (e:List Int) (f:List (List RB))=>if decide (a<b)then if decide (0<=a)then if decide (a<(c.length:Int))then(S.a0v (((c.getD a.toNat (false,[],[])).1,(c.getD a.toNat (false,[],[])).2.1,(c.getD a.toNat (false,[],[])).2.2),())).bind fun y6=>if decide (y6.1>0)then if decide (0<=a)then if decide (a<(d.length:Int))then if ! (d.getD (0+a.toNat) false)then if decide (0<=a)then if decide (a<(d.length:Int))then if decide (((e.length+(List.length [a]))*8)<=140737488355328)then g5 (wrap .i64 (a+1),b,c,d.set (0+a.toNat) true,e++[a],f,())else none else none else none else g5 (wrap .i64 (a+1),b,c,d,e,f,())else none else none else g5 (wrap .i64 (a+1),b,c,d,e,f,())else none else none else if decide (0<=(e.length:Int))then if decide (((e.length:Int)+0)<=(e.length:Int))then if decide (1<=(e.length:Int))then g2 (seen e 1 ((Int.toNat (e.length:Int)) - 1),f,d,())else none else none else none) x4.1 x4.2.1 x4.2.2.1 x4.2.2.2.1 x4.2.2.2.2.1 x4.2.2.2.2.2.1
abbrev P.i_reach_b0 (k:Nat) (x1:i_reach.B) (g2:i_reach.B->i_reach.C):i_reach.C:=
 if decide ((x1.1.length:Int)>0)then if decide (0<(x1.1.length:Int))then if decide (0<=(x1.1.getD 0 0))then if decide ((x1.1.getD 0 0)<(x1.2.1.length:Int))then loopP (P.i_reach_b3 g2) k (0,(List.length (x1.2.1.getD (Int.toNat (x1.1.getD 0 0)) []):Int),x1.2.1.getD (Int.toNat (x1.1.getD 0 0)) [],x1.2.2.1,x1.1,x1.2.1,())else none else none else none else some (x1.2.2.1,())
def P.i_reach (k:Nat) (x:List (List RB)×Int×Unit):i_reach.C:=
 if decide (0<=(x.1.length:Int))then if decide ((x.1.length:Int)<=(x.1.length:Int))then if decide (((x.1.length:Int)*1)<=281474976710656)then if decide (0<=x.2.1)then if decide (x.2.1<(List.length (List.replicate (Int.toNat (x.1.length:Int)) false):Int))then loopP (P.i_reach_b0 k) k ([x.2.1],x.1,List.set (List.replicate (Int.toNat (x.1.length:Int)) false) (0+x.2.1.toNat) true,())else none else none else none else none else none
theorem sign_rp (q:Q3):S.a0v (((rp B32 q).1,(rp B32 q).2.1,(rp B32 q).2.2),())=some (sgnQ q.1 q.2.1,()):=by
 unfold S.a0v rp;dsimp only;rw[if_pos (a0j (by decide) _),a0i (by decide)]
theorem reI_inner {M:List (List Q3)} (hM:isM M) {i:Nat} (hi:i<M.length) {sn:List Bool} {td:List Nat} (hb:Bok M.length (sn,td)) (hm:td.length+sn.count false<=1000000)
  (g) {K:Nat} (hK:M.length<K):
  loopP (P.i_reach_b3 g) K ((0:Int),(M.length:Int),(M.getD i []).map (rp B32),sn,zs (i::td),mp B32 M,())=g (zs (scanB (adj M i) M.length (sn,td)).2,mp B32 M,(scanB (adj M i) M.length (sn,td)).1,()):=by
 have hrow:=isM_row hM hi;have hn:=hM.1;have key:=a0g (k:=K) (b:=P.i_reach_b3 g) (n:=M.length) (st:=fun j=>((j:Int),(M.length:Int),(M.getD i []).map (rp B32),((List.range j).foldl (stepB (adj M i)) (sn,td)).1,zs (i::((List.range j).foldl (stepB (adj M i)) (sn,td)).2),mp B32 M,())) (F:=fun _=>g (zs (scanB (adj M i) M.length (sn,td)).2,mp B32 M,(scanB (adj M i) M.length (sn,td)).1,())) (fun j g' hj hg=>by
  unfold P.i_reach_b3;dsimp only at hg ⊢;obtain⟨b1,b2⟩:=foldB_ok (a:=adj M i) hb j (by omega);rw[fold_succ]at hg;generalize (List.range j).foldl (stepB (adj M i)) (sn,td)=s at b1 b2 hg ⊢;have b3:s.2.length<=td.length+sn.count false:=by
   dsimp only at b2;omega
  have e1:(j:Int)<(M.length:Int):=by omega
  have e2:(0:Int)<=(j:Int):=by omega
  have e3:(((M.getD i []).map (rp B32)).length:Int)=(M.length:Int):=by rw[List.length_map,hrow.1]
  have e4:(zs (i::s.2)).length=s.2.length+1:=by simp [zs]
  have e5:(s.2.length+1+1)*8<=140737488355328:=by omega
  have e6:(s.1.length:Int)=(M.length:Int):=by rw[b1.len]
  rw[Int.toNat_natCast,getD_rp B32 (by rw[hrow.1];exact hj),sign_rp,Option.bind_some];simp only[e1,e2,e3,e4,e5,e6,decide_true,if_true,List.length_cons,List.length_nil,Nat.zero_add];rw[sgnQ_pos,posQ_adj hM hi hj,wr (by omega) (by omega)];unfold stepB at hg;cases ha:adj M i j
  ·rw[ha,if_neg (by simp)]at hg;rw[if_neg (by decide)];exact hg
  ·rw[if_pos rfl];cases hs:s.1.getD j false
   ·rw[ha,hs,if_pos ⟨rfl,rfl⟩]at hg;rw[if_pos (by decide),<-hg];simp [zs]
   ·rw[ha,hs,if_neg (by simp)]at hg;rw[if_neg (by decide)];exact hg) (fun g'=>by
  unfold P.i_reach_b3;dsimp only
  change _=g (zs (scanB (adj M i) M.length (sn,td)).2,mp B32 M,(scanB (adj M i) M.length (sn,td)).1,())
  rw[show(List.range M.length).foldl (stepB (adj M i)) (sn,td)=scanB (adj M i) M.length (sn,td)from rfl];generalize scanB (adj M i) M.length (sn,td)=s;have e4:(zs (i::s.2)).length=s.2.length+1:=by simp [zs]
  have e5:(0:Int)<=((s.2.length+1:Nat):Int):=by omega
  have e6:((s.2.length+1:Nat):Int)+0<=((s.2.length+1:Nat):Int):=by omega
  have e7:(1:Int)<=((s.2.length+1:Nat):Int):=by omega
  rw[if_neg (by simp)];simp only[e4,e5,e6,e7,decide_true,if_true,Int.toNat_natCast];have e8:seen (zs (i::s.2)) 1 (s.2.length+1 - 1)=zs s.2:=by
   show(zs s.2).take (s.2.length+1 - 1)=zs s.2;exact List.take_of_length_le (by rw[zs_len];omega)
  rw[e8]) hK
 exact key
theorem reI_outer {M:List (List Q3)} (hM:isM M) {K:Nat} (hK:M.length<K):∀(f k:Nat) (sn:List Bool) (td:List Nat),Bok M.length (sn,td)->td.length+sn.count false<=f->f<k->f<=1000000->loopP (P.i_reach_b0 K) k (zs td,mp B32 M,sn,())=some (bfs (adj M) M.length f sn td,()):=by
 intro f
 induction f with
 |zero=>
  intro k sn td hb hm hk hf;cases k with
  |zero=>omega
  |succ k=>
   have:td=[]:=List.eq_nil_of_length_eq_zero (by omega);subst this;rw[a0k];rfl
 |succ f ih=>
  intro k sn td hb hm hk hf;cases k with
  |zero=>omega
  |succ k=>
   rw[a0k];cases td with
   |nil=>rfl
   |cons i r=>
    have hi:i<M.length:=hb.lt i (List.mem_cons_self ..);have hb':Bok M.length (sn,r):=⟨hb.len,fun t ht=>hb.lt t (List.mem_cons_of_mem _ ht)⟩
    have hm':r.length+sn.count false<=f:=by
     rw[List.length_cons]at hm;omega
    unfold P.i_reach_b0;dsimp only;have e1:((zs (i::r)).length:Int)>0:=by rw[zs_len,List.length_cons];omega
    have e2:(zs (i::r)).getD 0 0=(i:Int):=rfl;have e3:(0:Int)<=(i:Int):=by omega
    have e4:(i:Int)<((mp B32 M).length:Int):=by rw[mp_len];omega
    rw[e2];simp only[e1,e3,e4,decide_true,if_true,Int.toNat_natCast];rw[mp_at hi,List.length_map,(isM_row hM hi).1,reI_inner hM hi hb' (by omega) _ hK,bfs];obtain⟨c1,c2⟩:=foldB_ok (a:=adj M i) hb' M.length (Nat.le_refl _);exact ih k _ _ c1 (by
     have:(scanB (adj M i) M.length (sn,r)).2.length+(scanB (adj M i) M.length (sn,r)).1.count false=r.length+sn.count false:=c2;omega) (by omega) (by omega)
open Classical in
def S.i_reach (x:((List (List RB))×(Int×Unit))):(Option ((List Bool)×Unit)):=if(∃M,isM M/\x.1=mp B32 M)/\0<=x.2.1/\x.2.1<(x.1.length:Int)then some (reachB (adj (mv B32 x.1)) x.1.length x.2.1.toNat,())else none
theorem S.i_reach_ok (x r) (h:S.i_reach x=some r):∃k,P.i_reach k x=some r:=by
 obtain⟨m,s,u⟩:=x;unfold S.i_reach at h;dsimp only at h;split at h
 case isFalse=>cases h
 rename_i hc;obtain⟨⟨M,hM,rfl⟩,h0,h1⟩:=hc;cases h;obtain⟨s,rfl⟩:=Int.eq_ofNat_of_zero_le h0;rw[mv_mp (by decide),mp_len]at*;have hs:s<M.length:=by omega
 have hn:=hM.1;refine⟨M.length+1,?_⟩;unfold P.i_reach;dsimp only;have e1:(0:Int)<=(M.length:Int):=by omega
 have e2:(M.length:Int)*1<=281474976710656:=by omega
 have e3:((List.replicate M.length false).length:Int)=(M.length:Int):=by simp
 rw[mp_len];simp only[e1,e2,e3,h0,h1,Int.le_refl,decide_true,if_true,Int.toNat_natCast,Nat.zero_add];obtain⟨c1,c2⟩:=start_ok hs;exact reI_outer hM (K:=M.length+1) (by omega) M.length (M.length+1) _ [s] c1 (by omega) (by omega) (by omega)
def P.i_in (k:Nat) (x:Int×Int×Int×Unit):Option (Bool×Unit):=
 if decide (x.1>=x.2.1)then some (decide (x.1<=x.2.2.1),())else some (false,())
def S.i_in (x:(Int×(Int×(Int×Unit)))):(Option (Bool×Unit)):=P.i_in 0 x
theorem S.i_in_ok (x r) (h:S.i_in x=some r):∃k,P.i_in k x=some r:=⟨0,h⟩
def P.i_isState (k:Nat) (x:List (List RB)×Int×Unit):Option (Bool×Unit):=
 (S.i_in (x.2.1,0,wrap .i64 ((x.1.length:Int) - 1),())).bind fun y0=>some (y0.1,())
def S.i_isState (x:((List (List RB))×(Int×Unit))):(Option (Bool×Unit)):=P.i_isState 0 x
theorem S.i_isState_ok (x r) (h:S.i_isState x=some r):∃k,P.i_isState k x=some r:=⟨0,h⟩
def P.math_bits_Mul64 (k:Nat) (x:Int×Int×Unit):Option ((Int×Int)×Unit):=
 some ((wrap .u64 ((wrap .u64 ((wrap .u64 ((Int.fdiv x.1 4294967296)*(Int.fdiv x.2.1 4294967296)))+(Int.fdiv (wrap .u64 ((wrap .u64 ((Int.fdiv x.1 4294967296)*(wrap .u64 ((BitVec.toNat ((BitVec.ofInt 64 x.2.1)&&& (BitVec.ofInt 64 4294967295)):Nat):Int))))+(Int.fdiv (wrap .u64 ((wrap .u64 ((BitVec.toNat ((BitVec.ofInt 64 x.1)&&& (BitVec.ofInt 64 4294967295)):Nat):Int))*(wrap .u64 ((BitVec.toNat ((BitVec.ofInt 64 x.2.1)&&& (BitVec.ofInt 64 4294967295)):Nat):Int)))) 4294967296))) 4294967296)))+(Int.fdiv (wrap .u64 ((wrap .u64 ((BitVec.toNat ((BitVec.ofInt 64 (wrap .u64 ((wrap .u64 ((Int.fdiv x.1 4294967296)*(wrap .u64 ((BitVec.toNat ((BitVec.ofInt 64 x.2.1)&&& (BitVec.ofInt 64 4294967295)):Nat):Int))))+(Int.fdiv (wrap .u64 ((wrap .u64 ((BitVec.toNat ((BitVec.ofInt 64 x.1)&&& (BitVec.ofInt 64 4294967295)):Nat):Int))*(wrap .u64 ((BitVec.toNat ((BitVec.ofInt 64 x.2.1)&&& (BitVec.ofInt 64 4294967295)):Nat):Int)))) 4294967296))))&&& (BitVec.ofInt 64 4294967295)):Nat):Int))+(wrap .u64 ((wrap .u64 ((BitVec.toNat ((BitVec.ofInt 64 x.1)&&& (BitVec.ofInt 64 4294967295)):Nat):Int))*(Int.fdiv x.2.1 4294967296))))) 4294967296)),wrap .u64 (x.1*x.2.1)),())
def S.math_bits_Mul64 (x:(Int×(Int×Unit))):(Option ((Int×Int)×Unit)):=P.math_bits_Mul64 0 x
theorem S.math_bits_Mul64_ok (x r) (h:S.math_bits_Mul64 x=some r):∃k,P.math_bits_Mul64 k x=some r:=⟨0,h⟩
def P.math_bits_Mul (k:Nat) (x:Int×Int×Unit):Option ((Int×Int)×Unit):=
 (S.math_bits_Mul64 (x.1,x.2.1,())).bind fun y0=>some ((y0.1.1,y0.1.2),())
def S.math_bits_Mul (x:(Int×(Int×Unit))):(Option ((Int×Int)×Unit)):=P.math_bits_Mul 0 x
theorem S.math_bits_Mul_ok (x r) (h:S.math_bits_Mul x=some r):∃k,P.math_bits_Mul k x=some r:=⟨0,h⟩
abbrev P.slices_Repeat__i_rat_i_rat_b1 (x2:(Int×((List RB)×Unit))) (g3:(Int×((List RB)×Unit))->Option ((List RB)×Unit)):Option ((List RB)×Unit):=
 (if((decide (x2.1<((List.length x2.2.1):Int)))=true)then(if((decide ((0:Int)<=((List.length x2.2.1):Int)))=true)then(if((decide ((((List.length x2.2.1):Int)+(0:Int))<=((List.length x2.2.1):Int)))=true)then(if((decide ((0:Int)<=x2.1))=true)then(if((decide (x2.1<=((List.length x2.2.1):Int)))=true)then(if((decide ((0:Int)<=x2.1))=true)then(if((decide ((x2.1+(0:Int))<=((List.length x2.2.1):Int)))=true)then(if((decide ((0:Int)<=x2.1))=true)then(g3 ((IntKind.wrap .i64 (x2.1+(((Min.min (List.length (seen x2.2.1 (0:Nat) ((Int.toNat x2.1) - (0:Nat)))) ((Int.toNat ((List.length x2.2.1):Int)) - (Int.toNat x2.1))):Nat):Int))),((splice x2.2.1 (List.take ((Int.toNat ((List.length x2.2.1):Int)) - (Int.toNat x2.1)) (seen x2.2.1 (0:Nat) ((Int.toNat x2.1) - (0:Nat)))) ((0:Nat)+(Int.toNat x2.1))),())))
 else none)
 else none)
 else none)
 else none)
 else none)
 else none)
 else none)
 else(some (x2.2.1,())))
def P.slices_Repeat__i_rat_i_rat (k:Nat) (x:((List RB)×(Int×Unit))):(Option ((List RB)×Unit)):=
 (if((decide (x.2.1<(0:Int)))=true)then none
 else(Option.bind (S.math_bits_Mul ((IntKind.wrap .u64 ((List.length x.1):Int)),((IntKind.wrap .u64 x.2.1),()))) (fun(y0:((Int×Int)×Unit))=>(if((decide (y0.1.1>(0:Int)))=true)then none
 else(if((decide (y0.1.2>(9223372036854775807:Int)))=true)then none
 else(if((decide ((0:Int)<=(IntKind.wrap .i64 y0.1.2)))=true)then(if((decide ((IntKind.wrap .i64 y0.1.2)<=(IntKind.wrap .i64 y0.1.2)))=true)then(if((decide (((IntKind.wrap .i64 y0.1.2)*(56:Int))<=(281474976710656:Int)))=true)then(loopP (X:=(Int×((List RB)×Unit))) (R:=((List RB)×Unit)) (P.slices_Repeat__i_rat_i_rat_b1) k ((((Min.min (List.length x.1) (List.length (List.replicate (Int.toNat (IntKind.wrap .i64 y0.1.2)) (false,(([]:List Int),([]:List Int)))))):Nat):Int),((splice (List.replicate (Int.toNat (IntKind.wrap .i64 y0.1.2)) (false,(([]:List Int),([]:List Int)))) (List.take (List.length (List.replicate (Int.toNat (IntKind.wrap .i64 y0.1.2)) (false,(([]:List Int),([]:List Int))))) x.1) (0:Nat)),())))
 else none)
 else none)
 else none))))))
def PP.slices_Repeat__i_rat_i_rat (k:Nat) (x:((List RB)×(Int×Unit))):(Option ((List RB)×Unit)):=
 (Decidable.rec (motive:=fun _=>(Option ((List RB)×Unit))) (fun _=>(Option.bind (S.math_bits_Mul ((IntKind.wrap .u64 ((List.length x.1):Int)),((IntKind.wrap .u64 x.2.1),()))) (fun(y0:((Int×Int)×Unit))=>(Decidable.rec (motive:=fun _=>(Option ((List RB)×Unit))) (fun _=>(Decidable.rec (motive:=fun _=>(Option ((List RB)×Unit))) (fun _=>(Decidable.rec (motive:=fun _=>(Option ((List RB)×Unit))) (fun _=>none) (fun _=>(Decidable.rec (motive:=fun _=>(Option ((List RB)×Unit))) (fun _=>none) (fun _=>(Decidable.rec (motive:=fun _=>(Option ((List RB)×Unit))) (fun _=>none) (fun _=>(loopP (X:=(Int×((List RB)×Unit))) (R:=((List RB)×Unit)) (P.slices_Repeat__i_rat_i_rat_b1) k ((((Min.min (List.length x.1) (List.length (List.replicate (Int.toNat (IntKind.wrap .i64 y0.1.2)) (false,(([]:List Int),([]:List Int)))))):Nat):Int),((splice (List.replicate (Int.toNat (IntKind.wrap .i64 y0.1.2)) (false,(([]:List Int),([]:List Int)))) (List.take (List.length (List.replicate (Int.toNat (IntKind.wrap .i64 y0.1.2)) (false,(([]:List Int),([]:List Int))))) x.1) (0:Nat)),())))) (instDecidableEqBool (decide (((IntKind.wrap .i64 y0.1.2)*(56:Int))<=(281474976710656:Int))) true))) (instDecidableEqBool (decide ((IntKind.wrap .i64 y0.1.2)<=(IntKind.wrap .i64 y0.1.2))) true))) (instDecidableEqBool (decide ((0:Int)<=(IntKind.wrap .i64 y0.1.2))) true))) (fun _=>none) (instDecidableEqBool (decide (y0.1.2>(9223372036854775807:Int))) true))) (fun _=>none) (instDecidableEqBool (decide (y0.1.1>(0:Int))) true))))) (fun _=>none) (instDecidableEqBool (decide (x.2.1<(0:Int))) true))
theorem PP.slices_Repeat__i_rat_i_rat_eq (k:Nat) (x:((List RB)×(Int×Unit))):PP.slices_Repeat__i_rat_i_rat k x=P.slices_Repeat__i_rat_i_rat k x:=rfl
theorem mul_one_bits:∀n:Fin 21,S.math_bits_Mul (1,((n.val:Int),()))=some ((0,(n.val:Int)),()):=by decide
def S.a0n (x:((List RB)×(Int×Unit))):(Option ((List RB)×Unit)):=if x.1.length=1/\0<=x.2.1/\x.2.1<=20 then some (List.replicate x.2.1.toNat (x.1.getD 0 (false,([],[]))),())else none
theorem S.slices_Repeat__i_rat_i_rat_ok (x r) (h:S.a0n x=some r):∃k,P.slices_Repeat__i_rat_i_rat k x=some r:=by
 obtain⟨xs,m,u⟩:=x;unfold S.a0n at h;dsimp only at h;split at h
 case isFalse=>cases h
 rename_i hc;cases h;obtain⟨hx,h1,h2⟩:=hc;obtain⟨a,rfl⟩:∃a,xs=[a]:=by
  match xs,hx with
  | [a],_=>exact⟨a,rfl⟩
 obtain⟨M,rfl⟩:∃M:Nat,m=(M:Int):=⟨m.toNat,by omega⟩
 rw[Int.toNat_natCast];refine⟨M+2,?_⟩;unfold P.slices_Repeat__i_rat_i_rat;dsimp only;have hmul:=mul_one_bits ⟨M,by omega⟩;dsimp only at hmul;have e0:IntKind.wrap .u64 (M:Int)=(M:Int):=IntWalk.u64_in _ (by omega);rw[if_neg (by simp),e0];show Option.bind (S.math_bits_Mul (1,((M:Int),()))) _=_;rw[hmul,Option.bind_some];dsimp only;rw[if_neg (show ¬((decide ((0:Int)>0))=true) by simp),if_neg (by simpa using(show ¬(M:Int)>9223372036854775807 by omega)),wr (by omega) (by omega),if_pos (decide_eq_true (show(0:Int)<=(M:Int) by omega)),if_pos (by simp),if_pos (decide_eq_true (show(M:Int)*56<=281474976710656 by omega)),Int.toNat_natCast];simp only[List.length_replicate,List.length_cons,List.length_nil,Nat.zero_add];have key:∀(d j k:Nat),j+d=M->1<=j->d<k->loopP P.slices_Repeat__i_rat_i_rat_b1 k ((j:Int),List.replicate j a++List.replicate d (false,(([]:List Int),([]:List Int))),())=some (List.replicate M a,()):=by
  intro d
  induction d using Nat.strongRecOn with
  |ind d ih=>
   intro j k hj h1 hk;cases k with
   |zero=>omega
   |succ k=>
    rw[a0k];unfold P.slices_Repeat__i_rat_i_rat_b1;have hlen:(List.replicate j a++List.replicate d (false,(([]:List Int),([]:List Int)))).length=M:=by simp;omega
    dsimp only;rw[hlen]
    by_cases hd:d=0
    ·subst hd;rw[if_neg (by simpa using(show ¬(j:Int)<(M:Int) by omega))];rw[show j=M by omega];simp
    ·have c1:(j:Int)<(M:Int):=by omega
     have c2:(0:Int)<=(M:Int):=by omega
     have c3:(M:Int)+0<=(M:Int):=by omega
     have c4:(0:Int)<=(j:Int):=by omega
     have c5:(j:Int)<=(M:Int):=by omega
     have c6:(j:Int)+0<=(M:Int):=by omega
     simp only[c1,c2,c3,c4,c5,c6,decide_true,if_true];have hs:seen (List.replicate j a++List.replicate d (false,(([]:List Int),([]:List Int)))) 0 ((j:Int).toNat - 0)=List.replicate j a:=by
      unfold seen;rw[Int.toNat_natCast,Nat.sub_zero,List.drop_zero,List.take_left' (by simp)]
     rw[hs,List.length_replicate,Int.toNat_natCast,Int.toNat_natCast];have hsp:splice (List.replicate j a++List.replicate d (false,(([]:List Int),([]:List Int)))) (List.take (M - j) (List.replicate j a)) (0+j)=List.replicate (j+min j d) a++List.replicate (d - min j d) (false,(([]:List Int),([]:List Int))):=by
      unfold splice;rw[Nat.zero_add,List.take_left' (by simp),List.take_replicate,List.length_replicate,show M - j=d by omega,List.drop_append];simp only[List.length_replicate];rw[List.drop_of_length_le (by simp),List.nil_append,List.drop_replicate,<-List.replicate_append_replicate,show j+min d j - j=min d j by omega,Nat.min_comm d j]
     rw[hsp,show M - j=d by omega,wr (by omega) (by omega)];have:=ih (d - min j d) (by omega) (j+min j d) k (by omega) (by omega) (by omega);rw[<-this];congr 2
 match M,h2 with
 |0,_=>
  rfl
 |M+1,h2=>
  have:=key M 1 (M+1+2) (by omega) (by omega) (by omega);have a1:min 1 (M+1)=1:=by omega
  have a2:splice (List.replicate (M+1) (false,(([]:List Int),([]:List Int)))) (List.take (M+1) [a]) 0=List.replicate 1 a++List.replicate M (false,(([]:List Int),([]:List Int))):=by
   unfold splice;simp [List.replicate_succ]
  rw[a1,a2];exact this
def P.i_rat_minus (k:Nat) (x:RB×Unit):Option (RB×Unit):=
 if !x.1.1 then some ((decide ((x.1.2.1.length:Int)>0),x.1.2.1,x.1.2.2),())else some ((false,x.1.2.1,x.1.2.2),())
def S.i_rat_minus (x:(RB×Unit)):(Option (RB×Unit)):=if rok B32 40000000 x.1=true then some (rp B32 (oppQ (rv B32 x.1)),())else none
theorem S.i_rat_minus_ok (x r) (h:S.i_rat_minus x=some r):∃k,P.i_rat_minus k x=some r:=by
 obtain⟨x,u⟩:=x;unfold S.i_rat_minus at h;dsimp only at h;split at h
 case isFalse=>cases h
 rename_i hc;cases h;refine⟨0,?_⟩;obtain⟨n,p,q,rfl,_,_⟩:=rok_nd hc;rw[rv_nd a0e];unfold P.i_rat_minus oppQ rp;dsimp only;rw[nd_len_pos a0e];cases n
 ·rfl
 ·rfl
abbrev i_lessOne.A:=Int×Int×List Int×List (List RB)×Int×Bool×List RB×List (List RB×Nat)×Int×Int×List Int×List Int×Unit
abbrev i_lessOne.B:=Int×Int×List Int×List Int×List (List RB)×Bool×List (List RB×Nat)×Unit
abbrev i_lessOne.C:=Option ((List (List RB×Nat)×Nat)×Unit)
abbrev P.i_lessOne_b4 (g2:i_lessOne.B->i_lessOne.C) (x5:i_lessOne.A) (g6:i_lessOne.A->i_lessOne.C):i_lessOne.C:=
 (fun(a b e j l:Int) (c m n:List Int) (d:List (List RB)) (f:Bool) (h:List RB) (i:List (List RB×Nat))=>if decide (a<b)then if decide (0<=a)then if decide (a<(c.length:Int))then if decide (0<=e)then if decide (e<(d.length:Int))then if decide (0<=(c.getD a.toNat 0))then if decide ((c.getD a.toNat 0)<(List.length (d.getD e.toNat []):Int))then if f then if decide (0<=(c.getD a.toNat 0))then if decide ((c.getD a.toNat 0)<(d.length:Int))then if decide (0<=e)then if decide (e<(List.length (d.getD (Int.toNat (c.getD a.toNat 0)) []):Int))then(S.i_rat_minus (((List.getD (d.getD (Int.toNat (c.getD a.toNat 0)) []) e.toNat (false,[],[])).1,(List.getD (d.getD (Int.toNat (c.getD a.toNat 0)) []) e.toNat (false,[],[])).2.1,(List.getD (d.getD (Int.toNat (c.getD a.toNat 0)) []) e.toNat (false,[],[])).2.2),())).bind fun y7=>if e==(c.getD a.toNat 0)then(S.i_whole (1,())).bind fun y8=>(S.a0x ((y7.1.1,y7.1.2.1,y7.1.2.2),(y8.1.1,y8.1.2.1,y8.1.2.2),())).bind fun y9=>if decide (((h.length+(List.length [(y9.1.1,y9.1.2.1,y9.1.2.2)]))*56)<=140737488355328)then if dup (List.map (fun(y10:Nat×Nat)=>y10.1) (hd0 i))then none else g6 (wrap .i64 (a+1),b,c,d,e,f,h++[(y9.1.1,y9.1.2.1,y9.1.2.2)],nrm (hd0 i) (in0 i),j,l,m,n,())else none else if decide (((h.length+(List.length [(y7.1.1,y7.1.2.1,y7.1.2.2)]))*56)<=140737488355328)then if dup (List.map (fun(y11:Nat×Nat)=>y11.1) (hd0 i))then none else g6 (wrap .i64 (a+1),b,c,d,e,f,h++[(y7.1.1,y7.1.2.1,y7.1.2.2)],nrm (hd0 i) (in0 i),j,l,m,n,())else none else none else none else none else none else(S.i_rat_minus (((List.getD (d.getD e.toNat []) (Int.toNat (c.getD a.toNat 0)) (false,[],[])).1,(List.getD (d.getD e.toNat []) (Int.toNat (c.getD a.toNat 0)) (false,[],[])).2.1,(List.getD (d.getD e.toNat []) (Int.toNat (c.getD a.toNat 0)) (false,[],[])).2.2),())).bind fun y12=>if e==(c.getD a.toNat 0)then(S.i_whole (1,())).bind fun y13=>(S.a0x ((y12.1.1,y12.1.2.1,y12.1.2.2),(y13.1.1,y13.1.2.1,y13.1.2.2),())).bind fun y14=>if decide (((h.length+(List.length [(y14.1.1,y14.1.2.1,y14.1.2.2)]))*56)<=140737488355328)then if dup (List.map (fun(y15:Nat×Nat)=>y15.1) (hd0 i))then none else g6 (wrap .i64 (a+1),b,c,d,e,f,h++[(y14.1.1,y14.1.2.1,y14.1.2.2)],nrm (hd0 i) (in0 i),j,l,m,n,())else none else if decide (((h.length+(List.length [(y12.1.1,y12.1.2.1,y12.1.2.2)]))*56)<=140737488355328)then if dup (List.map (fun(y16:Nat×Nat)=>y16.1) (hd0 i))then none else g6 (wrap .i64 (a+1),b,c,d,e,f,h++[(y12.1.1,y12.1.2.1,y12.1.2.2)],nrm (hd0 i) (in0 i),j,l,m,n,())else none else none else none else none else none else none else none else if decide ((((List.length (hd0 i))+(List.length (hd0 [(h,h.length)])))*24)<=140737488355328)then if dup (List.map (fun(y17:Nat×Nat)=>y17.1) (joinH (List.length (in0 i)) (hd0 i) (hd0 [(h,h.length)])))then none else g2 (wrap .i64 (j+1),l,m,n,d,f,nrm (joinH (List.length (in0 i)) (hd0 i) (hd0 [(h,h.length)])) ((in0 i)++[h]),())else none) x5.1 x5.2.1 x5.2.2.2.2.1 x5.2.2.2.2.2.2.2.2.1 x5.2.2.2.2.2.2.2.2.2.1 x5.2.2.1 x5.2.2.2.2.2.2.2.2.2.2.1 x5.2.2.2.2.2.2.2.2.2.2.2.1 x5.2.2.2.1 x5.2.2.2.2.2.1 x5.2.2.2.2.2.2.1 x5.2.2.2.2.2.2.2.1
abbrev P.i_lessOne_b0 (k:Nat) (x1:i_lessOne.B) (g2:i_lessOne.B->i_lessOne.C):i_lessOne.C:=
 if decide (x1.1<x1.2.1)then if decide (0<=x1.1)then if decide (x1.1<(x1.2.2.1.length:Int))then if dup (List.map (fun(y3:Nat×Nat)=>y3.1) (hd0 x1.2.2.2.2.2.2.1))then none else loopP (P.i_lessOne_b4 g2) k (0,(x1.2.2.2.1.length:Int),x1.2.2.2.1,x1.2.2.2.2.1,x1.2.2.1.getD x1.1.toNat 0,x1.2.2.2.2.2.1,[],nrm (hd0 x1.2.2.2.2.2.2.1) (in0 x1.2.2.2.2.2.2.1),x1.1,x1.2.1,x1.2.2.1,x1.2.2.2.1,())else none else none else if dup (List.map (fun(y18:Nat×Nat)=>y18.1) (hd0 x1.2.2.2.2.2.2.1))then none else some ((nrm (hd0 x1.2.2.2.2.2.2.1) (in0 x1.2.2.2.2.2.2.1),List.length (hd0 x1.2.2.2.2.2.2.1)),())
def P.i_lessOne (k:Nat) (x:List (List RB)×List Int×Bool×Unit):i_lessOne.C:=
 loopP (P.i_lessOne_b0 k) k (0,(x.2.1.length:Int),x.2.1,x.2.1,x.1,x.2.2.1,nrm (hd0 ([]:List (List RB×Nat))) (in0 ([]:List (List RB×Nat))),())
theorem ilo_row {M:List (List Q3)} (h:isCh M) {tu:Bool} {c:Nat->Bool} {g0:Nat->Q3} {a:Nat} (ha:a<(fl c M.length).length) (g) {K:Nat} (hK:12<K):
  loopP (P.i_lessOne_b4 g) K ((0:Int),((fl c M.length).length:Int),zs (fl c M.length),mp B32 M,(((fl c M.length).getD a 0:Nat):Int),tu,([]:List (Bool×(List Int×List Int))),om B32 a (fl c M.length).length (hA M tu c g0),(a:Int),((fl c M.length).length:Int),zs (fl c M.length),zs (fl c M.length),())=g (((a+1:Nat):Int),((fl c M.length).length:Int),zs (fl c M.length),zs (fl c M.length),mp B32 M,tu,om B32 (a+1) (fl c M.length).length (hA M tu c g0),()):=by
 have hI:=h.2.1;have hn:=hI.1;have hm:=fl_le c M.length;obtain⟨f1,f2⟩:=fl_at ha;have key:=a0g (k:=K) (b:=P.i_lessOne_b4 g) (n:=(fl c M.length).length) (st:=fun b=>((b:Int),((fl c M.length).length:Int),zs (fl c M.length),mp B32 M,(((fl c M.length).getD a 0:Nat):Int),tu,(tab b (hA M tu c g0 a)).map (rp B32),om B32 a (fl c M.length).length (hA M tu c g0),(a:Int),((fl c M.length).length:Int),zs (fl c M.length),zs (fl c M.length),())) (F:=fun _=>g (((a+1:Nat):Int),((fl c M.length).length:Int),zs (fl c M.length),zs (fl c M.length),mp B32 M,tu,om B32 (a+1) (fl c M.length).length (hA M tu c g0),())) (fun b g' hb hg=>by
  unfold P.i_lessOne_b4;dsimp only at hg ⊢;obtain⟨q1,q2⟩:=fl_at hb;have e1:(b:Int)<((fl c M.length).length:Int):=by omega
  have e2:(0:Int)<=(b:Int):=by omega
  have e3:(0:Int)<=(((fl c M.length).getD a 0:Nat):Int):=by omega
  have e4:(((fl c M.length).getD a 0:Nat):Int)<(M.length:Int):=by omega
  have e5:(0:Int)<=(((fl c M.length).getD b 0:Nat):Int):=by omega
  have e6:(((fl c M.length).getD b 0:Nat):Int)<(M.length:Int):=by omega
  have e7:(b+1)*56<=140737488355328:=by omega
  have c1:((mp B32 M).getD ((fl c M.length).getD a 0) []).getD ((fl c M.length).getD b 0) (false,(([]:List Int),([]:List Int)))=rp B32 (subQ M c a b):=mq_held hI f1 q1;have c2:((mp B32 M).getD ((fl c M.length).getD b 0) []).getD ((fl c M.length).getD a 0) (false,(([]:List Int),([]:List Int)))=rp B32 (subQ M c b a):=mq_held hI q1 f1;obtain⟨l1,l2⟩:=leN_ok h (tu:=tu) ha hb;have em:S.i_rat_minus (((rp B32 (leN M tu c a b)).1,(rp B32 (leN M tu c a b)).2.1,(rp B32 (leN M tu c a b)).2.2),())=some (rp B32 (oppQ (leN M tu c a b)),()):=by
   show S.i_rat_minus (rp B32 _,())=_;unfold S.i_rat_minus;dsimp only;rw[if_pos (below_rok9 (by decide) l1.2 (by decide)),rv_rp a0e]
  have h1:S.i_whole (1,())=some (rp B32 oneQ,()):=by rfl
  have ea:S.a0x (((rp B32 (oppQ (leN M tu c a b))).1,(rp B32 (oppQ (leN M tu c a b))).2.1,(rp B32 (oppQ (leN M tu c a b))).2.2),((rp B32 oneQ).1,(rp B32 oneQ).2.1,(rp B32 oneQ).2.2),())=some (rp B32 (addQ (oppQ (leN M tu c a b)) oneQ),()):=by
   show S.a0x (rp B32 _,rp B32 _,())=_;unfold S.a0x;dsimp only;rw[if_pos ⟨okq_low (by decide) l2,okq_low (by decide) okq_one⟩,rv_rp a0e,rv_rp a0e]
  rw[<-tabm_snoc,hA_at M tu c g0 hb]at hg;simp only[zs_len,getD_zs,Int.toNat_natCast,mp_len,mq_wide hI f1,mq_wide hI q1,List.length_map,a1c,List.length_cons,List.length_nil,Nat.zero_add,hd0_dup,nrm_hd0,e1,e2,e3,e4,e5,e6,e7,c1,c2,decide_true,if_true,Bool.false_eq_true,if_false];rw[wr (by omega) (by omega)];have hsel:∀ {tu:Bool},leN M tu c a b=if tu=true then subQ M c b a else subQ M c a b:=rfl
  have hfe:=fl_eq ha hb;cases tu
  ·rw[show leN M false c a b=subQ M c a b from rfl]at*;rw[if_neg (by decide),em,Option.bind_some];dsimp only
   by_cases hab:a=b
   ·rw[if_pos hab]at hg;rw[if_pos (by rw[beq_iff_eq,Int.natCast_inj];exact hfe.2 hab),h1,Option.bind_some];dsimp only;rw[ea,Option.bind_some];exact hg
   ·rw[if_neg hab]at hg;rw[if_neg (by rw[beq_iff_eq,Int.natCast_inj];exact fun z=>hab (hfe.1 z))];exact hg
  ·rw[show leN M true c a b=subQ M c b a from rfl]at*;rw[if_pos rfl,em,Option.bind_some];dsimp only
   by_cases hab:a=b
   ·rw[if_pos hab]at hg;rw[if_pos (by rw[beq_iff_eq,Int.natCast_inj];exact hfe.2 hab),h1,Option.bind_some];dsimp only;rw[ea,Option.bind_some];exact hg
   ·rw[if_neg hab]at hg;rw[if_neg (by rw[beq_iff_eq,Int.natCast_inj];exact fun z=>hab (hfe.1 z))];exact hg) (fun g'=>by
  unfold P.i_lessOne_b4;dsimp only;have e1:(a+1)*24<=140737488355328:=by omega
  have e2:= @om_app B32 a (fl c M.length).length (hA M tu c g0);rw[if_neg (by simp),wr (by omega) (by omega)];simp only[a0t,om_len,List.length_map,a1c,List.length_cons,List.length_nil,Nat.zero_add,e1,e2.1,e2.2,decide_true,if_true,Bool.false_eq_true,if_false];rfl) (by omega)
 exact key
open Classical in
def S.i_lessOne (x:((List (List RB))×((List Int)×(Bool×Unit)))):(Option (((List ((List RB)×Nat))×Nat)×Unit)):=if ∃M,isCh M/\x.1=mp B32 M/\x.2.1=zs (fl (cZ x.2.1) M.length)then some ((om B32 x.2.1.length x.2.1.length (hA (mv B32 x.1) x.2.2.1 (cZ x.2.1) fun _=>a1f),x.2.1.length),())else none
theorem S.i_lessOne_ok (x r) (h:S.i_lessOne x=some r):∃k,P.i_lessOne k x=some r:=by
 obtain⟨m,L,tu,u⟩:=x;unfold S.i_lessOne at h;dsimp only at h;split at h
 case isFalse=>cases h
 rename_i hc;obtain⟨M,hM,rfl,hL⟩:=hc;rw[mv_mp (by decide)]at h;generalize cZ L=c at*;subst hL;rw[zs_len]at h;cases h;have hn:=hM.2.1.1;have hm:=fl_le c M.length;refine⟨13,?_⟩;unfold P.i_lessOne;dsimp only;have key:=a0g (k:=13) (b:=P.i_lessOne_b0 13) (n:=(fl c M.length).length) (st:=fun a=>((a:Int),((fl c M.length).length:Int),zs (fl c M.length),zs (fl c M.length),mp B32 M,tu,om B32 a (fl c M.length).length (hA M tu c fun _=>a1f),())) (F:=fun _=>some ((om B32 (fl c M.length).length (fl c M.length).length (hA M tu c fun _=>a1f),(fl c M.length).length),())) (fun a g ha hg=>by
  unfold P.i_lessOne_b0;dsimp only at hg ⊢;have e1:(a:Int)<((fl c M.length).length:Int):=by omega
  have e2:(0:Int)<=(a:Int):=by omega
  simp only[zs_len,getD_zs,Int.toNat_natCast,hd0_dup,nrm_hd0,e1,e2,decide_true,if_true,Bool.false_eq_true,if_false];rw[ilo_row hM ha g (by decide)];exact hg) (fun g=>by
  unfold P.i_lessOne_b0;dsimp only;rw[if_neg (by simp),hd0_dup,nrm_hd0,a0t,om_len,if_neg (by decide)]) (by omega)
 rw[zs_len];exact key
def P.i_rat_sub (k:Nat) (x:RB×RB×Unit):Option (RB×Unit):=
 (S.i_rat_minus ((x.2.1.1,x.2.1.2.1,x.2.1.2.2),())).bind fun y0=>(S.a0x ((x.1.1,x.1.2.1,x.1.2.2),(y0.1.1,y0.1.2.1,y0.1.2.2),())).bind fun y1=>some ((y1.1.1,y1.1.2.1,y1.1.2.2),())
def S.i_rat_sub (x:(RB×(RB×Unit))):(Option (RB×Unit)):=if lowb B32 40000000 x.1=true/\lowb B32 40000000 x.2.1=true then some (rp B32 (addQ (rv B32 x.1) (oppQ (rv B32 x.2.1))),())else none
theorem S.i_rat_sub_ok (x r) (h:S.i_rat_sub x=some r):∃k,P.i_rat_sub k x=some r:=by
 obtain⟨x,y,u⟩:=x;unfold S.i_rat_sub at h;dsimp only at h;split at h
 case isFalse=>cases h
 rename_i hc;obtain⟨hx,hy⟩:=hc;cases h;have hy':=lowb_iff.1 hy;refine⟨0,?_⟩;have e1:S.i_rat_minus (y,())=some (rp B32 (oppQ (rv B32 y)),()):=if_pos hy'.1;have hz:lowb B32 40000000 (rp B32 (oppQ (rv B32 y)))=true:=by
  rw[lowb_iff,rv_rp a0e];obtain⟨n2,p2,q2,rfl,y1,y2⟩:=rok_nd hy'.1;rw[rv_nd a0e]at hy' ⊢;exact⟨rok_iff.2 ⟨a0j a0e _,a0j a0e _,y1,y2⟩,oppQ_low _ hy'.2⟩
 have e2:S.a0x (x,(rp B32 (oppQ (rv B32 y)),()))=some (rp B32 (addQ (rv B32 x) (oppQ (rv B32 y))),()):=by
  unfold S.a0x;dsimp only;rw[if_pos ⟨hx,hz⟩,rv_rp a0e]
 show Option.bind (S.i_rat_minus (y,())) (fun y0=>Option.bind (S.a0x (x,(y0.1,()))) (fun y1=>some (y1.1,())))=_;rw[e1,Option.bind_some,e2,Option.bind_some]
theorem ri_sub {x y:Q3} {m n:Nat} (hx:low x) (bx:below m x) (hy:low y) (bY:below n y) (hm:m<=350000000) (hn:n<=350000000):S.i_rat_sub (rp B32 x,(rp B32 y,()))=some (rp B32 (addQ x (oppQ y)),()):=by
 unfold S.i_rat_sub;dsimp only;rw[if_pos ⟨lowb_rp9 (by decide) hx bx (by omega),lowb_rp9 (by decide) hy bY (by omega)⟩,rv_rp a0e,rv_rp a0e]
def P.i_rat_over (k:Nat) (x:RB×RB×Unit):Option (RB×Unit):=
 (S.i_rat_mul ((x.1.1,x.1.2.1,x.1.2.2),(x.2.1.1,x.2.1.2.2,x.2.1.2.1),())).bind fun y0=>some ((y0.1.1,y0.1.2.1,y0.1.2.2),())
def S.i_rat_over (x:(RB×(RB×Unit))):(Option (RB×Unit)):=if lowb B32 40000000 x.1=true/\lowb B32 40000000 x.2.1=true/\(rv B32 x.2.1).2.1≠0 then some (rp B32 (overQ (rv B32 x.1) (rv B32 x.2.1)),())else none
theorem S.i_rat_over_ok (x r) (h:S.i_rat_over x=some r):∃k,P.i_rat_over k x=some r:=by
 obtain⟨x,y,u⟩:=x;unfold S.i_rat_over at h;dsimp only at h;split at h
 case isFalse=>cases h
 rename_i hc;obtain⟨hx,hy,h0⟩:=hc;cases h;have hy':=lowb_iff.1 hy;refine⟨0,?_⟩;have e2:S.i_rat_mul (x,((y.1,(y.2.2,y.2.1)),()))=some (rp B32 (overQ (rv B32 x) (rv B32 y)),()):=by
  unfold S.i_rat_mul;dsimp only;have hz:lowb B32 40000000 (y.1,(y.2.2,y.2.1))=true:=by
   rw[lowb_iff];obtain⟨r1,l1⟩:=hy';have r2:=rok_iff.1 r1;refine⟨rok_iff.2 ⟨r2.2.1,r2.1,r2.2.2.2,r2.2.2.1⟩,?_⟩;obtain⟨l1,l2,l3⟩:=l1;refine⟨Nat.pos_of_ne_zero h0,fun _=>Nat.ne_of_gt l1,?_⟩;rw[Nat.gcd_comm];exact l3
  rw[if_pos ⟨hx,hz⟩];rfl
 show Option.bind (S.i_rat_mul (x,((y.1,(y.2.2,y.2.1)),()))) (fun y0=>some (y0.1,()))=_;rw[e2,Option.bind_some]
abbrev i_solve.A:=Int×Int×List (List RB×Nat)×Int×RB×Int×List RB×Int×Int×Unit
abbrev i_solve.B:=Int×Int×List (List RB×Nat)×Int×List RB×Int×Int×Unit
abbrev i_solve.C:=Option ((Unit×Bool)×List (List RB×Nat)×List RB×Unit)
abbrev i_solve.D:=Int×Int×List RB×Int×List (List RB×Nat)×Unit
abbrev i_solve.E:=Int×Int×Int×List (List RB×Nat)×List RB×Unit
abbrev i_solve.F:=Int×Int×List RB×List (List RB×Nat)×Unit
abbrev P.i_solve_b18 (g13:i_solve.B->i_solve.C) (x19:i_solve.A) (g20:i_solve.A->i_solve.C):i_solve.C:=
 (fun(a b d f i j:Int) (c:List (List RB×Nat)) (e:RB) (h:List RB)=>if decide (a<b)then if decide (0<=d)then if decide (d<(List.length (hd0 c):Int))then if decide (0<=d)then if decide (d<(List.length (hd0 c):Int))then if decide (0<=a)then if decide (a<(((List.getD (hd0 c) (0+d.toNat) (0,0)).2:Nat):Int))then if decide (0<=f)then if decide (f<(List.length (hd0 c):Int))then if decide (0<=a)then if decide (a<(((List.getD (hd0 c) (0+f.toNat) (0,0)).2:Nat):Int))then(S.i_rat_mul ((e.1,e.2.1,e.2.2),((List.getD (List.getD (in0 c) (List.getD (hd0 c) (0+f.toNat) (0,0)).1 []) (0+a.toNat) (false,[],[])).1,(List.getD (List.getD (in0 c) (List.getD (hd0 c) (0+f.toNat) (0,0)).1 []) (0+a.toNat) (false,[],[])).2.1,(List.getD (List.getD (in0 c) (List.getD (hd0 c) (0+f.toNat) (0,0)).1 []) (0+a.toNat) (false,[],[])).2.2),())).bind fun y21=>(S.i_rat_sub (((List.getD (List.getD (in0 c) (List.getD (hd0 c) (0+d.toNat) (0,0)).1 []) (0+a.toNat) (false,[],[])).1,(List.getD (List.getD (in0 c) (List.getD (hd0 c) (0+d.toNat) (0,0)).1 []) (0+a.toNat) (false,[],[])).2.1,(List.getD (List.getD (in0 c) (List.getD (hd0 c) (0+d.toNat) (0,0)).1 []) (0+a.toNat) (false,[],[])).2.2),(y21.1.1,y21.1.2.1,y21.1.2.2),())).bind fun y22=>if decide (0<=a)then if decide (a<(((List.getD (hd0 c) (0+d.toNat) (0,0)).2:Nat):Int))then if dup (List.map (fun(y23:Nat×Nat)=>y23.1) (hd0 c))then none else g20 (wrap .i64 (a+1),b,nrm (hd0 c) (List.set (in0 c) (List.getD (hd0 c) (0+d.toNat) (0,0)).1 (List.set (List.getD (in0 c) (List.getD (hd0 c) (0+d.toNat) (0,0)).1 []) (0+a.toNat) (y22.1.1,y22.1.2.1,y22.1.2.2))),d,(e.1,e.2.1,e.2.2),f,h,i,j,())else none else none else none else none else none else none else none else none else none else none else none else none else if decide (0<=d)then if decide (d<(h.length:Int))then if decide (0<=f)then if decide (f<(h.length:Int))then(S.i_rat_mul ((e.1,e.2.1,e.2.2),((h.getD (0+f.toNat) (false,[],[])).1,(h.getD (0+f.toNat) (false,[],[])).2.1,(h.getD (0+f.toNat) (false,[],[])).2.2),())).bind fun y24=>(S.i_rat_sub (((h.getD (0+d.toNat) (false,[],[])).1,(h.getD (0+d.toNat) (false,[],[])).2.1,(h.getD (0+d.toNat) (false,[],[])).2.2),(y24.1.1,y24.1.2.1,y24.1.2.2),())).bind fun y25=>if decide (0<=d)then if decide (d<(h.length:Int))then if dup (List.map (fun(y26:Nat×Nat)=>y26.1) (hd0 c))then none else g13 (wrap .i64 (d+1),b,nrm (hd0 c) (in0 c),f,h.set (0+d.toNat) (y25.1.1,y25.1.2.1,y25.1.2.2),i,j,())else none else none else none else none else none else none) x19.1 x19.2.1 x19.2.2.2.1 x19.2.2.2.2.2.1 x19.2.2.2.2.2.2.2.1 x19.2.2.2.2.2.2.2.2.1 x19.2.2.1 x19.2.2.2.2.1 x19.2.2.2.2.2.2.1
abbrev P.i_solve_b11 (k:Nat) (g3:i_solve.E->i_solve.C) (x12:i_solve.B) (g13:i_solve.B->i_solve.C):i_solve.C:=
 (fun(a b d f h:Int) (c:List (List RB×Nat)) (e:List RB)=>if decide (a<b)then if decide (0<=a)then if decide (a<(List.length (hd0 c):Int))then if decide (0<=d)then if decide (d<(((List.getD (hd0 c) (0+a.toNat) (0,0)).2:Nat):Int))then(S.a0v (((List.getD (List.getD (in0 c) (List.getD (hd0 c) (0+a.toNat) (0,0)).1 []) (0+d.toNat) (false,[],[])).1,(List.getD (List.getD (in0 c) (List.getD (hd0 c) (0+a.toNat) (0,0)).1 []) (0+d.toNat) (false,[],[])).2.1,(List.getD (List.getD (in0 c) (List.getD (hd0 c) (0+a.toNat) (0,0)).1 []) (0+d.toNat) (false,[],[])).2.2),())).bind fun y14=>if y14.1==0 then if dup (List.map (fun(y15:Nat×Nat)=>y15.1) (hd0 c))then none else g13 (wrap .i64 (a+1),b,nrm (hd0 c) (in0 c),d,e,f,h,())else if decide (0<=a)then if decide (a<(List.length (hd0 c):Int))then if decide (0<=d)then if decide (d<(((List.getD (hd0 c) (0+a.toNat) (0,0)).2:Nat):Int))then if decide (0<=d)then if decide (d<(List.length (hd0 c):Int))then if decide (0<=d)then if decide (d<(((List.getD (hd0 c) (0+d.toNat) (0,0)).2:Nat):Int))then(S.i_rat_over (((List.getD (List.getD (in0 c) (List.getD (hd0 c) (0+a.toNat) (0,0)).1 []) (0+d.toNat) (false,[],[])).1,(List.getD (List.getD (in0 c) (List.getD (hd0 c) (0+a.toNat) (0,0)).1 []) (0+d.toNat) (false,[],[])).2.1,(List.getD (List.getD (in0 c) (List.getD (hd0 c) (0+a.toNat) (0,0)).1 []) (0+d.toNat) (false,[],[])).2.2),((List.getD (List.getD (in0 c) (List.getD (hd0 c) (0+d.toNat) (0,0)).1 []) (0+d.toNat) (false,[],[])).1,(List.getD (List.getD (in0 c) (List.getD (hd0 c) (0+d.toNat) (0,0)).1 []) (0+d.toNat) (false,[],[])).2.1,(List.getD (List.getD (in0 c) (List.getD (hd0 c) (0+d.toNat) (0,0)).1 []) (0+d.toNat) (false,[],[])).2.2),())).bind fun y16=>if dup (List.map (fun(y17:Nat×Nat)=>y17.1) (hd0 c))then none else loopP (P.i_solve_b18 g13) k (d,b,nrm (hd0 c) (in0 c),a,(y16.1.1,y16.1.2.1,y16.1.2.2),d,e,f,h,())else none else none else none else none else none else none else none else none else none else none else none else none else if dup (List.map (fun(y27:Nat×Nat)=>y27.1) (hd0 c))then none else g3 (wrap .i64 (f+1),h,b,nrm (hd0 c) (in0 c),e,())) x12.1 x12.2.1 x12.2.2.2.1 x12.2.2.2.2.2.1 x12.2.2.2.2.2.2.1 x12.2.2.1 x12.2.2.2.2.1
abbrev P.i_solve_b5 (k:Nat) (g3:i_solve.E->i_solve.C) (x6:i_solve.B) (g7:i_solve.B->i_solve.C):i_solve.C:=
 (fun(a b d f h:Int) (c:List (List RB×Nat)) (e:List RB)=>if decide (a<b)then if decide (0<=a)then if decide (a<(List.length (hd0 c):Int))then if decide (0<=d)then if decide (d<(((List.getD (hd0 c) (0+a.toNat) (0,0)).2:Nat):Int))then(S.a0v (((List.getD (List.getD (in0 c) (List.getD (hd0 c) (0+a.toNat) (0,0)).1 []) (0+d.toNat) (false,[],[])).1,(List.getD (List.getD (in0 c) (List.getD (hd0 c) (0+a.toNat) (0,0)).1 []) (0+d.toNat) (false,[],[])).2.1,(List.getD (List.getD (in0 c) (List.getD (hd0 c) (0+a.toNat) (0,0)).1 []) (0+d.toNat) (false,[],[])).2.2),())).bind fun y8=>if y8.1==0 then if dup (List.map (fun(y9:Nat×Nat)=>y9.1) (hd0 c))then none else g7 (wrap .i64 (a+1),b,nrm (hd0 c) (in0 c),d,e,f,h,())else if a==b then none else if decide (0<=a)then if decide (a<(List.length (hd0 c):Int))then if decide (0<=d)then if decide (d<(List.length (hd0 c):Int))then if decide (0<=a)then if decide (a<(e.length:Int))then if decide (0<=d)then if decide (d<(e.length:Int))then if decide (0<=d)then if decide (d<(List.length (hd0 c):Int))then if decide (0<=a)then if decide (a<(List.length (List.set (hd0 c) (0+d.toNat) ((List.getD (hd0 c) (0+a.toNat) (0,0)).1,(List.getD (hd0 c) (0+a.toNat) (0,0)).2)):Int))then if decide (0<=d)then if decide (d<(e.length:Int))then if decide (0<=a)then if decide (a<(List.length (e.set (0+d.toNat) ((e.getD (0+a.toNat) (false,[],[])).1,(e.getD (0+a.toNat) (false,[],[])).2.1,(e.getD (0+a.toNat) (false,[],[])).2.2)):Int))then if dup (List.map (fun(y10:Nat×Nat)=>y10.1) (List.set (List.set (hd0 c) (0+d.toNat) ((List.getD (hd0 c) (0+a.toNat) (0,0)).1,(List.getD (hd0 c) (0+a.toNat) (0,0)).2)) (0+a.toNat) ((List.getD (hd0 c) (0+d.toNat) (0,0)).1,(List.getD (hd0 c) (0+d.toNat) (0,0)).2)))then none else loopP (P.i_solve_b11 k g3) k (wrap .i64 (d+1),b,nrm (List.set (List.set (hd0 c) (0+d.toNat) ((List.getD (hd0 c) (0+a.toNat) (0,0)).1,(List.getD (hd0 c) (0+a.toNat) (0,0)).2)) (0+a.toNat) ((List.getD (hd0 c) (0+d.toNat) (0,0)).1,(List.getD (hd0 c) (0+d.toNat) (0,0)).2)) (in0 c),d,List.set (e.set (0+d.toNat) ((e.getD (0+a.toNat) (false,[],[])).1,(e.getD (0+a.toNat) (false,[],[])).2.1,(e.getD (0+a.toNat) (false,[],[])).2.2)) (0+a.toNat) ((e.getD (0+d.toNat) (false,[],[])).1,(e.getD (0+d.toNat) (false,[],[])).2.1,(e.getD (0+d.toNat) (false,[],[])).2.2),f,h,())else none else none else none else none else none else none else none else none else none else none else none else none else none else none else none else none else none else none else none else none else if a==b then none else if decide (0<=a)then if decide (a<(List.length (hd0 c):Int))then if decide (0<=d)then if decide (d<(List.length (hd0 c):Int))then if decide (0<=a)then if decide (a<(e.length:Int))then if decide (0<=d)then if decide (d<(e.length:Int))then if decide (0<=d)then if decide (d<(List.length (hd0 c):Int))then if decide (0<=a)then if decide (a<(List.length (List.set (hd0 c) (0+d.toNat) ((List.getD (hd0 c) (0+a.toNat) (0,0)).1,(List.getD (hd0 c) (0+a.toNat) (0,0)).2)):Int))then if decide (0<=d)then if decide (d<(e.length:Int))then if decide (0<=a)then if decide (a<(List.length (e.set (0+d.toNat) ((e.getD (0+a.toNat) (false,[],[])).1,(e.getD (0+a.toNat) (false,[],[])).2.1,(e.getD (0+a.toNat) (false,[],[])).2.2)):Int))then if dup (List.map (fun(y28:Nat×Nat)=>y28.1) (List.set (List.set (hd0 c) (0+d.toNat) ((List.getD (hd0 c) (0+a.toNat) (0,0)).1,(List.getD (hd0 c) (0+a.toNat) (0,0)).2)) (0+a.toNat) ((List.getD (hd0 c) (0+d.toNat) (0,0)).1,(List.getD (hd0 c) (0+d.toNat) (0,0)).2)))then none else loopP (P.i_solve_b11 k g3) k (wrap .i64 (d+1),b,nrm (List.set (List.set (hd0 c) (0+d.toNat) ((List.getD (hd0 c) (0+a.toNat) (0,0)).1,(List.getD (hd0 c) (0+a.toNat) (0,0)).2)) (0+a.toNat) ((List.getD (hd0 c) (0+d.toNat) (0,0)).1,(List.getD (hd0 c) (0+d.toNat) (0,0)).2)) (in0 c),d,List.set (e.set (0+d.toNat) ((e.getD (0+a.toNat) (false,[],[])).1,(e.getD (0+a.toNat) (false,[],[])).2.1,(e.getD (0+a.toNat) (false,[],[])).2.2)) (0+a.toNat) ((e.getD (0+d.toNat) (false,[],[])).1,(e.getD (0+d.toNat) (false,[],[])).2.1,(e.getD (0+d.toNat) (false,[],[])).2.2),f,h,())else none else none else none else none else none else none else none else none else none else none else none else none else none else none else none else none) x6.1 x6.2.1 x6.2.2.2.1 x6.2.2.2.2.2.1 x6.2.2.2.2.2.2.1 x6.2.2.1 x6.2.2.2.2.1
abbrev P.i_solve_b51 (g49:i_solve.F->i_solve.C) (x52:i_solve.D) (g53:i_solve.D->i_solve.C):i_solve.C:=
 (fun(a b d:Int) (c:List RB) (e:List (List RB×Nat))=>if decide (a<b)then if decide (0<=d)then if decide (d<(c.length:Int))then if decide (0<=d)then if decide (d<(List.length (hd0 e):Int))then if decide (0<=a)then if decide (a<(((List.getD (hd0 e) (0+d.toNat) (0,0)).2:Nat):Int))then if decide (0<=a)then if decide (a<(c.length:Int))then(S.i_rat_mul (((List.getD (List.getD (in0 e) (List.getD (hd0 e) (0+d.toNat) (0,0)).1 []) (0+a.toNat) (false,[],[])).1,(List.getD (List.getD (in0 e) (List.getD (hd0 e) (0+d.toNat) (0,0)).1 []) (0+a.toNat) (false,[],[])).2.1,(List.getD (List.getD (in0 e) (List.getD (hd0 e) (0+d.toNat) (0,0)).1 []) (0+a.toNat) (false,[],[])).2.2),((c.getD (0+a.toNat) (false,[],[])).1,(c.getD (0+a.toNat) (false,[],[])).2.1,(c.getD (0+a.toNat) (false,[],[])).2.2),())).bind fun y54=>(S.i_rat_sub (((c.getD (0+d.toNat) (false,[],[])).1,(c.getD (0+d.toNat) (false,[],[])).2.1,(c.getD (0+d.toNat) (false,[],[])).2.2),(y54.1.1,y54.1.2.1,y54.1.2.2),())).bind fun y55=>if decide (0<=d)then if decide (d<(c.length:Int))then if dup (List.map (fun(y56:Nat×Nat)=>y56.1) (hd0 e))then none else g53 (wrap .i64 (a+1),b,c.set (0+d.toNat) (y55.1.1,y55.1.2.1,y55.1.2.2),d,nrm (hd0 e) (in0 e),())else none else none else none else none else none else none else none else none else none else none else if decide (0<=d)then if decide (d<(c.length:Int))then if decide (0<=d)then if decide (d<(List.length (hd0 e):Int))then if decide (0<=d)then if decide (d<(((List.getD (hd0 e) (0+d.toNat) (0,0)).2:Nat):Int))then(S.i_rat_over (((c.getD (0+d.toNat) (false,[],[])).1,(c.getD (0+d.toNat) (false,[],[])).2.1,(c.getD (0+d.toNat) (false,[],[])).2.2),((List.getD (List.getD (in0 e) (List.getD (hd0 e) (0+d.toNat) (0,0)).1 []) (0+d.toNat) (false,[],[])).1,(List.getD (List.getD (in0 e) (List.getD (hd0 e) (0+d.toNat) (0,0)).1 []) (0+d.toNat) (false,[],[])).2.1,(List.getD (List.getD (in0 e) (List.getD (hd0 e) (0+d.toNat) (0,0)).1 []) (0+d.toNat) (false,[],[])).2.2),())).bind fun y57=>if decide (0<=d)then if decide (d<(c.length:Int))then if dup (List.map (fun(y58:Nat×Nat)=>y58.1) (hd0 e))then none else g49 (wrap .i64 (d - 1),b,c.set (0+d.toNat) (y57.1.1,y57.1.2.1,y57.1.2.2),nrm (hd0 e) (in0 e),())else none else none else none else none else none else none else none else none) x52.1 x52.2.1 x52.2.2.2.1 x52.2.2.1 x52.2.2.2.2.1
abbrev P.i_solve_b47 (k:Nat) (x48:i_solve.F) (g49:i_solve.F->i_solve.C):i_solve.C:=
 if decide (x48.1>=0)then if dup (List.map (fun(y50:Nat×Nat)=>y50.1) (hd0 x48.2.2.2.1))then none else loopP (P.i_solve_b51 g49) k (wrap .i64 (x48.1+1),x48.2.1,x48.2.2.1,x48.1,nrm (hd0 x48.2.2.2.1) (in0 x48.2.2.2.1),())else if dup (List.map (fun(y59:Nat×Nat)=>y59.1) (hd0 x48.2.2.2.1))then none else some (((),true),nrm (hd0 x48.2.2.2.1) (in0 x48.2.2.2.1),x48.2.2.1,())
abbrev P.i_solve_b1 (k:Nat) (x2:i_solve.E) (g3:i_solve.E->i_solve.C):i_solve.C:=
 if decide (x2.1<x2.2.1)then if dup (List.map (fun(y4:Nat×Nat)=>y4.1) (hd0 x2.2.2.2.1))then none else loopP (P.i_solve_b5 k g3) k (x2.1,x2.2.2.1,nrm (hd0 x2.2.2.2.1) (in0 x2.2.2.2.1),x2.1,x2.2.2.2.2.1,x2.1,x2.2.1,())else if dup (List.map (fun(y46:Nat×Nat)=>y46.1) (hd0 x2.2.2.2.1))then none else loopP (P.i_solve_b47 k) k (wrap .i64 (x2.2.2.1 - 1),x2.2.2.1,x2.2.2.2.2.1,nrm (hd0 x2.2.2.2.1) (in0 x2.2.2.2.1),())
def P.i_solve (k:Nat) (x:List (List RB×Nat)×List RB×Unit):i_solve.C:=
 if dup (List.map (fun(y0:Nat×Nat)=>y0.1) (hd0 x.1))then none else loopP (P.i_solve_b1 k) k (0,(List.length (hd0 x.1):Int),(List.length (hd0 x.1):Int),nrm (hd0 x.1) (in0 x.1),x.2.1,())
theorem si_mul {a b:Q3} (ha:okq a) (hb:okq b):S.i_rat_mul (((rp B32 a).1,(rp B32 a).2.1,(rp B32 a).2.2),((rp B32 b).1,(rp B32 b).2.1,(rp B32 b).2.2),())=some (rp B32 (mulQ a b),()):=by
 show S.i_rat_mul (rp B32 a,rp B32 b,())=_;unfold S.i_rat_mul;dsimp only;rw[if_pos ⟨okq_low (by decide) ha,okq_low (by decide) hb⟩,rv_rp a0e,rv_rp a0e]
theorem si_sub {a b:Q3} (ha:okq a) (hb:okq b):S.i_rat_sub (((rp B32 a).1,(rp B32 a).2.1,(rp B32 a).2.2),((rp B32 b).1,(rp B32 b).2.1,(rp B32 b).2.2),())=some (rp B32 (addQ a (oppQ b)),()):=ri_sub ha.1 ha.2 hb.1 hb.2 (Nat.le_refl _) (Nat.le_refl _)
theorem si_over {a b:Q3} (ha:okq a) (hb:okq b) (h0:b.2.1≠0):S.i_rat_over (((rp B32 a).1,(rp B32 a).2.1,(rp B32 a).2.2),((rp B32 b).1,(rp B32 b).2.1,(rp B32 b).2.2),())=some (rp B32 (overQ a b),()):=by
 show S.i_rat_over (rp B32 a,rp B32 b,())=_;unfold S.i_rat_over;dsimp only;rw[if_pos ⟨okq_low (by decide) ha,okq_low (by decide) hb,by rw[rv_rp a0e];exact h0⟩,rv_rp a0e,rv_rp a0e]
theorem si_sign (q:Q3):S.a0v (((rp B32 q).1,(rp B32 q).2.1,(rp B32 q).2.2),())=some (sgnQ q.1 q.2.1,()):=by
 unfold S.a0v rp;dsimp only;rw[if_pos (a0j (by decide) _),a0i (by decide)]
def svN (b:Nat->Nat->Q3) (k r j:Nat):Nat->Nat->Q3:=fun x y=>if x<r\/(x=r/\y<j)then elF false b k x y else b x y
theorem svN_k (b:Nat->Nat->Q3) (k r j y:Nat):svN b k r j k y=b k y:=by
 unfold svN
 by_cases w:k<r\/(k=r/\y<j)
 ·rw[if_pos w];unfold elF;rw[if_neg (fun q=>by
   rcases q.1 with q|q
   ·omega
   ·exact q.2 rfl)]
 ·rw[if_neg w]
theorem svN_row (b:Nat->Nat->Q3) (k r:Nat) (h:r<=k\/(b r k).2.1=0):svN b k r 0=svN b k (r+1) 0:=by
 funext x y;unfold svN
 by_cases w:x<r
 ·rw[if_pos (Or.inl w),if_pos (Or.inl (by omega))]
 ·by_cases w2:x=r
  ·subst w2;rw[if_neg (by omega),if_pos (Or.inl (by omega))];unfold elF;rw[if_neg (fun q=>by
    rcases h with h|h
    ·rcases q.1 with q|q
     ·omega
     ·exact absurd q.1 (by decide)
    ·exact q.2.1 h)]
  ·rw[if_neg (by omega),if_neg (by omega)]
theorem svN_start (b:Nat->Nat->Q3) (k:Nat):svN b k (k+1) 0=b:=by
 funext x y;unfold svN
 by_cases w:x<k+1
 ·rw[if_pos (Or.inl w)];unfold elF;rw[if_neg (fun q=>by
   rcases q.1 with q|q
   ·omega
   ·exact absurd q.1 (by decide))]
 ·rw[if_neg (by omega)]
def rtN (a:Nat->Nat->Q3) (n:Nat):List (Bool×(List Int×List Int)):=(tab n fun x=>a x n).map (rp B32)
theorem si_inner {b:Nat->Nat->Q3} {n k:Nat} (h:elOk b n k) {r:Nat} (hr:r<n) (hrk:k<r) (hf:(b r k).2.1≠0) (g) {K:Nat} (hK:13<K):
  loopP (P.i_solve_b18 g) K ((k:Int),(n:Int),om B32 n n (svN b k r 0),(r:Int),rp B32 (overQ (b r k) (b k k)),(k:Int),rtN (svN b k r 0) n,(k:Int),(n:Int),())=g (((r+1:Nat):Int),(n:Int),om B32 n n (svN b k (r+1) 0),(k:Int),rtN (svN b k (r+1) 0) n,(k:Int),(n:Int),()):=by
 obtain⟨kn,n12,hnum,hp,hF,hM⟩:=h;have hstart:svN b k r 0=svN b k r k:=by
  funext x y;unfold svN
  by_cases w:x<r
  ·rw[if_pos (Or.inl w),if_pos (Or.inl w)]
  ·rw[if_neg (by omega)]
   by_cases w2:x=r/\y<k
   ·rw[if_pos (Or.inr w2)];unfold elF;rw[if_neg (fun q=>by omega)]
   ·rw[if_neg (fun q=>q.elim w w2)]
 have key:=loop_from (k:=K) (b:=P.i_solve_b18 g) (s:=k) (n:=n) (st:=fun j=>((j:Int),(n:Int),om B32 n n (svN b k r j),(r:Int),rp B32 (overQ (b r k) (b k k)),(k:Int),rtN (svN b k r 0) n,(k:Int),(n:Int),())) (F:=fun _=>g (((r+1:Nat):Int),(n:Int),om B32 n n (svN b k (r+1) 0),(k:Int),rtN (svN b k (r+1) 0) n,(k:Int),(n:Int),())) (by omega) (fun j g' hkj hj hg=>by
  unfold P.i_solve_b18;dsimp only at hg ⊢;have e1:(j:Int)<(n:Int):=by omega
  have e2:(0:Int)<=(j:Int):=by omega
  have e3:(0:Int)<=(r:Int):=by omega
  have e4:(r:Int)<(n:Int):=by omega
  have e5:(0:Int)<=(k:Int):=by omega
  have e6:(k:Int)<(n:Int):=by omega
  have v2:svN b k r j k j=b k j:=svN_k ..;have v3:svN b k r j r j=b r j:=by
   unfold svN;rw[if_neg (by omega)]
  have v5:updM (svN b k r j) r j (addQ (b r j) (oppQ (mulQ (overQ (b r k) (b k k)) (b k j))))=svN b k r (j+1):=by
   funext x y;unfold updM
   by_cases q:x=r/\y=j
   ·rw[if_pos q,q.1,q.2];unfold svN;rw[if_pos (Or.inr ⟨rfl,by omega⟩)];unfold elF;rw[if_pos ⟨Or.inl hrk,hf,hkj⟩];rfl
   ·rw[if_neg q];unfold svN
    by_cases w:x<r\/(x=r/\y<j)
    ·rw[if_pos w,if_pos (by omega)]
    ·rw[if_neg w,if_neg (by omega)]
  simp only[a0t,om_len,Int.toNat_natCast,Nat.zero_add,om_hd hr,om_hd kn,om_in hr,om_in kn,om_num hj,hd0_dup,e1,e2,e3,e4,e5,e6,decide_true,if_true,Bool.false_eq_true,if_false,v2,v3];rw[si_mul (hF r hr) (hnum k kn j (by omega)),Option.bind_some];dsimp only;rw[si_sub (hnum r hr j (by omega)) (hM r hr j (by omega)),Option.bind_some];dsimp only;rw[wr (by omega) (by omega)];show g' (_,_,nrm (hd0 _) ((in0 _).set r (((tab n (svN b k r j r)).map (rp B32)).set j (rp B32 _))),_)=_;rw[om_write hr,v5];exact hg) (fun g'=>by
  unfold P.i_solve_b18;dsimp only;have e3:(0:Int)<=(r:Int):=by omega
  have e4:(r:Int)<(n:Int):=by omega
  have e5:(0:Int)<=(k:Int):=by omega
  have e6:(k:Int)<(n:Int):=by omega
  have v1:svN b k r 0 k n=b k n:=svN_k ..;have v2:svN b k r 0 r n=b r n:=by
   unfold svN;rw[if_neg (by omega)]
  have ho:om B32 n n (svN b k r n)=om B32 n n (svN b k (r+1) 0):=om_congr fun x hx y hy=>by
   unfold svN
   by_cases w:x<r\/(x=r/\y<n)
   ·rw[if_pos w,if_pos (by omega)]
   ·rw[if_neg w,if_neg (by omega)]
  have hrt:(tab n fun x=>if x=r then addQ (b r n) (oppQ (mulQ (overQ (b r k) (b k k)) (b k n)))else svN b k r 0 x n)=tab n fun x=>svN b k (r+1) 0 x n:=a0w fun x hx=>by
   unfold svN
   by_cases q:x=r
   ·rw[if_pos q,q,if_pos (Or.inl (by omega))];unfold elF;rw[if_pos ⟨Or.inl hrk,hf,by omega⟩];rfl
   ·rw[if_neg q]
    by_cases w:x<r
    ·rw[if_pos (Or.inl w),if_pos (Or.inl (by omega))]
    ·rw[if_neg (by omega),if_neg (by omega)]
  rw[if_neg (by simp)];unfold rtN;simp only[List.length_map,a1c,Int.toNat_natCast,Nat.zero_add,om_num kn,om_num hr,hd0_dup,nrm_hd0,e3,e4,e5,e6,decide_true,if_true,Bool.false_eq_true,if_false,v1,v2];rw[si_mul (hF r hr) (hnum k kn n (Nat.le_refl _)),Option.bind_some];dsimp only;rw[si_sub (hnum r hr n (Nat.le_refl _)) (hM r hr n (Nat.le_refl _)),Option.bind_some];dsimp only;rw[wr (by omega) (by omega),ho];show g (_,_,_,_,((tab n _).map (rp B32)).set r (rp B32 _),_)=_;rw[tabm_set,hrt];rfl) (by omega)
 have hk:=key;rw[<-hstart]at hk;exact hk
theorem si_rows {b:Nat->Nat->Q3} {n k:Nat} (h:elOk b n k) (g) {K:Nat} (hK:13<K):
  loopP (P.i_solve_b11 K g) K (((k+1:Nat):Int),(n:Int),om B32 n n b,(k:Int),rtN b n,(k:Int),(n:Int),())=g (((k+1:Nat):Int),(n:Int),(n:Int),om B32 n n (elF false b k),rtN (elF false b k) n,()):=by
 have h':=h;obtain⟨kn,n12,hnum,hp,hF,hM⟩:=h
 have key:=loop_from (k:=K) (b:=P.i_solve_b11 K g) (s:=k+1) (n:=n) (st:=fun r=>((r:Int),(n:Int),om B32 n n (svN b k r 0),(k:Int),rtN (svN b k r 0) n,(k:Int),(n:Int),())) (F:=fun _=>g (((k+1:Nat):Int),(n:Int),(n:Int),om B32 n n (elF false b k),rtN (elF false b k) n,())) (by omega) (fun r g' hkr hr hg=>by
  unfold P.i_solve_b11;dsimp only at hg ⊢;have e1:(r:Int)<(n:Int):=by omega
  have e3:(0:Int)<=(r:Int):=by omega
  have e5:(0:Int)<=(k:Int):=by omega
  have e6:(k:Int)<(n:Int):=by omega
  have v1:svN b k r 0 r k=b r k:=by
   unfold svN;rw[if_neg (by omega)]
  have v2:svN b k r 0 k k=b k k:=svN_k ..;simp only[a0t,om_len,Int.toNat_natCast,Nat.zero_add,om_hd hr,om_hd kn,om_in hr,om_in kn,om_num kn,hd0_dup,nrm_hd0,e1,e3,e5,e6,decide_true,if_true,Bool.false_eq_true,if_false,v1,v2];rw[si_sign,Option.bind_some]
  by_cases hz:(b r k).2.1=0
  ·rw[if_pos (by rw[beq_iff_eq,sgnQ_zero];exact hz),wr (by omega) (by omega),<-hg,<-svN_row b k r (Or.inr hz)];rfl
  ·rw[if_neg (by rw[beq_iff_eq,sgnQ_zero];exact hz),si_over (hnum r hr k (by omega)) (hnum k kn k (by omega)) hp,Option.bind_some];dsimp only;rw[<-hg];exact si_inner h' hr (by omega) hz g' hK) (fun g'=>by
  unfold P.i_solve_b11;dsimp only;rw[if_neg (by simp),hd0_dup,nrm_hd0,if_neg (by decide),wr (by omega) (by omega)];have h1:om B32 n n (svN b k n 0)=om B32 n n (elF false b k):=om_congr fun x hx y hy=>by
   unfold svN;rw[if_pos (Or.inl hx)]
  have h2:rtN (svN b k n 0) n=rtN (elF false b k) n:=by
   unfold rtN;rw[a0w fun x hx=>by
    show svN b k n 0 x n=elF false b k x n;unfold svN;rw[if_pos (Or.inl hx)]]
  rw[h1,h2];rfl) (by omega)
 rw[svN_start]at key;exact key
theorem si_search {a:Nat->Nat->Q3} {n k:Nat} (hk:k<n) (n12:n<=12) (g) {K:Nat} :∀(m i F:Nat),i+m=n->m<F->pvF (fun i=>decide ((a i k).2.1≠0)) m i<n->
  loopP (P.i_solve_b5 K g) F ((i:Int),(n:Int),om B32 n n a,(k:Int),rtN a n,(k:Int),(n:Int),())=loopP (P.i_solve_b11 K g) K (((k+1:Nat):Int),(n:Int),om B32 n n (swQ a k (pvF (fun i=>decide ((a i k).2.1≠0)) m i)),(k:Int),rtN (swQ a k (pvF (fun i=>decide ((a i k).2.1≠0)) m i)) n,(k:Int),(n:Int),()):=by
 intro m
 induction m with
 |zero=>
  intro i F hi hF hp;unfold pvF at hp;omega
 |succ m ih=>
  intro i F hi hF hp;obtain⟨F,rfl⟩:∃j,F=j+1:=⟨F - 1,by omega⟩
  rw[a0k];have ih':=ih (i+1) F (by omega) (by omega);generalize loopP (P.i_solve_b5 K g) F=g' at ih' ⊢;unfold P.i_solve_b5;dsimp only;have hin:i<n:=by omega
  have e1:(i:Int)<(n:Int):=by omega
  have e2:(0:Int)<=(i:Int):=by omega
  have e3:(0:Int)<=(k:Int):=by omega
  have e4:(k:Int)<(n:Int):=by omega
  have hp':∀p:Nat×Nat,(p.1,p.2)=p:=fun p=>rfl
  have hq':∀q:Bool×(List Int×List Int),(q.1,q.2.1,q.2.2)=q:=fun q=>rfl
  have hrl:(rtN a n).length=n:=by unfold rtN;rw[List.length_map,a1c]
  simp only[hp',hq',a0t,om_len,List.length_set,hrl,Int.toNat_natCast,Nat.zero_add,hd0_dup,nrm_hd0,e1,e2,e3,e4,decide_true,if_true,Bool.false_eq_true,if_false];have hcell:((in0 (om B32 n n a)).getD ((hd0 (om B32 n n a)).getD i (0,0)).1 []).getD k (false,(([]:List Int),([]:List Int)))=rp B32 (a i k):=by rw[om_hd hin,om_in hin,om_num hk]
  have hwide:((hd0 (om B32 n n a)).getD i (0,0)).2=n:=by rw[om_hd hin]
  rw[hcell,hwide,decide_eq_true e4,if_pos rfl];have hsg:S.a0v (rp B32 (a i k),())=some (sgnQ (a i k).1 (a i k).2.1,()):=si_sign _;rw[hsg,Option.bind_some];unfold pvF at hp ⊢
  by_cases hz:(a i k).2.1=0
  ·have hd:¬(decide ((a i k).2.1≠0)=true):=by simp [hz]
   rw[if_neg hd]at hp ⊢;rw[if_pos (by rw[beq_iff_eq,sgnQ_zero];exact hz),wr (by omega) (by omega)];exact ih' hp
  ·have hd:decide ((a i k).2.1≠0)=true:=decide_eq_true hz;rw[if_pos hd]at hp ⊢;rw[if_neg (by rw[beq_iff_eq,sgnQ_zero];exact hz),if_neg (by rw[beq_iff_eq];omega),om_swap hk hin,sw_dup,if_neg (by decide),sw_nrm hk hin,wr (by omega) (by omega)];unfold rtN;rw[sw_tab hk hin];rfl
theorem si_back {F:Nat->Nat->Q3} {n m:Nat} (h:bkOk F n) (n12:n<=12) (hnum:∀i,i<n->∀j,j<=n->okq (F i j)) (hd:∀k,k<n->(F k k).2.1≠0) (hm:m<n) (g) {K:Nat} (hK:13<K):
  loopP (P.i_solve_b51 g) K (((n - 1 - m+1:Nat):Int),(n:Int),(tab n (bkQ F n m)).map (rp B32),((n - 1 - m:Nat):Int),om B32 n n F,())=g (((n - 1 - m:Nat):Int) - 1,(n:Int),(tab n (bkQ F n (m+1))).map (rp B32),om B32 n n F,()):=by
 obtain⟨k,hk⟩:∃k,k=n - 1 - m:=⟨_,rfl⟩
 have kn:k<n:=by omega
 have hb0:(fun i=>if i=k then sbQ F (bkQ F n m) k 0 else bkQ F n m i)=bkQ F n m:=by
  funext i
  by_cases q:i=k
  ·rw[if_pos q,q];rfl
  ·rw[if_neg q]
 rw[<-hk];have key:=a0g (k:=K) (b:=P.i_solve_b51 g) (n:=m) (st:=fun t=>(((k+1+t:Nat):Int),(n:Int),(tab n fun i=>if i=k then sbQ F (bkQ F n m) k t else bkQ F n m i).map (rp B32),(k:Int),om B32 n n F,())) (F:=fun _=>g ((k:Int) - 1,(n:Int),(tab n (bkQ F n (m+1))).map (rp B32),om B32 n n F,())) (fun t g' ht hg=>by
  unfold P.i_solve_b51;dsimp only at hg ⊢;have jn:k+1+t<n:=by omega
  have e1:((k+1+t:Nat):Int)<(n:Int):=by omega
  have e2:(0:Int)<=((k+1+t:Nat):Int):=by omega
  have e5:(0:Int)<=(k:Int):=by omega
  have e6:(k:Int)<(n:Int):=by omega
  have v1:(if k=k then sbQ F (bkQ F n m) k t else bkQ F n m k)=sbQ F (bkQ F n m) k t:=if_pos rfl;have v2:(if k+1+t=k then sbQ F (bkQ F n m) k t else bkQ F n m (k+1+t))=bkQ F n m (k+1+t):=if_neg (by omega);have o1:=h.mul m hm t ht;have o2:=h.s m hm t (by omega);rw[<-hk]at o1 o2;have hx:(tab n fun i=>if i=k then addQ (sbQ F (bkQ F n m) k t) (oppQ (mulQ (F k (k+1+t)) (bkQ F n m (k+1+t))))else if i=k then sbQ F (bkQ F n m) k t else bkQ F n m i)=tab n fun i=>if i=k then sbQ F (bkQ F n m) k (t+1)else bkQ F n m i:=a0w fun i hi=>by
   by_cases q:i=k
   ·rw[if_pos q,if_pos q];rfl
   ·rw[if_neg q,if_neg q,if_neg q]
  simp only[a0t,om_len,List.length_map,a1c,Int.toNat_natCast,Nat.zero_add,om_hd kn,om_in kn,om_num kn,om_num jn,hd0_dup,nrm_hd0,e1,e2,e5,e6,decide_true,if_true,Bool.false_eq_true,if_false,v2];rw[si_mul (hnum k kn _ (by omega)) (h.b m (by omega) _ jn),Option.bind_some];dsimp only;rw[si_sub o2 o1,Option.bind_some];dsimp only;rw[wr (by omega) (by omega)];show g' (_,_,((tab n _).map (rp B32)).set k (rp B32 _),_)=_;rw[tabm_set,hx,show((k+1+t:Nat):Int)+1=((k+1+(t+1):Nat):Int) by omega];exact hg) (fun g'=>by
  unfold P.i_solve_b51;dsimp only;have e0:¬((k+1+m:Nat):Int)<(n:Int):=by omega
  have e5:(0:Int)<=(k:Int):=by omega
  have e6:(k:Int)<(n:Int):=by omega
  have v1:(if k=k then sbQ F (bkQ F n m) k m else bkQ F n m k)=sbQ F (bkQ F n m) k m:=if_pos rfl;have o2:=h.s m hm m (Nat.le_refl _);rw[<-hk]at o2;have hx:(tab n fun i=>if i=k then overQ (sbQ F (bkQ F n m) k m) (F k k)else if i=k then sbQ F (bkQ F n m) k m else bkQ F n m i)=tab n (bkQ F n (m+1)):=a0w fun i hi=>by
   rw[bkQ];dsimp only;rw[<-hk]
   by_cases q:i=k
   ·rw[if_pos q,if_pos q]
   ·rw[if_neg q,if_neg q,if_neg q]
  simp only[a0t,om_len,List.length_map,a1c,Int.toNat_natCast,Nat.zero_add,om_hd kn,om_in kn,om_num kn,hd0_dup,nrm_hd0,e0,e5,e6,decide_false,decide_true,if_true,Bool.false_eq_true,if_false];rw[si_over o2 (hnum k kn k (by omega)) (hd k kn),Option.bind_some];dsimp only;rw[wr (by omega) (by omega)];show g (_,_,((tab n _).map (rp B32)).set k (rp B32 _),_)=_;rw[tabm_set,hx]) (by omega)
 rw[hb0]at key;exact key
open Classical in
def S.i_solve (x:((List ((List RB)×Nat))×((List RB)×Unit))):(Option ((Unit×Bool)×((List ((List RB)×Nat))×((List RB)×Unit)))):=
 if h:∃(a:Nat->Nat->Q3) (n:Nat),x.1=om B32 n n a/\x.2.1=rtN a n/\solOk a n then some (((),true),om B32 h.choose_spec.choose h.choose_spec.choose (elim false h.choose_spec.choose h.choose h.choose_spec.choose),(tab h.choose_spec.choose (solI h.choose h.choose_spec.choose)).map (rp B32),())else none
theorem S.i_solve_ok (x r) (h:S.i_solve x=some r):∃k,P.i_solve k x=some r:=by
 obtain⟨m,y,u⟩:=x;unfold S.i_solve at h;dsimp only at h;split at h
 case isFalse=>cases h
 rename_i hc;have hs:=hc.choose_spec.choose_spec;cases h;generalize hc.choose_spec.choose=n at*;generalize hc.choose=a at*;obtain⟨rfl,rfl,⟨n12,hnum,hpiv,hel,hdia⟩,hbk⟩:=hs;refine⟨14,?_⟩;unfold P.i_solve;dsimp only;rw[hd0_dup,nrm_hd0,a0t,om_len,if_neg (by decide)];have key:=a0g (k:=14) (b:=P.i_solve_b1 14) (n:=n) (st:=fun k=>((k:Int),(n:Int),(n:Int),om B32 n n (elim false n a k),rtN (elim false n a k) n,())) (F:=fun _=>some (((),true),om B32 n n (elim false n a n),(tab n (solI a n)).map (rp B32),())) (fun k g hk hg=>by
  unfold P.i_solve_b1;dsimp only at hg ⊢;rw[if_pos (decide_eq_true (by omega)),hd0_dup,nrm_hd0,if_neg (by decide)];have hp:=(hpiv k hk).2.1;have he:=hel k hk;have hs:=si_search (a:=elim false n a k) hk n12 g (K:=14) (n - k) k 14 (by omega) (by omega) hp;rw[elim]at hg;rw[<-hg];exact hs.trans (si_rows he g (by decide))) (fun g=>by
  unfold P.i_solve_b1;dsimp only;rw[if_neg (by simp),hd0_dup,nrm_hd0,if_neg (by decide),wr (by omega) (by omega)];have hF:=hnum n (Nat.le_refl _);unfold solI;generalize elim false n a n=F at*;have back:∀(l m G:Nat),m+l=n->l<G->loopP (P.i_solve_b47 14) G ((n:Int) - 1 - (m:Int),(n:Int),(tab n (bkQ F n m)).map (rp B32),om B32 n n F,())=some (((),true),om B32 n n F,(tab n (bkQ F n n)).map (rp B32),()):=by
   intro l
   induction l with
   |zero=>
    intro m G hm hG;obtain⟨G,rfl⟩:∃j,G=j+1:=⟨G - 1,by omega⟩
    rw[a0k];have hmn:m=n:=by omega
    subst hmn;unfold P.i_solve_b47;dsimp only;rw[if_neg (by simp;omega),hd0_dup,nrm_hd0,if_neg (by decide)]
   |succ l ih=>
    intro m G hm hG;obtain⟨G,rfl⟩:∃j,G=j+1:=⟨G - 1,by omega⟩
    rw[a0k];have ih':=ih (m+1) G (by omega) (by omega);generalize loopP (P.i_solve_b47 14) G=g' at ih' ⊢;unfold P.i_solve_b47;dsimp only;rw[if_pos (decide_eq_true (by omega)),hd0_dup,nrm_hd0,if_neg (by decide),wr (by omega) (by omega),<-ih',show(n:Int) - 1 - (m:Int)+1=((n - 1 - m+1:Nat):Int) by omega,show(n:Int) - 1 - (m:Int)=((n - 1 - m:Nat):Int) by omega,si_back hbk n12 hF hdia (by omega) g' (by decide),show((n - 1 - m:Nat):Int) - 1=(n:Int) - 1 - ((m+1:Nat):Int) by omega]
  have:=back n 0 14 (by omega) (by omega);rw[show(n:Int) - 1 - ((0:Nat):Int)=(n:Int) - 1 by omega]at this;exact this) (by omega)
 exact key
theorem solve_i {a:Nat->Nat->Q3} {n:Nat} (h:solOk a n):S.i_solve (om B32 n n a,rtN a n,())=some (((),true),om B32 n n (elim false n a n),(tab n (solI a n)).map (rp B32),()):=by
 unfold S.i_solve;have hc:∃(b:Nat->Nat->Q3) (m:Nat),(om B32 n n a,rtN a n,()).1=om B32 m m b/\(om B32 n n a,rtN a n,()).2.1=rtN b m/\solOk b m:=⟨a,n,rfl,rfl,h⟩
 rw[dif_pos hc];obtain⟨e,er,hb⟩:=hc.choose_spec.choose_spec;dsimp only at e er;generalize hc.choose_spec.choose=m at*;generalize hc.choose=b at*;obtain⟨e1,e2⟩:=om_inj a0e e;subst e1;have hab:∀i,i<n->∀j,j<=n->a i j=b i j:=fun i hi j hj=>by
  by_cases q:j<n
  ·exact(e2 i hi).2 j q
  ·have hj:j=n:=by omega
   have h1:(rtN a n).getD i (rp B32 a1f)=(rtN b n).getD i (rp B32 a1f):=by rw[er]
   unfold rtN at h1;rw[om_num hi,om_num hi]at h1;have:=congrArg (rv B32) h1;rw[rv_rp a0e,rv_rp a0e]at this;rw[hj];exact this
 have hg:=elim_congr (full:=false) hab (fun k hk=>(h.el.piv k hk).2.1) n (Nat.le_refl _);have hw:tab n (solI b n)=tab n (solI a n):=a0w fun i hi=>by
  unfold solI;exact(bkQ_congr hg n (Nat.le_refl _) i hi).symm
 rw[hw,om_congr fun i hi j hj=>hg i hi j (by omega)]
abbrev i_hits.A:=Int×Int×Bool×List Bool×List Bool×RB×List (List RB)×Int×List Int×List RB×Int×Int×List RB×Unit
abbrev i_hits.B:=Int×Int×List Bool×List RB×List (List RB)×List Int×List RB×Unit
abbrev i_hits.C:=Option (List RB×Unit)
abbrev P.i_hits_b8 (g4:i_hits.B->i_hits.C) (x9:i_hits.A) (g10:i_hits.A->i_hits.C):i_hits.C:=
 (fun(a b i m n:Int) (c:Bool) (d e:List Bool) (f:RB) (h:List (List RB)) (j:List Int) (l o:List RB)=>if decide (a<b)then if c then if decide (0<=a)then if decide (a<(e.length:Int))then if e.getD a.toNat false then if decide (0<=i)then if decide (i<(h.length:Int))then if decide (0<=a)then if decide (a<(List.length (h.getD i.toNat []):Int))then(S.a0x ((f.1,f.2.1,f.2.2),((List.getD (h.getD i.toNat []) a.toNat (false,[],[])).1,(List.getD (h.getD i.toNat []) a.toNat (false,[],[])).2.1,(List.getD (h.getD i.toNat []) a.toNat (false,[],[])).2.2),())).bind fun y11=>g10 (wrap .i64 (a+1),b,true,d,e,(y11.1.1,y11.1.2.1,y11.1.2.2),h,i,j,l,m,n,o,())else none else none else none else none else g10 (wrap .i64 (a+1),b,true,d,e,(f.1,f.2.1,f.2.2),h,i,j,l,m,n,o,())else none else none else if decide (0<=a)then if decide (a<(d.length:Int))then if d.getD a.toNat false then if decide (0<=a)then if decide (a<(e.length:Int))then if decide (0<=a)then if decide (a<(e.length:Int))then if e.getD a.toNat false then if decide (0<=i)then if decide (i<(h.length:Int))then if decide (0<=a)then if decide (a<(List.length (h.getD i.toNat []):Int))then(S.a0x ((f.1,f.2.1,f.2.2),((List.getD (h.getD i.toNat []) a.toNat (false,[],[])).1,(List.getD (h.getD i.toNat []) a.toNat (false,[],[])).2.1,(List.getD (h.getD i.toNat []) a.toNat (false,[],[])).2.2),())).bind fun y12=>g10 (wrap .i64 (a+1),b,e.getD a.toNat false,d,e,(y12.1.1,y12.1.2.1,y12.1.2.2),h,i,j,l,m,n,o,())else none else none else none else none else g10 (wrap .i64 (a+1),b,e.getD a.toNat false,d,e,(f.1,f.2.1,f.2.2),h,i,j,l,m,n,o,())else none else none else none else none else if decide (0<=a)then if decide (a<(e.length:Int))then if e.getD a.toNat false then if decide (0<=i)then if decide (i<(h.length:Int))then if decide (0<=a)then if decide (a<(List.length (h.getD i.toNat []):Int))then(S.a0x ((f.1,f.2.1,f.2.2),((List.getD (h.getD i.toNat []) a.toNat (false,[],[])).1,(List.getD (h.getD i.toNat []) a.toNat (false,[],[])).2.1,(List.getD (h.getD i.toNat []) a.toNat (false,[],[])).2.2),())).bind fun y13=>g10 (wrap .i64 (a+1),b,false,d,e,(y13.1.1,y13.1.2.1,y13.1.2.2),h,i,j,l,m,n,o,())else none else none else none else none else g10 (wrap .i64 (a+1),b,false,d,e,(f.1,f.2.1,f.2.2),h,i,j,l,m,n,o,())else none else none else none else none else if c then if decide (((j.length+(List.length [i]))*8)<=140737488355328)then if decide (((l.length+(List.length [(f.1,f.2.1,f.2.2)]))*56)<=140737488355328)then g4 (wrap .i64 (m+1),n,e,o,h,j++[i],l++[(f.1,f.2.1,f.2.2)],())else none else none else g4 (wrap .i64 (m+1),n,e,o,h,j,l,())) x9.1 x9.2.1 x9.2.2.2.2.2.2.2.1 x9.2.2.2.2.2.2.2.2.2.2.1 x9.2.2.2.2.2.2.2.2.2.2.2.1 x9.2.2.1 x9.2.2.2.1 x9.2.2.2.2.1 x9.2.2.2.2.2.1 x9.2.2.2.2.2.2.1 x9.2.2.2.2.2.2.2.2.1 x9.2.2.2.2.2.2.2.2.2.1 x9.2.2.2.2.2.2.2.2.2.2.2.2.1
abbrev P.i_hits_b17 (x18:Int×Int×List Int×List RB×List RB×Unit) (g19:Int×Int×List Int×List RB×List RB×Unit->i_hits.C):i_hits.C:=
 (fun(a b:Int) (c:List Int) (d e:List RB)=>if decide (a<b)then if decide (0<=a)then if decide (a<(c.length:Int))then if decide (0<=a)then if decide (a<(e.length:Int))then if decide (0<=(c.getD a.toNat 0))then if decide ((c.getD a.toNat 0)<(d.length:Int))then g19 (wrap .i64 (a+1),b,c,d.set (0+(Int.toNat (c.getD a.toNat 0))) ((e.getD a.toNat (false,[],[])).1,(e.getD a.toNat (false,[],[])).2.1,(e.getD a.toNat (false,[],[])).2.2),e,())else none else none else none else none else none else none else some (d,())) x18.1 x18.2.1 x18.2.2.1 x18.2.2.2.1 x18.2.2.2.2.1
abbrev P.i_hits_b2 (k:Nat) (x3:i_hits.B) (g4:i_hits.B->i_hits.C):i_hits.C:=
 (fun(a b:Int) (c:List Bool) (d h:List RB) (e:List (List RB)) (f:List Int)=>if decide (a<b)then if decide (0<=a)then if decide (a<(c.length:Int))then if c.getD a.toNat false then(S.i_whole (1,())).bind fun y5=>if decide (0<=a)then if decide (a<(d.length:Int))then g4 (wrap .i64 (a+1),b,c,d.set (0+a.toNat) (y5.1.1,y5.1.2.1,y5.1.2.2),e,f,h,())else none else none else(S.i_reach (e,a,())).bind fun y6=>(S.i_whole (0,())).bind fun y7=>loopP (P.i_hits_b8 g4) k (0,(e.length:Int),false,y6.1,c,(y7.1.1,y7.1.2.1,y7.1.2.2),e,a,f,h,a,b,d,())else none else none else(S.i_lessOne (e,f,false,())).bind fun y14=>if dup (List.map (fun(y15:Nat×Nat)=>y15.1) (seen (hd0 y14.1.1) 0 y14.1.2))then none else if decide (y14.1.2=(List.length (hd0 y14.1.1)))then(S.i_solve (nrm (seen (hd0 y14.1.1) 0 y14.1.2) (in0 y14.1.1),h,())).bind fun y16=>loopP P.i_hits_b17 k (0,(f.length:Int),f,d,splice h y16.2.2.1 0,())else(S.i_solve (nrm (seen (hd0 y14.1.1) 0 y14.1.2) (in0 y14.1.1),h,())).bind fun y20=>loopP P.i_hits_b17 k (0,(f.length:Int),f,d,splice h y20.2.2.1 0,())) x3.1 x3.2.1 x3.2.2.1 x3.2.2.2.1 x3.2.2.2.2.2.2.1 x3.2.2.2.2.1 x3.2.2.2.2.2.1
def P.i_hits (k:Nat) (x:List (List RB)×List Bool×Unit):i_hits.C:=
 (S.i_whole (0,())).bind fun y0=>(S.a0n ([(y0.1.1,y0.1.2.1,y0.1.2.2)],(x.1.length:Int),())).bind fun y1=>loopP (P.i_hits_b2 k) k (0,(x.1.length:Int),x.2.1,y1.1,x.1,[],[],())
theorem ih_add {a b:Q3} (ha:okq a) (hb:okq b):S.a0x (((rp B32 a).1,(rp B32 a).2.1,(rp B32 a).2.2),((rp B32 b).1,(rp B32 b).2.1,(rp B32 b).2.2),())=some (rp B32 (addQ a b),()):=by
 show S.a0x (rp B32 _,rp B32 _,())=_;unfold S.a0x;dsimp only;rw[if_pos ⟨okq_low (by decide) ha,okq_low (by decide) hb⟩,rv_rp a0e,rv_rp a0e]
theorem ih_inner {M:List (List Q3)} (h:isCh M) {tg:Nat->Bool} {i:Nat} (hi:i<M.length) (hti:tg i=false) (L:List Nat) (hL:L.length<=12) (R:List (Bool×(List Int×List Int))) (hR:R.length<=12) (O:List (Bool×(List Int×List Int))) (g) {K:Nat} (hK:12<K):
  loopP (P.i_hits_b8 g) K ((0:Int),(M.length:Int),false,reachB (adj M) M.length i,tab M.length tg,rp B32 a1f,mp B32 M,(i:Int),zs L,R,(i:Int),(M.length:Int),O,())=g (((i+1:Nat):Int),(M.length:Int),tab M.length tg,O,mp B32 M,zs (L++if inC M tg i=true then [i]else []),R++(if inC M tg i=true then [rp B32 (toQ M tg i M.length)]else []),()):=by
 have hI:=h.2.1;have hn:=hI.1;have key:=a0g (k:=K) (b:=P.i_hits_b8 g) (n:=M.length) (st:=fun j=>((j:Int),(M.length:Int),(List.range j).any (fun j=>rcB M i j&&tg j),reachB (adj M) M.length i,tab M.length tg,rp B32 (toQ M tg i j),mp B32 M,(i:Int),zs L,R,(i:Int),(M.length:Int),O,())) (F:=fun _=>g (((i+1:Nat):Int),(M.length:Int),tab M.length tg,O,mp B32 M,zs (L++if inC M tg i=true then [i]else []),R++(if inC M tg i=true then [rp B32 (toQ M tg i M.length)]else []),())) (fun j g' hj hg=>by
  unfold P.i_hits_b8;dsimp only at hg ⊢;have e1:(j:Int)<(M.length:Int):=by omega
  have e2:(0:Int)<=(j:Int):=by omega
  have e3:(0:Int)<=(i:Int):=by omega
  have e4:(i:Int)<(M.length:Int):=by omega
  have e8:((mp B32 M).getD i []).getD j (false,(([]:List Int),([]:List Int)))=rp B32 (mq M i j):=mq_held hI hi hj;have e9:(reachB (adj M) M.length i).length=M.length:=reachB_len hi;have e10:(reachB (adj M) M.length i).getD j false=rcB M i j:=rfl;have e11:(tab M.length tg).getD j false=tg j:=tab_getD _ _ hj;have ea:=ih_add (toQ_ok h (tg:=tg) hi (k:=j) (by omega)) (okq_200 ⟨(ch_at h hi hj).1,(ch_at h hi hj).2.1⟩);have hs:toQ M tg i (j+1)=if tg j=true then addQ (toQ M tg i j) (mq M i j)else toQ M tg i j:=rfl
  rw[any_succ,hs]at hg;simp only[Int.toNat_natCast,mp_len,mq_wide hI hi,a1c,e1,e2,e3,e4,e8,e9,e10,e11,decide_true,if_true];rw[wr (by omega) (by omega)];generalize (List.range j).any (fun j=>rcB M i j&&tg j)=can at*;cases ht:tg j
  ·rw[ht,if_neg (by decide),Bool.and_false,Bool.or_false]at hg;cases can
   ·rw[if_neg (by decide)];cases hr:rcB M i j
    ·rw[if_neg (by decide),if_neg (by decide)];exact hg
    ·rw[if_pos rfl,if_neg (by decide)];exact hg
   ·rw[if_pos rfl,if_neg (by decide)];exact hg
  ·rw[ht,if_pos rfl,Bool.and_true]at hg;cases can
   ·rw[Bool.false_or]at hg;rw[if_neg (by decide)];cases hr:rcB M i j
    ·rw[hr]at hg;rw[if_neg (by decide),if_pos rfl,ea,Option.bind_some];exact hg
    ·rw[hr]at hg;rw[if_pos rfl,if_pos rfl,ea,Option.bind_some];exact hg
   ·rw[Bool.true_or]at hg;rw[if_pos rfl,if_pos rfl,ea,Option.bind_some];exact hg) (fun g'=>by
  unfold P.i_hits_b8;dsimp only;have e1:((zs L).length+1)*8<=140737488355328:=by rw[zs_len];omega
  have e2:(R.length+1)*56<=140737488355328:=by omega
  have hc:inC M tg i=(List.range M.length).any (fun j=>rcB M i j&&tg j):=by
   unfold inC;rw[hti];rfl
  rw[if_neg (by simp),wr (by omega) (by omega),hc];simp only[List.length_cons,List.length_nil,Nat.zero_add,e1,e2,decide_true,if_true];cases(List.range M.length).any (fun j=>rcB M i j&&tg j)
  ·simp only[Bool.false_eq_true,if_false,List.append_nil];rfl
  ·simp only[if_true,zs_append];rfl) (by omega)
 exact key
open Classical in
def S.i_hits (x:((List (List RB))×((List Bool)×Unit))):(Option ((List RB)×Unit)):=if ∃M,isCh M/\x.1=mp B32 M/\x.2.1.length=M.length then some ((hitL (mv B32 x.1) fun j=>x.2.1.getD j false).map (rp B32),())else none
theorem S.i_hits_ok (x r) (h:S.i_hits x=some r):∃k,P.i_hits k x=some r:=by
 obtain⟨m,T,u⟩:=x;unfold S.i_hits at h;dsimp only at h;split at h
 case isFalse=>cases h
 rename_i hc;obtain⟨M,hM,rfl,hT⟩:=hc;rw[mv_mp (by decide)]at h;have hTt:T=tab M.length fun j=>T.getD j false:=by
  rw[<-hT];exact tab_of T false
 generalize (fun j=>T.getD j false)=tg at*;subst hTt;cases h;have hI:=hM.2.1;have hn:=hI.1;refine⟨13,?_⟩;unfold P.i_hits;dsimp only;have hz:S.i_whole (0,())=some (rp B32 a1f,()):=by rfl
 have ho:S.i_whole (1,())=some (rp B32 oneQ,()):=by rfl
 have er:S.a0n ([((rp B32 a1f).1,(rp B32 a1f).2.1,(rp B32 a1f).2.2)],(M.length:Int),())=some (List.replicate M.length (rp B32 a1f),()):=by
  unfold S.a0n;dsimp only;rw[if_pos ⟨rfl,by omega,by omega⟩,Int.toNat_natCast];rfl
 rw[hz,Option.bind_some];dsimp only;rw[mp_len,er,Option.bind_some];have hlen:∀i,(fl (inC M tg) i).length<=i:=fun i=>fl_le _ i
 have key:=a0g (k:=13) (b:=P.i_hits_b2 13) (n:=M.length) (st:=fun i=>((i:Int),(M.length:Int),tab M.length tg,(tab M.length fun j=>if j<i/\tg j=true then oneQ else a1f).map (rp B32),mp B32 M,zs (fl (inC M tg) i),((fl (inC M tg) i).map fun j=>toQ M tg j M.length).map (rp B32),())) (F:=fun _=>some ((hitL M tg).map (rp B32),())) (fun i g hi hg=>by
  unfold P.i_hits_b2;dsimp only at hg ⊢;have e1:(i:Int)<(M.length:Int):=by omega
  have e2:(0:Int)<=(i:Int):=by omega
  have e11:(tab M.length tg).getD i false=tg i:=tab_getD _ _ hi;have hli:=hlen i;simp only[Int.toNat_natCast,a1c,List.length_map,e1,e2,e11,decide_true,if_true];rw[fl_succ]at hg;cases ht:tg i
  ·rw[if_neg (by decide)];have eR:S.i_reach (mp B32 M,(i:Int),())=some (reachB (adj M) M.length i,()):=by
    unfold S.i_reach;dsimp only;rw[if_pos ⟨⟨M,hI,rfl⟩,by omega,by rw[mp_len];omega⟩,mv_mp (by decide),mp_len,Int.toNat_natCast]
   rw[eR,Option.bind_some,hz,Option.bind_some];dsimp only;have hin:=ih_inner hM hi ht (fl (inC M tg) i) (by omega) (((fl (inC M tg) i).map fun j=>toQ M tg j M.length).map (rp B32)) (by rw[List.length_map,List.length_map];omega) ((tab M.length fun j=>if j<i/\tg j=true then oneQ else a1f).map (rp B32)) g (K:=13) (by decide);have h1:(tab M.length fun j=>if j<i/\tg j=true then oneQ else a1f)=tab M.length fun j=>if j<i+1/\tg j=true then oneQ else a1f:=a0w fun j hj=>by
    by_cases q:j<i/\tg j=true
    ·rw[if_pos q,if_pos ⟨by omega,q.2⟩]
    ·rw[if_neg q]
     by_cases q2:j<i+1/\tg j=true
     ·have:j=i:=by
       have:=q2.1;apply Classical.byContradiction;intro z;exact q ⟨by omega,q2.2⟩
      rw[this]at q2;rw[ht]at q2;exact absurd q2.2 (by decide)
     ·rw[if_neg q2]
   have h2:((fl (inC M tg) i++if inC M tg i=true then [i]else []).map fun j=>toQ M tg j M.length).map (rp B32)=((fl (inC M tg) i).map fun j=>toQ M tg j M.length).map (rp B32)++(if inC M tg i=true then [rp B32 (toQ M tg i M.length)]else []):=by
    rw[List.map_append,List.map_append];congr 1;split<;>rfl
   rw[mp_len];refine Eq.trans hin ?_;rw[<-hg,h1,h2]
  ·have hcf:inC M tg i=false:=by
    unfold inC;rw[ht];rfl
   rw[hcf,if_neg (by decide),List.append_nil]at hg;rw[if_pos rfl,ho,Option.bind_some,Nat.zero_add,wr (by omega) (by omega)];show g (_,_,_,((tab M.length _).map (rp B32)).set i (rp B32 oneQ),_)=_;have h1:(tab M.length fun j=>if j=i then oneQ else if j<i/\tg j=true then oneQ else a1f)=tab M.length fun j=>if j<i+1/\tg j=true then oneQ else a1f:=a0w fun j hj=>by
    by_cases q:j=i
    ·rw[if_pos q,q,if_pos ⟨by omega,ht⟩]
    ·rw[if_neg q]
     by_cases q2:j<i/\tg j=true
     ·rw[if_pos q2,if_pos ⟨by omega,q2.2⟩]
     ·rw[if_neg q2,if_neg (fun z=>q2 ⟨by omega,z.2⟩)]
   rw[tabm_set,h1];exact hg) (fun g=>by
  unfold P.i_hits_b2;dsimp only;have hsol:=hi_sol hM tg;have eL:S.i_lessOne (mp B32 M,zs (fl (inC M tg) M.length),false,())=some ((om B32 (fl (inC M tg) M.length).length (fl (inC M tg) M.length).length (hiA M tg),(fl (inC M tg) M.length).length),()):=by
   unfold S.i_lessOne;dsimp only;rw[if_pos ⟨M,hM,rfl,by rw[cZ_self]⟩,mv_mp (by decide),zs_len,hA_congr (d:=inC M tg) cZ_self];have:om B32 (fl (inC M tg) M.length).length (fl (inC M tg) M.length).length (hA M false (inC M tg) fun _=>a1f)=om B32 (fl (inC M tg) M.length).length (fl (inC M tg) M.length).length (hiA M tg):=om_congr fun a ha b hb=>by
    unfold hiA;rw[hA_at _ _ _ _ hb,hA_at _ _ _ _ hb]
   rw[this]
  have eR:((fl (inC M tg) M.length).map fun j=>toQ M tg j M.length).map (rp B32)=rtN (hiA M tg) (fl (inC M tg) M.length).length:=by
   unfold rtN;rw[fl_tab];congr 1;apply a0w;intro a ha;unfold hiA hA;rw[if_pos rfl]
  rw[if_neg (by simp),eL,Option.bind_some];dsimp only;rw[hd0_take,hd0_dup,if_neg (by decide),a0t,om_len,if_pos (by simp),nrm_take,List.take_of_length_le (by rw[om_len];exact Nat.le_refl _),eR,solve_i hsol,Option.bind_some];dsimp only;have hsp:splice (rtN (hiA M tg) (fl (inC M tg) M.length).length) ((tab (fl (inC M tg) M.length).length (solI (hiA M tg) (fl (inC M tg) M.length).length)).map (rp B32)) 0=(tab (fl (inC M tg) M.length).length (solI (hiA M tg) (fl (inC M tg) M.length).length)).map (rp B32):=by
   unfold splice rtN;simp [a1c]
  rw[hsp,zs_len];have key2:=a0g (k:=13) (b:=P.i_hits_b17) (n:=(fl (inC M tg) M.length).length) (st:=fun a=>((a:Int),((fl (inC M tg) M.length).length:Int),zs (fl (inC M tg) M.length),(puts M.length (inC M tg) (solI (hiA M tg) (fl (inC M tg) M.length).length) (fun j=>if tg j=true then oneQ else a1f) a).map (rp B32),(tab (fl (inC M tg) M.length).length (solI (hiA M tg) (fl (inC M tg) M.length).length)).map (rp B32),())) (F:=fun _=>some ((hitL M tg).map (rp B32),())) (fun a g' ha hg=>by
   unfold P.i_hits_b17;dsimp only at hg ⊢;obtain⟨q1,q2⟩:=fl_at ha;have hlM:=hlen M.length;have e1:(a:Int)<((fl (inC M tg) M.length).length:Int):=by omega
   have e2:(0:Int)<=(a:Int):=by omega
   have e5:(0:Int)<=(((fl (inC M tg) M.length).getD a 0:Nat):Int):=by omega
   have e6:(((fl (inC M tg) M.length).getD a 0:Nat):Int)<(M.length:Int):=by omega
   simp only[zs_len,getD_zs,Int.toNat_natCast,List.length_map,a1c,puts_len,om_num ha,Nat.zero_add,e1,e2,e5,e6,decide_true,if_true];rw[wr (by omega) (by omega)];rw[<-puts_set ha]at hg;exact hg) (fun g'=>by
   unfold P.i_hits_b17;dsimp only;rw[if_neg (by simp),puts_all];rfl) (by have:=hlen M.length;omega)
  refine Eq.trans ?_ key2;rw[puts_zero];have:(tab M.length fun j=>if j<M.length/\tg j=true then oneQ else a1f)=tab M.length fun j=>if tg j=true then oneQ else a1f:=a0w fun j hj=>by
   by_cases q:tg j=true
   ·rw[if_pos ⟨hj,q⟩,if_pos q]
   ·rw[if_neg (fun z=>q z.2),if_neg q]
  rw[this];rfl) (by omega)
 refine Eq.trans ?_ key;have:(tab M.length fun j=>if j<0/\tg j=true then oneQ else a1f).map (rp B32)=List.replicate M.length (rp B32 a1f):=by
  rw[tab_rep,tab_map];apply a0w;intro j hj;rw[if_neg (by omega)]
 rw[this];rfl
abbrev P.i_hitTimes_b7 (x8:Int×Int×List Int×List RB×List RB×Unit) (g9:Int×Int×List Int×List RB×List RB×Unit->Option (List RB×Unit)):Option (List RB×Unit):=
 (fun(a b:Int) (c:List Int) (d e:List RB)=>if decide (a<b)then if decide (0<=a)then if decide (a<(c.length:Int))then if decide (0<=a)then if decide (a<(e.length:Int))then if decide (0<=(c.getD a.toNat 0))then if decide ((c.getD a.toNat 0)<(d.length:Int))then g9 (wrap .i64 (a+1),b,c,d.set (0+(Int.toNat (c.getD a.toNat 0))) ((e.getD a.toNat (false,[],[])).1,(e.getD a.toNat (false,[],[])).2.1,(e.getD a.toNat (false,[],[])).2.2),e,())else none else none else none else none else none else none else some (d,())) x8.1 x8.2.1 x8.2.2.1 x8.2.2.2.1 x8.2.2.2.2.1
def P.i_hitTimes (k:Nat) (x:List (List RB)×List Int×Unit):Option (List RB×Unit):=
 (S.i_whole (0,())).bind fun y0=>(S.a0n ([(y0.1.1,y0.1.2.1,y0.1.2.2)],(x.1.length:Int),())).bind fun y1=>(S.i_lessOne (x.1,x.2.1,false,())).bind fun y2=>(S.i_whole (1,())).bind fun y3=>(S.a0n ([(y3.1.1,y3.1.2.1,y3.1.2.2)],(x.2.1.length:Int),())).bind fun y4=>if dup (List.map (fun(y5:Nat×Nat)=>y5.1) (seen (hd0 y2.1.1) 0 y2.1.2))then none else if decide (y2.1.2=(List.length (hd0 y2.1.1)))then(S.i_solve (nrm (seen (hd0 y2.1.1) 0 y2.1.2) (in0 y2.1.1),y4.1,())).bind fun y6=>loopP P.i_hitTimes_b7 k (0,(x.2.1.length:Int),x.2.1,y1.1,splice y4.1 y6.2.2.1 0,())else(S.i_solve (nrm (seen (hd0 y2.1.1) 0 y2.1.2) (in0 y2.1.1),y4.1,())).bind fun y10=>loopP P.i_hitTimes_b7 k (0,(x.2.1.length:Int),x.2.1,y1.1,splice y4.1 y10.2.2.1 0,())
open Classical in
def S.i_hitTimes (x:((List (List RB))×((List Int)×Unit))):(Option ((List RB)×Unit)):=if ∃M,isCh M/\x.1=mp B32 M/\x.2.1=zs (fl (cZ x.2.1) M.length)/\wayOut M (cZ x.2.1)then some ((tmL (mv B32 x.1) (cZ x.2.1)).map (rp B32),())else none
theorem S.i_hitTimes_ok (x r) (h:S.i_hitTimes x=some r):∃k,P.i_hitTimes k x=some r:=by
 obtain⟨m,L,u⟩:=x;unfold S.i_hitTimes at h;dsimp only at h;split at h
 case isFalse=>cases h
 rename_i hc;obtain⟨M,hM,rfl,hL,hw⟩:=hc;rw[mv_mp (by decide)]at h;generalize cZ L=c at*;subst hL;cases h;have hn:=hM.2.1.1;have hlM:=fl_le c M.length;refine⟨13,?_⟩;unfold P.i_hitTimes;dsimp only;have hz:S.i_whole (0,())=some (rp B32 a1f,()):=by rfl
 have ho:S.i_whole (1,())=some (rp B32 oneQ,()):=by rfl
 have er:∀(q:Q3) (k:Nat),k<=12->S.a0n ([((rp B32 q).1,(rp B32 q).2.1,(rp B32 q).2.2)],(k:Int),())=some (List.replicate k (rp B32 q),()):=fun q k hk=>by
  unfold S.a0n;dsimp only;rw[if_pos ⟨rfl,by omega,by omega⟩,Int.toNat_natCast];rfl
 have hsol:=tm_sol hM hw;have eL:S.i_lessOne (mp B32 M,zs (fl c M.length),false,())=some ((om B32 (fl c M.length).length (fl c M.length).length (tmA M c),(fl c M.length).length),()):=by
  unfold S.i_lessOne;dsimp only;rw[if_pos ⟨M,hM,rfl,by rw[cZ_self]⟩,mv_mp (by decide),zs_len,hA_congr (d:=c) cZ_self];have:om B32 (fl c M.length).length (fl c M.length).length (hA M false c fun _=>a1f)=om B32 (fl c M.length).length (fl c M.length).length (tmA M c):=om_congr fun a ha b hb=>by
   unfold tmA;rw[hA_at _ _ _ _ hb,hA_at _ _ _ _ hb]
  rw[this]
 have eR:List.replicate (fl c M.length).length (rp B32 oneQ)=rtN (tmA M c) (fl c M.length).length:=by
  unfold rtN;rw[tab_rep,tab_map];apply a0w;intro a ha;unfold tmA hA;rw[if_pos rfl];rfl
 rw[hz,Option.bind_some];dsimp only;rw[mp_len,er _ _ hn,Option.bind_some,eL,Option.bind_some,ho,Option.bind_some];dsimp only;rw[zs_len,er _ _ (by omega),Option.bind_some];dsimp only;rw[hd0_take,hd0_dup,if_neg (by decide),a0t,om_len,if_pos (by simp),nrm_take,List.take_of_length_le (by rw[om_len];exact Nat.le_refl _),eR,solve_i hsol,Option.bind_some];dsimp only;have hsp:splice (rtN (tmA M c) (fl c M.length).length) ((tab (fl c M.length).length (solI (tmA M c) (fl c M.length).length)).map (rp B32)) 0=(tab (fl c M.length).length (solI (tmA M c) (fl c M.length).length)).map (rp B32):=by
  unfold splice rtN;simp [a1c]
 rw[hsp];have key2:=a0g (k:=13) (b:=P.i_hitTimes_b7) (n:=(fl c M.length).length) (st:=fun a=>((a:Int),((fl c M.length).length:Int),zs (fl c M.length),(puts M.length c (solI (tmA M c) (fl c M.length).length) (fun _=>a1f) a).map (rp B32),(tab (fl c M.length).length (solI (tmA M c) (fl c M.length).length)).map (rp B32),())) (F:=fun _=>some ((tmL M c).map (rp B32),())) (fun a g' ha hg=>by
  unfold P.i_hitTimes_b7;dsimp only at hg ⊢;obtain⟨q1,q2⟩:=fl_at ha;have e1:(a:Int)<((fl c M.length).length:Int):=by omega
  have e2:(0:Int)<=(a:Int):=by omega
  have e5:(0:Int)<=(((fl c M.length).getD a 0:Nat):Int):=by omega
  have e6:(((fl c M.length).getD a 0:Nat):Int)<(M.length:Int):=by omega
  simp only[zs_len,getD_zs,Int.toNat_natCast,List.length_map,a1c,puts_len,om_num ha,Nat.zero_add,e1,e2,e5,e6,decide_true,if_true];rw[wr (by omega) (by omega)];rw[<-puts_set ha]at hg;exact hg) (fun g'=>by
  unfold P.i_hitTimes_b7;dsimp only;rw[if_neg (by simp),puts_all];rfl) (by omega)
 refine Eq.trans ?_ key2;rw[puts_zero];have:(tab M.length fun _=>a1f).map (rp B32)=List.replicate M.length (rp B32 a1f):=by
  rw[tab_rep,tab_map]
 rw[this];rfl
abbrev i_ReturnTime.A:=Int×Int×List RB×RB×List RB×List (List RB)×Int×List Bool×Unit
abbrev i_ReturnTime.B:=Int×Int×List Bool×List Bool×List Int×List (List RB)×Int×Unit
abbrev i_ReturnTime.C:=Option ((ByteArray×Bool)×Unit)
abbrev P.i_ReturnTime_b16 (x17:Int×Int×List RB×RB×List RB×Unit) (g18:Int×Int×List RB×RB×List RB×Unit->i_ReturnTime.C):i_ReturnTime.C:=
 (fun(a b:Int) (c e:List RB) (d:RB)=>if decide (a<b)then if decide (0<=a)then if decide (a<(c.length:Int))then if decide (0<=a)then if decide (a<(e.length:Int))then(S.i_rat_mul (((c.getD a.toNat (false,[],[])).1,(c.getD a.toNat (false,[],[])).2.1,(c.getD a.toNat (false,[],[])).2.2),((e.getD a.toNat (false,[],[])).1,(e.getD a.toNat (false,[],[])).2.1,(e.getD a.toNat (false,[],[])).2.2),())).bind fun y19=>(S.a0x ((d.1,d.2.1,d.2.2),(y19.1.1,y19.1.2.1,y19.1.2.2),())).bind fun y20=>g18 (wrap .i64 (a+1),b,c,(y20.1.1,y20.1.2.1,y20.1.2.2),e,())else none else none else none else none else(S.i_told ((d.1,d.2.1,d.2.2),())).bind fun y21=>some ((y21.1.1,y21.1.2),())) x17.1 x17.2.1 x17.2.2.1 x17.2.2.2.2.1 x17.2.2.2.1
abbrev P.i_ReturnTime_b11 (k:Nat) (x12:i_ReturnTime.B) (g13:i_ReturnTime.B->i_ReturnTime.C):i_ReturnTime.C:=
 (fun(a b h:Int) (c d:List Bool) (e:List Int) (f:List (List RB))=>if decide (a<b)then if decide (0<=a)then if decide (a<(c.length:Int))then if c.getD a.toNat false then if decide (0<=a)then if decide (a<(d.length:Int))then if ! (d.getD (0+a.toNat) false)then if decide (((e.length+(List.length [a]))*8)<=140737488355328)then g13 (wrap .i64 (a+1),b,c,d,e++[a],f,h,())else none else g13 (wrap .i64 (a+1),b,c,d,e,f,h,())else none else none else g13 (wrap .i64 (a+1),b,c,d,e,f,h,())else none else none else(S.i_whole (1,())).bind fun y14=>(S.i_hitTimes (f,e,())).bind fun y15=>if decide (0<=h)then if decide (h<(f.length:Int))then loopP P.i_ReturnTime_b16 k (0,(List.length (f.getD h.toNat []):Int),f.getD h.toNat [],(y14.1.1,y14.1.2.1,y14.1.2.2),y15.1,())else none else none) x12.1 x12.2.1 x12.2.2.2.2.2.2.1 x12.2.2.1 x12.2.2.2.1 x12.2.2.2.2.1 x12.2.2.2.2.2.1
abbrev P.i_ReturnTime_b4 (k:Nat) (x5:i_ReturnTime.A) (g6:i_ReturnTime.A->i_ReturnTime.C):i_ReturnTime.C:=
 (fun(a b h:Int) (c e:List RB) (d:RB) (f:List (List RB)) (i:List Bool)=>if decide (a<b)then if decide (0<=a)then if decide (a<(c.length:Int))then if decide (0<=a)then if decide (a<(e.length:Int))then(S.i_rat_mul (((c.getD a.toNat (false,[],[])).1,(c.getD a.toNat (false,[],[])).2.1,(c.getD a.toNat (false,[],[])).2.2),((e.getD a.toNat (false,[],[])).1,(e.getD a.toNat (false,[],[])).2.1,(e.getD a.toNat (false,[],[])).2.2),())).bind fun y7=>(S.a0x ((d.1,d.2.1,d.2.2),(y7.1.1,y7.1.2.1,y7.1.2.2),())).bind fun y8=>g6 (wrap .i64 (a+1),b,c,(y8.1.1,y8.1.2.1,y8.1.2.2),e,f,h,i,())else none else none else none else none else(S.i_rat_isOne ((d.1,d.2.1,d.2.2),())).bind fun y9=>if !y9.1 then some ((bs [],false),())else(S.i_reach (f,h,())).bind fun y10=>loopP (P.i_ReturnTime_b11 k) k (0,(y10.1.length:Int),y10.1,i,[],f,h,())) x5.1 x5.2.1 x5.2.2.2.2.2.2.1 x5.2.2.1 x5.2.2.2.2.1 x5.2.2.2.1 x5.2.2.2.2.2.1 x5.2.2.2.2.2.2.2.1
def P.i_ReturnTime (k:Nat) (x:List (List ByteArray)×Int×Unit):i_ReturnTime.C:=
 (S.i_chainOf (x.1,())).bind fun y0=>if !y0.1.2 then some ((bs [],false),())else(S.i_isState (y0.1.1,x.2.1,())).bind fun y1=>if !y1.1 then some ((bs [],false),())else if decide (0<=(y0.1.1.length:Int))then if decide ((y0.1.1.length:Int)<=(y0.1.1.length:Int))then if decide (((y0.1.1.length:Int)*1)<=281474976710656)then if decide (0<=x.2.1)then if decide (x.2.1<(List.length (List.replicate (Int.toNat (y0.1.1.length:Int)) false):Int))then(S.i_whole (0,())).bind fun y2=>(S.i_hits (y0.1.1,List.set (List.replicate (Int.toNat (y0.1.1.length:Int)) false) (0+x.2.1.toNat) true,())).bind fun y3=>if decide (0<=x.2.1)then if decide (x.2.1<(y0.1.1.length:Int))then loopP (P.i_ReturnTime_b4 k) k (0,(List.length (y0.1.1.getD x.2.1.toNat []):Int),y0.1.1.getD x.2.1.toNat [],(y2.1.1,y2.1.2.1,y2.1.2.2),y3.1,y0.1.1,x.2.1,List.set (List.replicate (Int.toNat (y0.1.1.length:Int)) false) (0+x.2.1.toNat) true,())else none else none else none else none else none else none else none
theorem irt_mul {a b:Q3} (ha:okq a) (hb:okq b):S.i_rat_mul (rp B32 a,rp B32 b,())=some (rp B32 (mulQ a b),()):=by
 unfold S.i_rat_mul;dsimp only;rw[if_pos ⟨okq_low (by decide) ha,okq_low (by decide) hb⟩,rv_rp a0e,rv_rp a0e]
theorem irt_add {a b:Q3} (ha:okq a) (hb:okq b):S.a0x (rp B32 a,rp B32 b,())=some (rp B32 (addQ a b),()):=by
 unfold S.a0x;dsimp only;rw[if_pos ⟨okq_low (by decide) ha,okq_low (by decide) hb⟩,rv_rp a0e,rv_rp a0e]
open Classical in
def S.i_ReturnTime (x:((List (List ByteArray))×(Int×Unit))):(Option ((ByteArray×Bool)×Unit)):=if x.1.all okT=true then some (rtT x.1 x.2.1,())else none
theorem S.i_ReturnTime_ok (x r) (h:S.i_ReturnTime x=some r):∃k,P.i_ReturnTime k x=some r:=by
 obtain⟨u,z,u'⟩:=x;unfold S.i_ReturnTime at h;dsimp only at h;split at h
 case isFalse=>cases h
 rename_i hcc;have hu:=hcc;cases h;refine⟨13,?_⟩;have hp:S.i_chainOf (u,())=some ((mp B32 (chQ u).1,(chQ u).2),()):=by
  unfold S.i_chainOf;exact if_pos hu
 unfold P.i_ReturnTime rtT;dsimp only;rw[hp,Option.bind_some];dsimp only;cases hc:(chQ u).2
 ·rw[if_pos (by decide),Bool.false_and,if_neg (by decide)]
 obtain⟨hM,_⟩:=chQ_ok hc;generalize (chQ u).1=M at*;have hn:=hM.2.1.1;have hn0:0<M.length:=hM.1;have es:S.i_isState (mp B32 M,z,())=some (decide (0<=z/\z<=(M.length:Int) - 1),()):=by
  unfold S.i_isState P.i_isState S.i_in P.i_in;dsimp only;rw[mp_len,wr (by omega) (by omega)]
  by_cases h1:z>=0
  ·rw[if_pos (decide_eq_true h1),Option.bind_some];congr 2;rw[decide_eq_decide];exact⟨fun a=>⟨h1,a⟩,fun a=>a.2⟩
  ·rw[if_neg (by simpa using h1),Option.bind_some,decide_eq_false (fun a=>h1 a.1)]
 rw[if_neg (by decide),es,Option.bind_some,Bool.true_and];dsimp only;cases hd:decide (0<=z/\z<=(M.length:Int) - 1)
 ·rw[if_pos (by decide),Bool.false_and,if_neg (by decide)]
 obtain⟨s,rfl⟩:=Int.eq_ofNat_of_zero_le (of_decide_eq_true hd).1;have hs:s<M.length:=by have:=(of_decide_eq_true hd).2;omega
 have hm0:(0:Int)<=(M.length:Int):=by omega
 have hm1:(M.length:Int)*1<=281474976710656:=by omega
 have hs0:(0:Int)<=(s:Int):=by omega
 have hs1:(s:Int)<(M.length:Int):=by omega
 have eh:S.i_hits (mp B32 M,tab M.length (stF s),())=some ((hitL M (stF s)).map (rp B32),()):=by
  unfold S.i_hits;dsimp only;rw[if_pos ⟨_,hM,rfl,a1c _ _⟩,mv_mp (by decide),hitL_cg hM fun i hi=>tab_getD _ _ hi]
 have o1:S.i_whole (1,())=some (rp B32 oneQ,()):=by rfl
 have o2:S.i_whole (0,())=some (rp B32 a1f,()):=by rfl
 have hwide:((mp B32 M).getD s []).length=M.length:=mq_wide hM.2.1 hs;rw[if_neg (by decide),mp_len,if_pos (decide_eq_true hm0),if_pos (by simp),if_pos (decide_eq_true hm1),if_pos (decide_eq_true hs0),List.length_replicate,Int.toNat_natCast,if_pos (decide_eq_true hs1),o2,Option.bind_some,Int.toNat_natCast,Nat.zero_add,set_st,eh,Option.bind_some,if_pos (decide_eq_true hs0),if_pos (decide_eq_true hs1),Bool.true_and];dsimp only;rw[hwide];have e4:∀q:Q3,((rp B32 q).1,(rp B32 q).2.1,(rp B32 q).2.2)=rp B32 q:=fun _=>rfl
 have e9:(hitL M (stF s)).length=M.length:=by rw[hitL_tab,a1c]
 have e9':∀c,(tmL M c).length=M.length:=fun c=>by rw[tmL_tab,a1c]
 obtain⟨q1,q2⟩:=dq_ok hM hs (hQ_co hM (stF s)) (o:=a1f) (Or.inl rfl);have key:=a0g (k:=13) (b:=P.i_ReturnTime_b4 13) (n:=M.length) (st:=fun j=>((j:Int),(M.length:Int),(mp B32 M).getD s [],rp B32 (dq M s (hQ M (stF s)) a1f j),(hitL M (stF s)).map (rp B32),mp B32 M,(s:Int),tab M.length (stF s),())) (F:=fun _=>some (if decide (backQ M s=oneQ)=true then giveN (dq M s (tmQ M (cSu M s)) oneQ M.length)else(bs [],false),())) (fun j g hj hg=>by
  unfold P.i_ReturnTime_b4;dsimp only at hg ⊢;have e1:(j:Int)<(M.length:Int):=by omega
  have e2:(0:Int)<=(j:Int):=by omega
  have e8:((mp B32 M).getD s []).getD j (false,(([]:List Int),([]:List Int)))=rp B32 (mq M s j):=mq_held hM.2.1 hs hj;have e7:((hitL M (stF s)).map (rp B32)).getD j (false,(([]:List Int),([]:List Int)))=rp B32 (hQ M (stF s) j):=om_num hj _;have hm:okq (mq M s j):=okq_200 ⟨(ch_at hM hs hj).1,(ch_at hM hs hj).2.1⟩;have a1:=irt_mul hm (hQ_low hM (stF s) hj);have a2:=irt_add (q1 j (by omega)).1 (q2 j hj);have hv:dq M s (hQ M (stF s)) a1f (j+1)=addQ (dq M s (hQ M (stF s)) a1f j) (mulQ (mq M s j) (hQ M (stF s) j)):=rfl;rw[hv]at hg;simp only[Int.toNat_natCast,hwide,List.length_map,e1,e2,e4,e7,e8,e9,decide_true,if_true];rw[wr (by omega) (by omega),a1,Option.bind_some,a2,Option.bind_some];exact hg) (fun g=>by
  unfold P.i_ReturnTime_b4;dsimp only;have kb:=(q1 M.length (Nat.le_refl _)).1;have ee:S.i_rat_isOne (rp B32 (dq M s (hQ M (stF s)) a1f M.length),())=some (decide (backQ M s=oneQ),()):=by
   unfold S.i_rat_isOne;dsimp only;rw[rv_rp a0e,if_pos ⟨below_rok9 (by decide) kb.2 (by decide),low_qok kb.1⟩,isOne_low kb.1];rfl
  rw[if_neg (by simp)];simp only[e4];rw[ee,Option.bind_some];dsimp only;cases hb:decide (backQ M s=oneQ)
  ·rw[if_pos (by decide),if_neg (by decide)]
  have hb':backQ M s=oneQ:=of_decide_eq_true hb;have w1:=bk_way hM hs hb';obtain⟨r1,r2⟩:=dq_ok hM hs (tmQ_co hM w1) (o:=oneQ) (Or.inr rfl);have er:S.i_reach (mp B32 M,(s:Int),())=some (reachB (adj M) M.length s,()):=by
   unfold S.i_reach;dsimp only;rw[if_pos ⟨⟨M,hM.2.1,rfl⟩,by omega,by rw[mp_len];omega⟩,mv_mp (by decide),mp_len,Int.toNat_natCast]
  have erl:(reachB (adj M) M.length s).length=M.length:=reachB_len hs;rw[if_neg (by decide),if_pos rfl,er,Option.bind_some,time_same hM hs hb'];dsimp only;rw[erl];have key3:=a0g (k:=13) (b:=P.i_ReturnTime_b11 13) (n:=M.length) (st:=fun i=>((i:Int),(M.length:Int),reachB (adj M) M.length s,tab M.length (stF s),zs (fl (cBk M s) i),mp B32 M,(s:Int),())) (F:=fun _=>some (giveN (dq M s (tmQ M (cBk M s)) oneQ M.length),())) (fun i g hi hg=>by
   unfold P.i_ReturnTime_b11;dsimp only at hg ⊢;have hli:=fl_le (cBk M s) i;have e1:(i:Int)<(M.length:Int):=by omega
   have e2:(0:Int)<=(i:Int):=by omega
   have e5:((fl (cBk M s) i).length+1)*8<=140737488355328:=by omega
   have e10:(reachB (adj M) M.length s).getD i false=rcB M s i:=rfl;have e11:(tab M.length (stF s)).getD i false=stF s i:=tab_getD _ _ hi;have hv:cBk M s i=(rcB M s i&& !stF s i):=rfl;rw[fl_succ,hv]at hg;simp only[Int.toNat_natCast,Nat.zero_add,zs_len,List.length_cons,List.length_nil,a1c,erl,e1,e2,e5,e10,e11,decide_true,if_true];rw[wr (by omega) (by omega)];cases hr:rcB M s i
   ·rw[hr,if_neg (by simp),List.append_nil]at hg;rw[if_neg (by decide)];exact hg
   ·rw[hr,Bool.true_and]at hg;rw[if_pos rfl];cases hs1:stF s i
    ·rw[hs1,if_pos (by decide),zs_append]at hg;rw[if_pos (by decide)];exact hg
    ·rw[hs1,if_neg (by decide),List.append_nil]at hg;rw[if_neg (by decide)];exact hg) (fun g=>by
   unfold P.i_ReturnTime_b11;dsimp only;have hz:∀i,i<M.length->cBk M s i=cZ (zs (fl (cBk M s) M.length)) i:=fun i hi=>(cZ_fl hi).symm
   have em:S.i_hitTimes (mp B32 M,zs (fl (cBk M s) M.length),())=some ((tmL M (cBk M s)).map (rp B32),()):=by
    unfold S.i_hitTimes;dsimp only;rw[if_pos ⟨M,hM,rfl,by rw[cZ_self],way_congr hz w1⟩,mv_mp (by decide),<-tmL_congr hM w1 hz]
   rw[if_neg (by simp),o1,Option.bind_some,em,Option.bind_some,if_pos (decide_eq_true hs0),mp_len,if_pos (decide_eq_true hs1),Int.toNat_natCast,hwide];dsimp only;have key2:=a0g (k:=13) (b:=P.i_ReturnTime_b16) (n:=M.length) (st:=fun j=>((j:Int),(M.length:Int),(mp B32 M).getD s [],rp B32 (dq M s (tmQ M (cBk M s)) oneQ j),(tmL M (cBk M s)).map (rp B32),())) (F:=fun _=>some (giveN (dq M s (tmQ M (cBk M s)) oneQ M.length),())) (fun j g hj hg=>by
    unfold P.i_ReturnTime_b16;dsimp only at hg ⊢;have e1:(j:Int)<(M.length:Int):=by omega
    have e2:(0:Int)<=(j:Int):=by omega
    have e8:((mp B32 M).getD s []).getD j (false,(([]:List Int),([]:List Int)))=rp B32 (mq M s j):=mq_held hM.2.1 hs hj;have e7:((tmL M (cBk M s)).map (rp B32)).getD j (false,(([]:List Int),([]:List Int)))=rp B32 (tmQ M (cBk M s) j):=om_num hj _;have hm:okq (mq M s j):=okq_200 ⟨(ch_at hM hs hj).1,(ch_at hM hs hj).2.1⟩;have a1:=irt_mul hm (tmQ_low hM w1 hj);have a2:=irt_add (r1 j (by omega)).1 (r2 j hj);have hv:dq M s (tmQ M (cBk M s)) oneQ (j+1)=addQ (dq M s (tmQ M (cBk M s)) oneQ j) (mulQ (mq M s j) (tmQ M (cBk M s) j)):=rfl;rw[hv]at hg;simp only[Int.toNat_natCast,hwide,List.length_map,e1,e2,e4,e7,e8,e9',decide_true,if_true];rw[wr (by omega) (by omega),a1,Option.bind_some,a2,Option.bind_some];exact hg) (fun g=>by
    unfold P.i_ReturnTime_b16;dsimp only;have kt:=(r1 M.length (Nat.le_refl _)).1;rw[if_neg (by simp)];simp only[e4];have eg:S.i_told (rp B32 (dq M s (tmQ M (cBk M s)) oneQ M.length),())=some (giveN (dq M s (tmQ M (cBk M s)) oneQ M.length),()):=by
     unfold S.i_told;dsimp only;rw[if_pos (below_rok9 (by decide) kt.2 (by decide)),rv_rp a0e]
    rw[eg,Option.bind_some]) (by omega)
   exact key2) (by omega)
  exact key3) (by omega)
 exact key
def P.l_FnExactReturnTime (k:Nat) (x:List (List ByteArray)×Int×Unit):Option (Bool×Unit):=
 (S.l_szChain (x.1,1000000,())).bind fun y0=>if decide (y0.1<0)then some (true,())else(S.l_toChain (x.1,false,())).bind fun y1=>(S.s_ReturnTime (List.map (fun(y2:List ByteArray×Nat)=>List.map (fun(y3:ByteArray)=>y3) (List.take y2.2 y2.1)) (List.take y1.1.2 y1.1.1),x.2.1,())).bind fun y4=>(S.l_toChain (x.1,false,())).bind fun y5=>(S.i_ReturnTime (List.map (fun(y6:List ByteArray×Nat)=>List.map (fun(y7:ByteArray)=>y7) (List.take y6.2 y6.1)) (List.take y5.1.2 y5.1.1),x.2.1,())).bind fun y8=>if ! ((ByteArray.toList y8.1.1)==(ByteArray.toList y4.1.1))then some (false,())else if ! (y8.1.2==y4.1.2)then some (false,())else(S.l_toChain (x.1,false,())).bind fun y9=>(S.l_intactChain ((y5.1.1,y5.1.2),(y9.1.1,y9.1.2),())).bind fun y10=>if !y10.1 then some (false,())else(S.l_toChain (x.1,true,())).bind fun y11=>(S.i_ReturnTime (List.map (fun(y12:List ByteArray×Nat)=>List.map (fun(y13:ByteArray)=>y13) (List.take y12.2 y12.1)) (List.take y11.1.2 y11.1.1),x.2.1,())).bind fun y14=>if ! ((ByteArray.toList y14.1.1)==(ByteArray.toList y4.1.1))then some (false,())else if ! (y14.1.2==y4.1.2)then some (false,())else some (true,())
def S.l_FnExactReturnTime (x:((List (List ByteArray))×(Int×Unit))):(Option (Bool×Unit)):=P.l_FnExactReturnTime 0 x
theorem S.l_FnExactReturnTime_ok (x r) (h:S.l_FnExactReturnTime x=some r):∃k,P.l_FnExactReturnTime k x=some r:=⟨0,h⟩
end Go.Cm
end
