import Derived.Test.YtdpljomfkoojnaaGreatDoorPlLazyChaina
set_option linter.unusedVariables false
set_option maxRecDepth 100000
noncomputable section
namespace Go.Cm
open IntKind (wrap)
abbrev P.s_l01Gcd_b0 (x1:List Int×List Int×Unit) (g2:List Int×List Int×Unit->Option (List Int×Unit)):Option (List Int×Unit):=
 if decide ((x1.1.length:Int)>(0:Int))then(S.s_l01NatDiv (x1.2.1,x1.1,())).bind fun y3=>g2 (y3.1.2,x1.1,())else some (x1.2.1,())
def P.s_l01Gcd (k:Nat) (x:List Int×List Int×Unit):Option (List Int×Unit):=
 loopP P.s_l01Gcd_b0 k (x.2.1,x.1,())
theorem canon_pos {B:Nat} (hB:2<=B) {xs:List Int} (h:canon B xs=true) (hn:xs≠ []):dval B xs≠0:=by
 intro q;have:=canon_eq h;rw[q,nd_zero hB]at this;exact hn this.symm
theorem nd_shorter {B:Nat} (hB:2<=B) {m n:Nat} (h:m<=n):(nd B m).length<=(nd B n).length:=by
 rw[nd_len hB];exact Nat.lt_of_le_of_lt h ((nd_len hB n _).1 (Nat.le_refl _))
theorem sg_loop (n:Nat):∀(as bs:List Int) (k:Nat),canon B10 as=true->canon B10 bs=true->as.length<=10000000000->bs.length<=10000000000->dval B10 bs<=n->n<k->loopP P.s_l01Gcd_b0 k (bs,(as,()))=some (nd B10 (Nat.gcd (dval B10 as) (dval B10 bs)),()):=by
 induction n using Nat.strongRecOn with
 |ind n ih=>
  intro as bs k ca cb la lb hn hk;obtain⟨k,rfl⟩:∃j,k=j+1:=⟨k - 1,by omega⟩
  rw[loopP_succ];unfold P.s_l01Gcd_b0;dsimp only
  by_cases hb:bs=[]
  ·subst hb;rw[if_neg (by simp),show dval B10 []=0 from rfl,Nat.gcd_zero_right,canon_eq ca]
  ·have hpos:0<bs.length:=List.length_pos_iff.2 hb;have hb0:=canon_pos B10_le cb hb;have hm:=Nat.mod_lt (dval B10 as) (show 0<dval B10 bs by omega);have hc:(bs.length:Int)>0:=by omega
   rw[if_pos (decide_eq_true hc)];show Option.bind (S.s_l01NatDiv (as,(bs,()))) (fun y3=>loopP P.s_l01Gcd_b0 k (y3.1.2,(bs,())))=_;unfold S.s_l01NatDiv;dsimp only;rw[if_pos ⟨ca,cb,hb,la,lb⟩,Option.bind_some];dsimp only;have hl:(nd B10 (dval B10 as%dval B10 bs)).length<=bs.length:=by
    have:=nd_shorter B10_le (Nat.le_of_lt hm);rwa [canon_eq cb]at this
   have hd:dval B10 (nd B10 (dval B10 as%dval B10 bs))=dval B10 as%dval B10 bs:=dval_nd B10_le _;rw[ih (dval B10 as%dval B10 bs) (by omega) bs (nd B10 (dval B10 as%dval B10 bs)) k cb (canon_nd B10_le _) lb (by omega) (by rw[hd];exact Nat.le_refl _) (by omega),hd,gcd_step]
def S.s_l01Gcd (x:((List Int)×((List Int)×Unit))):(Option ((List Int)×Unit)):=if canon B10 x.1=true/\canon B10 x.2.1=true/\x.1.length<=10000000000/\x.2.1.length<=10000000000 then some (nd B10 (Nat.gcd (dval B10 x.1) (dval B10 x.2.1)),())else none
theorem S.s_l01Gcd_ok (x r) (h:S.s_l01Gcd x=some r):∃k,P.s_l01Gcd k x=some r:=by
 obtain⟨as,bs,u⟩:=x;unfold S.s_l01Gcd at h;dsimp only at h;split at h
 case isFalse=>cases h
 rename_i hc;obtain⟨ca,cb,la,lb⟩:=hc;cases h;refine⟨dval B10 bs+1,?_⟩;unfold P.s_l01Gcd;exact sg_loop (dval B10 bs) as bs _ ca cb la lb (Nat.le_refl _) (by omega)
def P.s_l01Make (k:Nat) (x:Bool×List Int×List Int×Unit):Option (RB×Unit):=
 (S.s_l01Gcd (x.2.1,x.2.2.1,())).bind fun y0=>(S.s_l01Cmp (y0.1,[(1:Int)],())).bind fun y1=>if y1.1 != (0:Int)then(S.s_l01NatDiv (x.2.1,y0.1,())).bind fun y2=>(S.s_l01NatDiv (x.2.2.1,y0.1,())).bind fun y3=>if x.1 then some ((decide ((y2.1.1.length:Int)>(0:Int)),y2.1.1,y3.1.1),())else some ((false,y2.1.1,y3.1.1),())else if x.1 then some ((decide ((x.2.1.length:Int)>(0:Int)),x.2.1,x.2.2.1),())else some ((false,x.2.1,x.2.2.1),())
def S.s_l01Make (x:(Bool×((List Int)×((List Int)×Unit)))):(Option (RB×Unit)):=if canon B10 x.2.1=true/\canon B10 x.2.2.1=true/\x.2.2.1≠ []/\x.2.1.length<=10000000000/\x.2.2.1.length<=10000000000 then some (rp B10 (lowN x.1 (dval B10 x.2.1) (dval B10 x.2.2.1)),())else none
theorem S.s_l01Make_ok (x r) (h:S.s_l01Make x=some r):∃k,P.s_l01Make k x=some r:=by
 obtain⟨neg,as,bs',u⟩:=x;unfold S.s_l01Make at h;dsimp only at h;split at h
 case isFalse=>cases h
 rename_i hc;obtain⟨ca,cb,hne,la,lb⟩:=hc;cases h;refine⟨0,?_⟩;unfold P.s_l01Make;dsimp only;have hb0:dval B10 bs'≠0:=fun e=>hne ((canon_nil B10_le cb).2 e)
 have hg:=gcd_len B10_le ca cb hb0;have hgp:0<Nat.gcd (dval B10 as) (dval B10 bs'):=Nat.gcd_pos_of_pos_right _ (by omega);have e1:S.s_l01Gcd (as,(bs',()))=some (nd B10 (Nat.gcd (dval B10 as) (dval B10 bs')),()):=by
  unfold S.s_l01Gcd;exact if_pos ⟨ca,cb,la,lb⟩
 rw[e1,Option.bind_some];dsimp only;unfold lowN rp;dsimp only;have hgne:nd B10 (Nat.gcd (dval B10 as) (dval B10 bs'))≠ []:=by
  rw[nd_pos B10_le (by omega)];simp
 have hgd:dval B10 (nd B10 (Nat.gcd (dval B10 as) (dval B10 bs')))=Nat.gcd (dval B10 as) (dval B10 bs'):=dval_nd B10_le _;have hgc:canon B10 (nd B10 (Nat.gcd (dval B10 as) (dval B10 bs')))=true:=canon_nd B10_le _;have e2:∀xs,canon B10 xs=true->xs.length<=10000000000->S.s_l01NatDiv (xs,(nd B10 (Nat.gcd (dval B10 as) (dval B10 bs')),()))=some ((nd B10 (dval B10 xs/Nat.gcd (dval B10 as) (dval B10 bs')),nd B10 (dval B10 xs%Nat.gcd (dval B10 as) (dval B10 bs'))),()):=by
  intro xs cx lx;unfold S.s_l01NatDiv;dsimp only;rw[if_pos ⟨cx,hgc,hgne,lx,by omega⟩,hgd]
 have e3:S.s_l01Cmp (nd B10 (Nat.gcd (dval B10 as) (dval B10 bs')),([1],()))=some (cmpN (Nat.gcd (dval B10 as) (dval B10 bs')) 1,()):=by
  unfold S.s_l01Cmp;dsimp only;rw[if_pos ⟨hgc,canon_one B10_le,by omega⟩,hgd,dval_one]
 rw[e3,Option.bind_some,e2 as ca la,Option.bind_some,e2 bs' cb lb,Option.bind_some];dsimp only;have hpos:∀xs:List Int,canon B10 xs=true->(decide (((xs.length:Nat):Int)>0))=decide (dval B10 xs≠0):=by
  intro xs cx;have:=canon_nil B10_le cx;rw[decide_eq_decide];constructor
  ·intro h e;rw[this.2 e]at h;simp at h
  ·intro h;have:0<xs.length:=List.length_pos_iff.2 (fun e=>h (this.1 e));omega
 have hp2:decide (dval B10 as/Nat.gcd (dval B10 as) (dval B10 bs')≠0)=decide (dval B10 as≠0):=by
  rw[decide_eq_decide];have hdv:Nat.gcd (dval B10 as) (dval B10 bs') ∣ dval B10 as:=Nat.gcd_dvd_left _ _;constructor
  ·intro h e;rw[e,Nat.zero_div]at h;exact h rfl
  ·intro h e;have:=Nat.div_pos (Nat.le_of_dvd (by omega) hdv) hgp;omega
 rw[hpos _ (canon_nd B10_le _),hpos as ca,dval_nd B10_le,hp2]
 by_cases h1:Nat.gcd (dval B10 as) (dval B10 bs')=1
 ·rw[if_neg (by simpa using cmpN_zero.2 h1),h1,Nat.div_one,Nat.div_one,canon_eq ca,canon_eq cb];cases neg<;>simp
 ·rw[if_pos (by simpa using fun q=>h1 (cmpN_zero.1 q))];cases neg<;>simp
def P.s_l01Sum (k:Nat) (x:RB×RB×Unit):Option (RB×Unit):=
 (S.s_l01NatMul (x.1.2.1,x.2.1.2.2,())).bind fun y0=>(S.s_l01NatMul (x.2.1.2.1,x.1.2.2,())).bind fun y1=>(S.s_l01NatMul (x.1.2.2,x.2.1.2.2,())).bind fun y2=>if x.1.1==x.2.1.1 then(S.s_l01NatAdd (y0.1,y1.1,())).bind fun y3=>(S.s_l01Make (x.1.1,y3.1,y2.1,())).bind fun y4=>some ((y4.1.1,y4.1.2.1,y4.1.2.2),())else(S.s_l01Cmp (y0.1,y1.1,())).bind fun y5=>if decide (y5.1>=0)then(S.s_l01NatLess (y0.1,y1.1,())).bind fun y6=>(S.s_l01Make (x.1.1,y6.1,y2.1,())).bind fun y7=>some ((y7.1.1,y7.1.2.1,y7.1.2.2),())else(S.s_l01NatLess (y1.1,y0.1,())).bind fun y8=>(S.s_l01Make (x.2.1.1,y8.1,y2.1,())).bind fun y9=>some ((y9.1.1,y9.1.2.1,y9.1.2.2),())
theorem sa_mul (p q:Nat) (hp:(nd B10 p).length<=100000000) (hq:(nd B10 q).length<=100000000):S.s_l01NatMul (nd B10 p,(nd B10 q,()))=some (nd B10 (p*q),()):=by
 unfold S.s_l01NatMul;dsimp only;rw[if_pos ⟨dig_nd B10_le _,dig_nd B10_le _,by omega,by omega⟩,dval_nd B10_le,dval_nd B10_le]
theorem sa_add (p q:Nat) (hp:(nd B10 p).length<=100000000) (hq:(nd B10 q).length<=100000000):S.s_l01NatAdd (nd B10 p,(nd B10 q,()))=some (nd B10 (p+q),()):=by
 unfold S.s_l01NatAdd;dsimp only;rw[if_pos ⟨canon_nd B10_le _,canon_nd B10_le _,by omega,by omega⟩,dval_nd B10_le,dval_nd B10_le]
theorem sa_sub (p q:Nat) (hp:(nd B10 p).length<=100000000) (h:q<=p):S.s_l01NatLess (nd B10 p,(nd B10 q,()))=some (nd B10 (p - q),()):=by
 unfold S.s_l01NatLess;dsimp only;rw[dval_nd B10_le,dval_nd B10_le,if_pos ⟨dig_nd B10_le _,dig_nd B10_le _,nd_shorter' B10_le h,h,by omega⟩]
theorem sa_cmp (p q:Nat) (hp:(nd B10 p).length<=100000000):S.s_l01Cmp (nd B10 p,(nd B10 q,()))=some (cmpN p q,()):=by
 unfold S.s_l01Cmp;dsimp only;rw[if_pos ⟨canon_nd B10_le _,canon_nd B10_le _,by omega⟩,dval_nd B10_le,dval_nd B10_le]
theorem sa_low (n:Bool) (p q:Nat) (hp:(nd B10 p).length<=100000000) (hq:(nd B10 q).length<=100000000) (h0:q≠0):S.s_l01Make (n,(nd B10 p,(nd B10 q,())))=some (rp B10 (lowN n p q),()):=by
 unfold S.s_l01Make;dsimp only;rw[if_pos ⟨canon_nd B10_le _,canon_nd B10_le _,nd_ne B10_le h0,by omega,by omega⟩,dval_nd B10_le,dval_nd B10_le]
def S.s_l01Sum (x:(RB×(RB×Unit))):(Option (RB×Unit)):=if lowb B10 40000000 x.1=true/\lowb B10 40000000 x.2.1=true then some (rp B10 (addQ (rv B10 x.1) (rv B10 x.2.1)),())else none
theorem S.s_l01Sum_ok (x r) (h:S.s_l01Sum x=some r):∃k,P.s_l01Sum k x=some r:=by
 obtain⟨x,y,u⟩:=x;unfold S.s_l01Sum at h;dsimp only at h;split at h
 case isFalse=>cases h
 rename_i hc;obtain⟨hx,hy⟩:=hc;cases h;rw[lowb_iff]at hx hy;obtain⟨hx,lx⟩:=hx;obtain⟨hy,ly⟩:=hy;obtain⟨n1,p1,q1,rfl,x1,x2⟩:=rok_nd hx;obtain⟨n2,p2,q2,rfl,y1,y2⟩:=rok_nd hy;rw[rv_nd B10_le]at lx ly ⊢;rw[rv_nd B10_le];have hq1:q1≠0:=by have:0<q1:=lx.1;omega
 have hq2:q2≠0:=by have:0<q2:=ly.1;omega
 have m1:=nd_mul_len B10_le p1 q2;have m2:=nd_mul_len B10_le p2 q1;have m3:=nd_mul_len B10_le q1 q2;have hq0:q1*q2≠0:=Nat.mul_ne_zero hq1 hq2;refine⟨0,?_⟩;unfold P.s_l01Sum;dsimp only;rw[sa_mul p1 q2 (by omega) (by omega),Option.bind_some,sa_mul p2 q1 (by omega) (by omega),Option.bind_some,sa_mul q1 q2 (by omega) (by omega),Option.bind_some];dsimp only;unfold addQ;dsimp only;have a1:=nd_add_len B10_le (p1*q2) (p2*q1);have a2:=nd_sub_len B10_le (p1*q2) (p2*q1);have a3:=nd_sub_len B10_le (p2*q1) (p1*q2)
 by_cases hn:n1=n2
 ·rw[if_pos (by simpa using hn),if_pos hn,sa_add _ _ (by omega) (by omega),Option.bind_some,sa_low n1 _ _ (by omega) (by omega) hq0,Option.bind_some]
 ·rw[if_neg (by simpa using hn),if_neg hn,sa_cmp _ _ (by omega),Option.bind_some];dsimp only;have hlt:=cmpN_lt (a:=p1*q2) (b:=p2*q1)
  by_cases hle:p2*q1<=p1*q2
  ·have hge:cmpN (p1*q2) (p2*q1)>=0:=by
    rcases Int.lt_or_le (cmpN (p1*q2) (p2*q1)) 0 with g|g
    ·have:=hlt.1 g;omega
    ·exact g
   rw[if_pos (decide_eq_true hge),if_pos hle,sa_sub _ _ (by omega) hle,Option.bind_some,sa_low n1 _ _ (by omega) (by omega) hq0,Option.bind_some]
  ·have hge:¬cmpN (p1*q2) (p2*q1)>=0:=by
    have:=hlt.2 (Nat.lt_of_not_le hle);omega
   rw[if_neg (by simpa using hge),if_neg hle,sa_sub _ _ (by omega) (Nat.le_of_lt (Nat.lt_of_not_le hle)),Option.bind_some,sa_low n2 _ _ (by omega) (by omega) hq0,Option.bind_some]
theorem rs_add {x y:Q3} {m n:Nat} (hx:low x) (bx:below m x) (hy:low y) (bY:below n y) (hm:m<=350000000) (hn:n<=350000000):S.s_l01Sum (rp B10 x,(rp B10 y,()))=some (rp B10 (addQ x y),()):=by
 unfold S.s_l01Sum;dsimp only;rw[if_pos ⟨lowb_rp9 (by decide) hx bx (by omega),lowb_rp9 (by decide) hy bY (by omega)⟩,rv_rp B10_le,rv_rp B10_le]
def P.s_l01Opposite (k:Nat) (x:RB×Unit):Option (RB×Unit):=
 if !x.1.1 then some ((decide ((x.1.2.1.length:Int)>0),x.1.2.1,x.1.2.2),())else some ((false,x.1.2.1,x.1.2.2),())
def S.s_l01Opposite (x:(RB×Unit)):(Option (RB×Unit)):=if rok B10 40000000 x.1=true then some (rp B10 (oppQ (rv B10 x.1)),())else none
theorem S.s_l01Opposite_ok (x r) (h:S.s_l01Opposite x=some r):∃k,P.s_l01Opposite k x=some r:=by
 obtain⟨x,u⟩:=x;unfold S.s_l01Opposite at h;dsimp only at h;split at h
 case isFalse=>cases h
 rename_i hc;cases h;refine⟨0,?_⟩;obtain⟨n,p,q,rfl,_,_⟩:=rok_nd hc;rw[rv_nd B10_le];unfold P.s_l01Opposite oppQ rp;dsimp only;rw[nd_len_pos B10_le];cases n
 ·rfl
 ·rfl
def P.s_l01Minus (k:Nat) (x:RB×RB×Unit):Option (RB×Unit):=
 (S.s_l01Opposite ((x.2.1.1,x.2.1.2.1,x.2.1.2.2),())).bind fun y0=>(S.s_l01Sum ((x.1.1,x.1.2.1,x.1.2.2),(y0.1.1,y0.1.2.1,y0.1.2.2),())).bind fun y1=>some ((y1.1.1,y1.1.2.1,y1.1.2.2),())
def S.s_l01Minus (x:(RB×(RB×Unit))):(Option (RB×Unit)):=if lowb B10 40000000 x.1=true/\lowb B10 40000000 x.2.1=true then some (rp B10 (addQ (rv B10 x.1) (oppQ (rv B10 x.2.1))),())else none
theorem S.s_l01Minus_ok (x r) (h:S.s_l01Minus x=some r):∃k,P.s_l01Minus k x=some r:=by
 obtain⟨x,y,u⟩:=x;unfold S.s_l01Minus at h;dsimp only at h;split at h
 case isFalse=>cases h
 rename_i hc;obtain⟨hx,hy⟩:=hc;cases h;have hy':=lowb_iff.1 hy;refine⟨0,?_⟩;have e1:S.s_l01Opposite (y,())=some (rp B10 (oppQ (rv B10 y)),()):=if_pos hy'.1;have hz:lowb B10 40000000 (rp B10 (oppQ (rv B10 y)))=true:=by
  rw[lowb_iff,rv_rp B10_le];obtain⟨n2,p2,q2,rfl,y1,y2⟩:=rok_nd hy'.1;rw[rv_nd B10_le]at hy' ⊢;exact⟨rok_iff.2 ⟨canon_nd B10_le _,canon_nd B10_le _,y1,y2⟩,oppQ_low _ hy'.2⟩
 have e2:S.s_l01Sum (x,(rp B10 (oppQ (rv B10 y)),()))=some (rp B10 (addQ (rv B10 x) (oppQ (rv B10 y))),()):=by
  unfold S.s_l01Sum;dsimp only;rw[if_pos ⟨hx,hz⟩,rv_rp B10_le]
 show Option.bind (S.s_l01Opposite (y,())) (fun y0=>Option.bind (S.s_l01Sum (x,(y0.1,()))) (fun y1=>some (y1.1,())))=_;rw[e1,Option.bind_some,e2,Option.bind_some]
theorem rs_sub {x y:Q3} {m n:Nat} (hx:low x) (bx:below m x) (hy:low y) (bY:below n y) (hm:m<=350000000) (hn:n<=350000000):S.s_l01Minus (rp B10 x,(rp B10 y,()))=some (rp B10 (addQ x (oppQ y)),()):=by
 unfold S.s_l01Minus;dsimp only;rw[if_pos ⟨lowb_rp9 (by decide) hx bx (by omega),lowb_rp9 (by decide) hy bY (by omega)⟩,rv_rp B10_le,rv_rp B10_le]
def P.s_l01Times (k:Nat) (x:RB×RB×Unit):Option (RB×Unit):=
 (S.s_l01NatMul (x.1.2.1,x.2.1.2.1,())).bind fun y0=>(S.s_l01NatMul (x.1.2.2,x.2.1.2.2,())).bind fun y1=>(S.s_l01Make (! (x.1.1==x.2.1.1),y0.1,y1.1,())).bind fun y2=>some ((y2.1.1,y2.1.2.1,y2.1.2.2),())
def S.s_l01Times (x:(RB×(RB×Unit))):(Option (RB×Unit)):=if lowb B10 40000000 x.1=true/\lowb B10 40000000 x.2.1=true then some (rp B10 (mulQ (rv B10 x.1) (rv B10 x.2.1)),())else none
theorem S.s_l01Times_ok (x r) (h:S.s_l01Times x=some r):∃k,P.s_l01Times k x=some r:=by
 obtain⟨x,y,u⟩:=x;unfold S.s_l01Times at h;dsimp only at h;split at h
 case isFalse=>cases h
 rename_i hc;obtain⟨hx,hy⟩:=hc;cases h;rw[lowb_iff]at hx hy;obtain⟨hx,lx⟩:=hx;obtain⟨hy,ly⟩:=hy;obtain⟨n1,p1,q1,rfl,x1,x2⟩:=rok_nd hx;obtain⟨n2,p2,q2,rfl,y1,y2⟩:=rok_nd hy;rw[rv_nd B10_le]at lx ly ⊢;rw[rv_nd B10_le];have hq1:0<q1:=lx.1;have hq2:0<q2:=ly.1;have m1:=nd_mul_len B10_le p1 p2;have m2:=nd_mul_len B10_le q1 q2;have mul:∀p q:Nat,(nd B10 p).length<=100000000->(nd B10 q).length<=100000000->S.s_l01NatMul (nd B10 p,(nd B10 q,()))=some (nd B10 (p*q),()):=by
  intro p q hp hq;unfold S.s_l01NatMul;dsimp only;rw[if_pos ⟨dig_nd B10_le _,dig_nd B10_le _,by omega,by omega⟩,dval_nd B10_le,dval_nd B10_le]
 refine⟨0,?_⟩;unfold P.s_l01Times mulQ;dsimp only;rw[mul p1 p2 (by omega) (by omega),Option.bind_some,mul q1 q2 (by omega) (by omega),Option.bind_some];unfold S.s_l01Make;dsimp only;rw[if_pos ⟨canon_nd B10_le _,canon_nd B10_le _,nd_ne B10_le (Nat.ne_of_gt (Nat.mul_pos hq1 hq2)),by omega,by omega⟩,Option.bind_some,dval_nd B10_le,dval_nd B10_le];rfl
theorem rs_mul {x y:Q3} {m n:Nat} (hx:low x) (bx:below m x) (hy:low y) (bY:below n y) (hm:m<=350000000) (hn:n<=350000000):S.s_l01Times (rp B10 x,(rp B10 y,()))=some (rp B10 (mulQ x y),()):=by
 unfold S.s_l01Times;dsimp only;rw[if_pos ⟨lowb_rp9 (by decide) hx bx (by omega),lowb_rp9 (by decide) hy bY (by omega)⟩,rv_rp B10_le,rv_rp B10_le]
abbrev P.s_l01Cut_b0 (x1:Int×ByteArray×Int×List ByteArray×Int×Unit) (g2:Int×ByteArray×Int×List ByteArray×Int×Unit->Option (List ByteArray×Unit)):Option (List ByteArray×Unit):=
 (fun(a c e:Int) (b:ByteArray) (d:List ByteArray)=>if decide (a<=(b.size:Int))then if a==(b.size:Int)then if decide (0<=a)then if decide (a<=(b.size:Int))then if decide (0<=e)then if decide (e<=a)then if decide (((d.length+(List.length [ByteArray.extract b e.toNat a.toNat]))*16)<=140737488355328)then g2 (wrap .i64 (a+1),b,c,d++[ByteArray.extract b e.toNat a.toNat],wrap .i64 (a+1),())else none else none else none else none else none else if decide (0<=a)then if decide (a<(b.size:Int))then if(byteAt b a)==c then if decide (0<=a)then if decide (a<=(b.size:Int))then if decide (0<=e)then if decide (e<=a)then if decide (((d.length+(List.length [ByteArray.extract b e.toNat a.toNat]))*16)<=140737488355328)then g2 (wrap .i64 (a+1),b,c,d++[ByteArray.extract b e.toNat a.toNat],wrap .i64 (a+1),())else none else none else none else none else none else g2 (wrap .i64 (a+1),b,c,d,e,())else none else none else some (d,())) x1.1 x1.2.2.1 x1.2.2.2.2.1 x1.2.1 x1.2.2.2.1
def P.s_l01Cut (k:Nat) (x:ByteArray×Int×Unit):Option (List ByteArray×Unit):=
 loopP P.s_l01Cut_b0 k (0,x.1,x.2.1,[],0,())
def cutUp (s:ByteArray) (c:Int):Nat->List ByteArray×Nat
 |0=>([],0)
 |i+1=>if i=s.size\/byteAt s (i:Int)=c then((cutUp s c i).1++[s.extract (cutUp s c i).2 i],i+1)else cutUp s c i
theorem cutUp_le (s:ByteArray) (c:Int) (i:Nat):(cutUp s c i).1.length<=i/\(cutUp s c i).2<=i:=by
 induction i with
 |zero=>exact⟨Nat.le_refl _,Nat.le_refl _⟩
 |succ i ih=>
  unfold cutUp;split
  ·refine⟨?_,Nat.le_refl _⟩;simp;omega
  ·omega
def S.s_l01Cut (x:(ByteArray×(Int×Unit))):(Option ((List ByteArray)×Unit)):=if x.1.size<=1000000 then some ((cutUp x.1 x.2.1 (x.1.size+1)).1,())else none
theorem S.s_l01Cut_ok (x r) (h:S.s_l01Cut x=some r):∃k,P.s_l01Cut k x=some r:=by
 obtain⟨s,c,u⟩:=x;unfold S.s_l01Cut at h;dsimp only at h;split at h
 case isFalse=>cases h
 rename_i hs;cases h;refine⟨s.size+2,?_⟩;unfold P.s_l01Cut;dsimp only;have key:=loop_up0 (k:=s.size+2) (b:=P.s_l01Cut_b0) (n:=s.size+1) (st:=fun i=>((i:Int),s,c,(cutUp s c i).1,((cutUp s c i).2:Int),())) (F:=fun i=>some ((cutUp s c (s.size+1)).1,())) (fun i g hi hg=>by
  unfold P.s_l01Cut_b0;dsimp only at hg ⊢;obtain⟨q1,q2⟩:=cutUp_le s c i;have e1:(i:Int)<=(s.size:Int):=by omega
  have e2:(0:Int)<=(i:Int):=by omega
  have e3:(0:Int)<=((cutUp s c i).2:Int):=by omega
  have e4:((cutUp s c i).2:Int)<=(i:Int):=by omega
  have e5:((cutUp s c i).1.length+([s.extract (cutUp s c i).2 i]:List ByteArray).length)*16<=140737488355328:=by simp;omega
  rw[cutUp]at hg
  by_cases hq:i=s.size
  ·rw[if_pos (.inl hq)]at hg;rw[<-hg];have e6:((i:Int)==(s.size:Int))=true:=by simp [hq]
   simp only[e1,e2,e3,e4,e6,decide_true,if_true,Int.toNat_natCast];rw[if_pos (decide_eq_true e5),wr (by omega) (by omega)];rfl
  ·have e6:¬((i:Int)==(s.size:Int))=true:=by simp;omega
   have e7:(i:Int)<(s.size:Int):=by omega
   rw[if_pos (decide_eq_true e1),if_neg e6,if_pos (decide_eq_true e2),if_pos (decide_eq_true e7)]
   by_cases hb:byteAt s (i:Int)=c
   ·rw[if_pos (.inr hb)]at hg;rw[<-hg,if_pos (by simp [hb])];simp only[e1,e2,e3,e4,decide_true,if_true,Int.toNat_natCast];rw[if_pos (decide_eq_true e5),wr (by omega) (by omega)];rfl
   ·rw[if_neg (fun z=>z.elim hq hb)]at hg;rw[<-hg,if_neg (by simp [hb]),wr (by omega) (by omega)];rfl) (fun g=>by
  unfold P.s_l01Cut_b0;dsimp only;rw[if_neg (by simp;omega)]) (by omega)
 exact key
theorem cutUp_pieces (s:ByteArray) (c:UInt8):(cutUp s (c.toNat:Int) (s.size+1)).1.map (·.data.toList)=pieces c s.data.toList:=by
 have hsz:s.size=s.data.toList.length:=by rw[Array.length_toList];rfl
 have hex:∀a b,(s.extract a b).data.toList=(s.data.toList.take b).drop a:=by
  intro a b;simp [ByteArray.data_extract,Array.toList_extract,List.extract_eq_take_drop,List.drop_take]
 have key:∀i,i<=s.size->pieces c s.data.toList=(cutUp s (c.toNat:Int) i).1.map (·.data.toList)++glue ((s.data.toList.take i).drop (cutUp s (c.toNat:Int) i).2) (pieces c (s.data.toList.drop i)):=by
  intro i
  induction i with
  |zero=>
   intro _;simp [cutUp,glue_nil (pieces_ne c _)]
  |succ i ih=>
   intro hi;rw[ih (by omega)];obtain⟨q1,q2⟩:=cutUp_le s (c.toNat:Int) i;have hi':i<s.data.toList.length:=by omega
   have hb:byteAt s (i:Int)=(s.data.toList[i].toNat:Int):=by
    unfold byteAt;rw[getD_cast _ i _ hi']
   rw[List.drop_eq_getElem_cons hi',cutUp,pieces]
   by_cases hc:s.data.toList[i]=c
   ·rw[if_pos hc,if_pos (.inr (by rw[hb,hc]))];simp only[List.map_append,List.map_cons,List.map_nil,hex,List.append_assoc];congr 1;rw[show List.drop (i+1) (List.take (i+1) s.data.toList)=[]from List.drop_eq_nil_of_le (by simp;omega),glue_nil (pieces_ne c _)];simp [glue]
   ·rw[if_neg hc,if_neg (by
     rw[hb]
     rintro (h|h)
     ·omega
     ·exact hc (UInt8.toNat_inj.1 (by omega)))]
    rw[glue_glue,<-List.take_append_getElem hi',List.drop_append_of_le_length (by simp;omega)]
 have h:=key s.size (Nat.le_refl _);rw[h,cutUp,if_pos (.inl rfl)];simp only[List.map_append,List.map_cons,List.map_nil,hex];congr 1;rw[show List.drop s.size s.data.toList=[]from List.drop_eq_nil_of_le (by omega)];simp [pieces,glue]
abbrev s_l01NatRead.A:=Int×ByteArray×List Int×Unit
abbrev P.s_l01NatRead_b3 (g2:s_l01NatRead.A->Option (List Int×Unit)) (x4:Int×Int×s_l01NatRead.A) (g5:Int×Int×s_l01NatRead.A->Option (List Int×Unit)):Option (List Int×Unit):=
 (fun(a b c:Int) (d:ByteArray) (e:List Int)=>if decide (a<b)then if decide (0<=a)then if decide (a<(d.size:Int))then g5 (wrap .i64 (a+1),b,wrap .i64 ((wrap .i64 (10*c))+(wrap .i64 (wrap .u8 ((byteAt d a) - 48)))),d,e,())else none else none else if decide (((e.length+(List.length [c]))*8)<=140737488355328)then g2 (wrap .i64 (b - 9),d,e++[c],())else none) x4.1 x4.2.1 x4.2.2.1 x4.2.2.2.1 x4.2.2.2.2.1
abbrev P.s_l01NatRead_b0 (k:Nat) (x1:s_l01NatRead.A) (g2:s_l01NatRead.A->Option (List Int×Unit)):Option (List Int×Unit):=
 if decide (x1.1>0)then if decide (x1.1>9)then loopP (P.s_l01NatRead_b3 g2) k (wrap .i64 (x1.1 - 9),x1.1,0,x1.2.1,x1.2.2.1,())else loopP (P.s_l01NatRead_b3 g2) k (0,x1.1,0,x1.2.1,x1.2.2.1,())else(S.s_l01Trim (x1.2.2.1,())).bind fun y9=>some (y9.1,())
def P.s_l01NatRead (k:Nat) (x:ByteArray×Unit):Option (List Int×Unit):=
 loopP (P.s_l01NatRead_b0 k) k ((x.1.size:Int),x.1,[],())
theorem sr_inner (g) (s:ByteArray) (l:List UInt8) (hL:s.data.toList=l) (hd:allD l=true) (a n:Nat) (hn:n<=9) (han:a+n<=l.length) (hl:l.length<=1000000000) (out:List Int) (ho:out.length<=1000000000) (k:Nat) (hk:n<k):
  loopP (P.s_l01NatRead_b3 g) k ((a:Int),(((a+n:Nat):Int),((0:Int),(s,(out,())))))=g (((a+n:Nat):Int) - 9,(s,(out++[((dv ((l.drop a).take n):Nat):Int)],()))):=by
 have hs:s.size=l.length:=by rw[<-hL,Array.length_toList];rfl
 have key:=loop_up0 (k:=k) (b:=P.s_l01NatRead_b3 g) (n:=n) (st:=fun i=>(((a+i:Nat):Int),((a+n:Nat):Int),((dv ((l.drop a).take i):Nat):Int),s,out,())) (F:=fun i=>g (((a+n:Nat):Int) - 9,(s,(out++[((dv ((l.drop a).take n):Nat):Int)],())))) (fun i g' hi hg'=>by
  unfold P.s_l01NatRead_b3;dsimp only at hg' ⊢;refine Eq.trans ?_ hg';have hi2:i<(l.drop a).length:=by rw[List.length_drop];omega
  have e1:((a+i:Nat):Int)<((a+n:Nat):Int):=by omega
  have e2:(0:Int)<=((a+i:Nat):Int):=by omega
  have e3:((a+i:Nat):Int)<(l.length:Int):=by omega
  have hb:byteAt s ((a+i:Nat):Int)=(((l.drop a)[i]).toNat:Int):=by
   unfold byteAt;rw[hL,getD_cast l (a+i) _ (by omega),List.getElem_drop]
  have hc:=allD_get (allD_drop hd a) hi2;have hv:=dv_lt (allD_take (allD_drop hd a) i);have hp:10^((l.drop a).take i).length<=10^9:=Nat.pow_le_pow_right (by decide) (by simp;omega);have hp9:(10:Nat)^9=1000000000:=by decide
  rw[hs,hb,wr (x:=((a+i:Nat):Int)+1) (by omega) (by omega)];simp only[e1,e2,e3,decide_true,if_true];rw[<-List.take_append_getElem hi2,dv_snoc];generalize (l.drop a)[i].toNat=c at*;generalize dv ((l.drop a).take i)=v at*;have h8:IntKind.wrap .u8 ((c:Int) - 48)=(c:Int) - 48:=IntWalk.u8_in _ (by omega);rw[h8,wr (x:=(c:Int) - 48) (by omega) (by omega),wr (x:=10*(v:Int)) (by omega) (by omega),wr (x:=10*(v:Int)+((c:Int) - 48)) (by omega) (by omega),show 10*(v:Int)+((c:Int) - 48)=((10*v+(c - 48):Nat):Int) by omega];rfl) (fun g'=>by
  unfold P.s_l01NatRead_b3;dsimp only;have hcap:(out.length+ [((dv ((l.drop a).take n):Nat):Int)].length)*8<=140737488355328:=by
   rw[List.length_singleton];omega
  rw[if_neg (by simp),if_pos (decide_eq_true hcap),wr (by omega) (by omega)]) hk
 exact key
theorem sr_outer (s:ByteArray) (l:List UInt8) (hL:s.data.toList=l) (hd:allD l=true) (hl:l.length<=1000000000) (K:Nat) (hK:9<K) (n:Nat):∀(to:Int) (out:List Int) (k:Nat),to<=(n:Int)-> -9<=to->to<=(l.length:Int)->n<k->dig B10 out=true->out.length+n<=l.length->dval B10 out+B10^out.length*dv (l.take to.toNat)=dv l->
  loopP (P.s_l01NatRead_b0 K) k (to,(s,(out,())))=some (nd B10 (dv l),()):=by
 induction n using Nat.strongRecOn with
 |ind n ih=>
  intro to out k hto hlo htl hk hdo hol hv;obtain⟨k,rfl⟩:∃j,k=j+1:=⟨k - 1,by omega⟩
  rw[loopP_succ];unfold P.s_l01NatRead_b0;dsimp only
  by_cases h0:to>0
  ·rw[if_pos (decide_eq_true h0)];obtain⟨m,rfl⟩:∃m:Nat,to=(m:Int):=⟨to.toNat,by omega⟩
   rw[Int.toNat_natCast]at hv;have hB9:B10=10^9:=by decide
   have hstep:∀a c:Nat,c<=9->a+c=m->(c=9\/a=0)->loopP (P.s_l01NatRead_b3 (loopP (P.s_l01NatRead_b0 K) k)) K ((a:Int),((m:Int),((0:Int),(s,(out,())))))=some (nd B10 (dv l),()):=by
    intro a c hc9 hm hor;have hin:=sr_inner (loopP (P.s_l01NatRead_b0 K) k) s l hL hd a c hc9 (by omega) hl out (by omega) K (by omega);rw[hm]at hin;rw[hin];have htk:l.take m=l.take a++(l.drop a).take c:=by rw[<-hm,List.take_add]
    have hpc:((l.drop a).take c).length=c:=by simp;omega
    have hpd:=dv_lt (allD_take (allD_drop hd a) c);rw[hpc]at hpd;have hp9:10^c<=10^9:=Nat.pow_le_pow_right (by decide) hc9;have hpB:dv ((l.drop a).take c)<B10:=by rw[hB9];omega
    have hta:l.take ((m:Int) - 9).toNat=l.take a:=by
     rcases hor with g|g
     ·rw[show((m:Int) - 9).toNat=a by omega]
     ·subst g;rw[show((m:Int) - 9).toNat=0 by omega]
    refine ih (n - 1) (by omega) _ _ k (by omega) (by omega) (by omega) (by omega) ?_ (by rw[List.length_append,List.length_singleton];omega) ?_
    ·rw[dig_append,hdo,Bool.true_and,dig_cons];exact⟨⟨by omega,by omega⟩,rfl⟩
    ·rw[hta,dval_append,List.length_append,List.length_singleton,Nat.pow_succ,<-hv,htk,dv_append,hpc];have e1:dval B10 [((dv ((l.drop a).take c):Nat):Int)]=dv ((l.drop a).take c):=by rw[dval,Int.toNat_natCast];rfl
     rw[e1];rcases hor with g|g
     ·rw[g,<-hB9,Nat.mul_assoc,Nat.mul_add,Nat.mul_comm B10];omega
     ·subst g;have:dv (l.take 0)=0:=by rw[List.take_zero];rfl
      rw[this,Nat.mul_zero,Nat.zero_mul,Nat.zero_add];omega
   by_cases h9:(m:Int)>9
   ·rw[if_pos (decide_eq_true h9),wr (by omega) (by omega),show(m:Int) - 9=((m - 9:Nat):Int) by omega];exact hstep (m - 9) 9 (Nat.le_refl _) (by omega) (.inl rfl)
   ·rw[if_neg (by simpa using h9)];exact hstep 0 m (by omega) (by omega) (.inr rfl)
  ·rw[if_neg (by simpa using h0)];have h00:to.toNat=0:=by omega
   rw[h00,List.take_zero,show dv []=0 from rfl,Nat.mul_zero,Nat.add_zero]at hv;unfold S.s_l01Trim;dsimp only;rw[if_pos ⟨hdo,by omega⟩,Option.bind_some,hv]
def S.s_l01NatRead (x:(ByteArray×Unit)):(Option ((List Int)×Unit)):=if allD x.1.data.toList=true/\x.1.data.toList.length<=1000000000 then some (nd B10 (dv x.1.data.toList),())else none
theorem S.s_l01NatRead_ok (x r) (h:S.s_l01NatRead x=some r):∃k,P.s_l01NatRead k x=some r:=by
 obtain⟨s,u⟩:=x;unfold S.s_l01NatRead at h;dsimp only at h;split at h
 case isFalse=>cases h
 rename_i hc;obtain⟨hd,hl⟩:=hc;cases h;have hs:s.size=s.data.toList.length:=by rw[Array.length_toList];rfl
 refine⟨s.data.toList.length+10,?_⟩;unfold P.s_l01NatRead;dsimp only;rw[hs];exact sr_outer s _ rfl hd hl _ (by omega) s.data.toList.length _ [] _ (Int.le_refl _) (by omega) (Int.le_refl _) (by omega) rfl (by simp) (by rw[Int.toNat_natCast,List.take_length];simp [dval])
abbrev P.s_l01Digits_b0 (x1:Int×ByteArray×Unit) (g2:Int×ByteArray×Unit->Option (Bool×Unit)):Option (Bool×Unit):=
 (fun(a:Int) (b:ByteArray)=>if decide (a<(b.size:Int))then if decide (0<=a)then if decide (a<(b.size:Int))then if decide ((byteAt b a)<48)then some (false,())else if decide (0<=a)then if decide (a<(b.size:Int))then if decide ((byteAt b a)>57)then some (false,())else g2 (wrap .i64 (a+1),b,())else none else none else none else none else if decide ((b.size:Int)>=1)then if decide ((b.size:Int)<=200)then if(b.size:Int)==1 then some (true,())else if decide (0<(b.size:Int))then some ((byteAt b 0) != 48,())else none else some (false,())else some (false,())) x1.1 x1.2.1
def P.s_l01Digits (k:Nat) (x:ByteArray×Unit):Option (Bool×Unit):=
 loopP P.s_l01Digits_b0 k (0,x.1,())
def S.s_l01Digits (x:(ByteArray×Unit)):(Option (Bool×Unit)):=if x.1.size<=281474976710656 then some (okN x.1.data.toList,())else none
theorem S.s_l01Digits_ok (x r) (h:S.s_l01Digits x=some r):∃k,P.s_l01Digits k x=some r:=by
 obtain⟨s,u⟩:=x;unfold S.s_l01Digits at h;dsimp only at h;split at h
 case isFalse=>cases h
 rename_i hsz;cases h;have hs:s.size=s.data.toList.length:=by rw[Array.length_toList];rfl
 rw[hs]at hsz;refine⟨s.data.toList.length+1,?_⟩;unfold P.s_l01Digits;dsimp only;generalize hL:s.data.toList=l at*;have key:=loop_up0 (k:=l.length+1) (b:=P.s_l01Digits_b0) (n:=l.length) (st:=fun i=>((i:Int),s,())) (F:=fun i=>some (allD (l.drop i)&&okR l,())) (fun i g hi hg=>by
  unfold P.s_l01Digits_b0;dsimp only at hg ⊢;have e1:(i:Int)<(l.length:Int):=by omega
  have e2:(0:Int)<=(i:Int):=by omega
  have hb:byteAt s (i:Int)=(l[i].toNat:Int):=by
   unfold byteAt;rw[hL,getD_cast l i _ hi]
  have ha:allD (l.drop i)=(isD l[i]&&allD (l.drop (i+1))):=by
   rw[List.drop_eq_getElem_cons hi];rfl
  rw[hs,hb,wr (x:=(i:Int)+1) (by omega) (by omega),ha];simp only[e1,e2,decide_true,if_true];unfold isD
  by_cases c1:48<=l[i].toNat
  ·rw[if_neg (by simp;omega)]
   by_cases c2:l[i].toNat<=57
   ·rw[if_neg (by simp;omega),decide_eq_true ⟨c1,c2⟩,Bool.true_and];exact hg
   ·rw[if_pos (decide_eq_true (by omega)),decide_eq_false (fun q=>c2 q.2)];rfl
  ·rw[if_pos (decide_eq_true (by omega)),decide_eq_false (fun q=>c1 q.1)];rfl) (fun g=>by
  unfold P.s_l01Digits_b0;dsimp only;rw[hs,if_neg (by simp),List.drop_length,show allD []=true from rfl,Bool.true_and];unfold okR
  by_cases h1:l=[]
  ·subst h1;rfl
  ·have hpos:0<l.length:=List.length_pos_iff.2 h1;have d1:(l.length:Int)>=1:=by omega
   rw[if_pos (decide_eq_true d1),decide_eq_true h1,Bool.true_and]
   by_cases h2:l.length<=200
   ·have d2:(l.length:Int)<=200:=by omega
    rw[if_pos (decide_eq_true d2),decide_eq_true h2,Bool.true_and]
    by_cases h3:l.length=1
    ·have d3:(((l.length:Nat):Int)==(1:Int))=true:=by simp [h3]
     rw[if_pos d3,decide_eq_true h3,Bool.true_or]
    ·have d3:¬(((l.length:Nat):Int)==(1:Int))=true:=by simp;omega
     have d4:(0:Int)<(l.length:Int):=by omega
     rw[if_neg d3,if_pos (decide_eq_true d4),decide_eq_false h3,Bool.false_or];have hb:byteAt s 0=(l[0].toNat:Int):=by
      unfold byteAt;rw[hL];simp [hpos]
     have hh:l.head? =some l[0]:=by
      cases l with
      |nil=>simp at h1
      |cons c r=>rfl
     rw[hb,hh]
     by_cases c1:l[0]=48
     ·rw[c1];rfl
     ·have:¬((l[0].toNat:Int)=48):=by
       intro q;apply c1;apply UInt8.toNat_inj.1;show _=48;omega
      rw[decide_eq_true (by simpa using c1)];simpa [bne]using this
   ·have d2:¬(l.length:Int)<=200:=by omega
    rw[if_neg (by simpa using d2),decide_eq_false h2,Bool.false_and]) (by omega)
 rw[List.drop_zero]at key;exact key
def P.s_l01Parse (k:Nat) (x:ByteArray×Unit):Option ((RB×Bool)×Unit):=
 if decide ((x.1.size:Int)>0)then if decide (0<(x.1.size:Int))then if(byteAt x.1 0)==45 then if decide (0<=(x.1.size:Int))then if decide ((x.1.size:Int)<=(x.1.size:Int))then if decide (1<=(x.1.size:Int))then(S.s_l01Cut (ByteArray.extract x.1 1 (Int.toNat (x.1.size:Int)),47,())).bind fun y0=>if decide ((y0.1.length:Int)>2)then some (((false,[],[]),false),())else if decide (0<(y0.1.length:Int))then(S.s_l01Digits (y0.1.getD 0 (bs []),())).bind fun y1=>if !y1.1 then some (((false,[],[]),false),())else if decide (0<(y0.1.length:Int))then(S.s_l01NatRead (y0.1.getD 0 (bs []),())).bind fun y2=>if(byteAt x.1 0)==45 then if(y2.1.length:Int)==0 then some (((false,[],[]),false),())else if(y0.1.length:Int)==1 then some ((((byteAt x.1 0)==45,y2.1,[1]),true),())else if decide (1<(y0.1.length:Int))then(S.s_l01Digits (y0.1.getD 1 (bs []),())).bind fun y3=>if !y3.1 then some (((false,[],[]),false),())else if decide (1<(y0.1.length:Int))then(S.s_l01NatRead (y0.1.getD 1 (bs []),())).bind fun y4=>(S.s_l01Cmp (y4.1,[1],())).bind fun y5=>if decide (y5.1<=0)then some (((false,[],[]),false),())else(S.s_l01Gcd (y2.1,y4.1,())).bind fun y6=>(S.s_l01Cmp (y6.1,[1],())).bind fun y7=>if y7.1 != 0 then some (((false,[],[]),false),())else some ((((byteAt x.1 0)==45,y2.1,y4.1),true),())else none else none else if(y0.1.length:Int)==1 then some ((((byteAt x.1 0)==45,y2.1,[1]),true),())else if decide (1<(y0.1.length:Int))then(S.s_l01Digits (y0.1.getD 1 (bs []),())).bind fun y8=>if !y8.1 then some (((false,[],[]),false),())else if decide (1<(y0.1.length:Int))then(S.s_l01NatRead (y0.1.getD 1 (bs []),())).bind fun y9=>(S.s_l01Cmp (y9.1,[1],())).bind fun y10=>if decide (y10.1<=0)then some (((false,[],[]),false),())else(S.s_l01Gcd (y2.1,y9.1,())).bind fun y11=>(S.s_l01Cmp (y11.1,[1],())).bind fun y12=>if y12.1 != 0 then some (((false,[],[]),false),())else some ((((byteAt x.1 0)==45,y2.1,y9.1),true),())else none else none else none else none else none else none else none else(S.s_l01Cut (x.1,47,())).bind fun y13=>if decide ((y13.1.length:Int)>2)then some (((false,[],[]),false),())else if decide (0<(y13.1.length:Int))then(S.s_l01Digits (y13.1.getD 0 (bs []),())).bind fun y14=>if !y14.1 then some (((false,[],[]),false),())else if decide (0<(y13.1.length:Int))then(S.s_l01NatRead (y13.1.getD 0 (bs []),())).bind fun y15=>if(byteAt x.1 0)==45 then if(y15.1.length:Int)==0 then some (((false,[],[]),false),())else if(y13.1.length:Int)==1 then some ((((byteAt x.1 0)==45,y15.1,[1]),true),())else if decide (1<(y13.1.length:Int))then(S.s_l01Digits (y13.1.getD 1 (bs []),())).bind fun y16=>if !y16.1 then some (((false,[],[]),false),())else if decide (1<(y13.1.length:Int))then(S.s_l01NatRead (y13.1.getD 1 (bs []),())).bind fun y17=>(S.s_l01Cmp (y17.1,[1],())).bind fun y18=>if decide (y18.1<=0)then some (((false,[],[]),false),())else(S.s_l01Gcd (y15.1,y17.1,())).bind fun y19=>(S.s_l01Cmp (y19.1,[1],())).bind fun y20=>if y20.1 != 0 then some (((false,[],[]),false),())else some ((((byteAt x.1 0)==45,y15.1,y17.1),true),())else none else none else if(y13.1.length:Int)==1 then some ((((byteAt x.1 0)==45,y15.1,[1]),true),())else if decide (1<(y13.1.length:Int))then(S.s_l01Digits (y13.1.getD 1 (bs []),())).bind fun y21=>if !y21.1 then some (((false,[],[]),false),())else if decide (1<(y13.1.length:Int))then(S.s_l01NatRead (y13.1.getD 1 (bs []),())).bind fun y22=>(S.s_l01Cmp (y22.1,[1],())).bind fun y23=>if decide (y23.1<=0)then some (((false,[],[]),false),())else(S.s_l01Gcd (y15.1,y22.1,())).bind fun y24=>(S.s_l01Cmp (y24.1,[1],())).bind fun y25=>if y25.1 != 0 then some (((false,[],[]),false),())else some ((((byteAt x.1 0)==45,y15.1,y22.1),true),())else none else none else none else none else none else(S.s_l01Cut (x.1,47,())).bind fun y26=>if decide ((y26.1.length:Int)>2)then some (((false,[],[]),false),())else if decide (0<(y26.1.length:Int))then(S.s_l01Digits (y26.1.getD 0 (bs []),())).bind fun y27=>if !y27.1 then some (((false,[],[]),false),())else if decide (0<(y26.1.length:Int))then(S.s_l01NatRead (y26.1.getD 0 (bs []),())).bind fun y28=>if(y26.1.length:Int)==1 then some (((false,y28.1,[1]),true),())else if decide (1<(y26.1.length:Int))then(S.s_l01Digits (y26.1.getD 1 (bs []),())).bind fun y29=>if !y29.1 then some (((false,[],[]),false),())else if decide (1<(y26.1.length:Int))then(S.s_l01NatRead (y26.1.getD 1 (bs []),())).bind fun y30=>(S.s_l01Cmp (y30.1,[1],())).bind fun y31=>if decide (y31.1<=0)then some (((false,[],[]),false),())else(S.s_l01Gcd (y28.1,y30.1,())).bind fun y32=>(S.s_l01Cmp (y32.1,[1],())).bind fun y33=>if y33.1 != 0 then some (((false,[],[]),false),())else some (((false,y28.1,y30.1),true),())else none else none else none else none
theorem pp_sign (T:ByteArray) (n:Bool) (hsz:T.size<=1000000):
  (Option.bind (S.s_l01Cut (T,((47:Int),()))) (fun(z0:((List ByteArray)×Unit))=>(if((decide (((List.length z0.1):Int)>(2:Int)))=true)then(some (((false,(([]:List Int),([]:List Int))),false),()))
 else(if((decide ((0:Int)<((List.length z0.1):Int)))=true)then(Option.bind (S.s_l01Digits ((List.getD z0.1 (0:Nat) (Go.Cm.bs [])),())) (fun(z1:(Bool×Unit))=>(if((!z1.1)=true)then(some (((false,(([]:List Int),([]:List Int))),false),()))
 else(if((decide ((0:Int)<((List.length z0.1):Int)))=true)then(Option.bind (S.s_l01NatRead ((List.getD z0.1 (0:Nat) (Go.Cm.bs [])),())) (fun(z2:((List Int)×Unit))=>(if(n=true)then(if((((List.length z2.1):Int)==(0:Int))=true)then(some (((false,(([]:List Int),([]:List Int))),false),()))
 else(if((((List.length z0.1):Int)==(1:Int))=true)then(some (((n,(z2.1,((1:Int)::([]:List Int)))),true),()))
 else(if((decide ((1:Int)<((List.length z0.1):Int)))=true)then(Option.bind (S.s_l01Digits ((List.getD z0.1 (1:Nat) (Go.Cm.bs [])),())) (fun(z3:(Bool×Unit))=>(if((!z3.1)=true)then(some (((false,(([]:List Int),([]:List Int))),false),()))
 else(if((decide ((1:Int)<((List.length z0.1):Int)))=true)then(Option.bind (S.s_l01NatRead ((List.getD z0.1 (1:Nat) (Go.Cm.bs [])),())) (fun(z4:((List Int)×Unit))=>(Option.bind (S.s_l01Cmp (z4.1,(((1:Int)::([]:List Int)),()))) (fun(z5:(Int×Unit))=>(if((decide (z5.1<=(0:Int)))=true)then(some (((false,(([]:List Int),([]:List Int))),false),()))
 else(Option.bind (S.s_l01Gcd (z2.1,(z4.1,()))) (fun(z6:((List Int)×Unit))=>(Option.bind (S.s_l01Cmp (z6.1,(((1:Int)::([]:List Int)),()))) (fun(z7:(Int×Unit))=>(if((z7.1 != (0:Int))=true)then(some (((false,(([]:List Int),([]:List Int))),false),()))
 else(some (((n,(z2.1,z4.1)),true),()))))))))))))
 else none))))
 else none)))
 else(if((((List.length z0.1):Int)==(1:Int))=true)then(some (((n,(z2.1,((1:Int)::([]:List Int)))),true),()))
 else(if((decide ((1:Int)<((List.length z0.1):Int)))=true)then(Option.bind (S.s_l01Digits ((List.getD z0.1 (1:Nat) (Go.Cm.bs [])),())) (fun(z8:(Bool×Unit))=>(if((!z8.1)=true)then(some (((false,(([]:List Int),([]:List Int))),false),()))
 else(if((decide ((1:Int)<((List.length z0.1):Int)))=true)then(Option.bind (S.s_l01NatRead ((List.getD z0.1 (1:Nat) (Go.Cm.bs [])),())) (fun(z9:((List Int)×Unit))=>(Option.bind (S.s_l01Cmp (z9.1,(((1:Int)::([]:List Int)),()))) (fun(z10:(Int×Unit))=>(if((decide (z10.1<=(0:Int)))=true)then(some (((false,(([]:List Int),([]:List Int))),false),()))
 else(Option.bind (S.s_l01Gcd (z2.1,(z9.1,()))) (fun(z11:((List Int)×Unit))=>(Option.bind (S.s_l01Cmp (z11.1,(((1:Int)::([]:List Int)),()))) (fun(z12:(Int×Unit))=>(if((z12.1 != (0:Int))=true)then(some (((false,(([]:List Int),([]:List Int))),false),()))
 else(some (((n,(z2.1,z9.1)),true),()))))))))))))
 else none))))
 else none)))))
 else none))))
 else none))))=some ((rp B10 (rdBody n (cutP 47 T.data.toList)).1,(rdBody n (cutP 47 T.data.toList)).2),()):=by
 have hbad:((false,(([]:List Int),([]:List Int))),false)=(rp B10 noQ.1,noQ.2):=by
  unfold noQ rp;dsimp only;rw[nd_zero B10_le]
 have hcut:S.s_l01Cut (T,(47,()))=some ((cutUp T 47 (T.size+1)).1,()):=by
  unfold S.s_l01Cut;exact if_pos hsz
 have hp:(cutUp T 47 (T.size+1)).1.map (·.data.toList)=pieces 47 T.data.toList:=cutUp_pieces T 47;have hlen:∀A∈(cutUp T 47 (T.size+1)).1,A.data.toList.length<=1000000:=by
  intro A hA;have h1:=pieces_len 47 T.data.toList A.data.toList (by rw[<-hp];exact List.mem_map_of_mem hA);have h2:T.size=T.data.toList.length:=by rw[Array.length_toList];rfl
  omega
 rw[hcut,Option.bind_some,hbad];generalize (cutUp T 47 (T.size+1)).1=ps at*;rw[pieces_cutP]at hp;generalize hc:cutP 47 T.data.toList=c at*;have hDig:∀A∈ps,S.s_l01Digits (A,())=some (okN A.data.toList,()):=by
  intro A hA;have h1:=hlen A hA;have h2:A.size=A.data.toList.length:=by rw[Array.length_toList];rfl
  unfold S.s_l01Digits;exact if_pos (by dsimp only;omega)
 have hRead:∀A∈ps,okN A.data.toList=true->S.s_l01NatRead (A,())=some (nd B10 (dv A.data.toList),()):=by
  intro A hA hok;have h1:=okN_allD hok;unfold S.s_l01NatRead;exact if_pos ⟨h1.1,by dsimp only;omega⟩
 have hz:∀m:Nat,(((nd B10 m).length:Int)==0)=decide (m=0):=by
  intro m;have:=canon_nil B10_le (canon_nd B10_le m);rw[dval_nd B10_le]at this
  by_cases h0:m=0
  ·rw[this.2 h0,h0];rfl
  ·have hne:=fun q=>h0 (this.1 q)
   rw[decide_eq_false h0];simpa using hne
 have hone:([1]:List Int)=nd B10 1:=(nd_one B10_le).symm;unfold rdBody;cases hf:c.2.2
 ·
  rw[hf,if_neg (by decide)]at hp;obtain⟨A,rfl,hA⟩:∃A,ps=[A]/\A.data.toList=c.1:=by
   exact List.map_eq_singleton_iff.1 hp
  have hd:=hDig A (by simp);have hr:=hRead A (by simp);rw[hA]at hd hr;have l1:¬(((List.length [A]:Nat):Int)>2):=by simp
  have l2:(0:Int)<((List.length [A]:Nat):Int):=by simp
  have l3:(((List.length [A]:Nat):Int)==1)=true:=rfl;simp only[l1,l2,l3,decide_true,decide_false,if_true,if_false,Bool.false_eq_true,List.getD_cons_zero];rw[hd,Option.bind_some];dsimp only;cases hok:okN c.1
  ·rw[if_pos (show(!false)=true by rfl),if_neg (fun q=>by cases q.1)]
  ·rw[if_neg (show ¬((!true)=true) by decide),hr hok,Option.bind_some];dsimp only;rw[hz];cases n
   ·rw[if_neg (show ¬((false:Bool)=true) by decide),if_pos ⟨rfl,fun q=>by cases q.1⟩,hone];rfl
   ·rw[if_pos rfl]
    by_cases h0:dv c.1=0
    ·rw[if_pos (decide_eq_true h0),if_neg (fun q=>q.2 ⟨rfl,h0⟩)]
    ·rw[if_neg (by simpa using h0),if_pos ⟨rfl,fun q=>h0 q.2⟩,hone];rfl
 ·rw[hf,if_pos rfl,pieces_cutP]at hp;cases hf2:(cutP 47 c.2.1).2.2
  ·rw[hf2,if_neg (by decide)]at hp;have hy:(cutP 47 c.2.1).1=c.2.1:=((cutP_index 47 c.2.1).1 hf2).2.1;rw[hy]at hp;obtain⟨A,B,rfl,hA,hB⟩:∃A B,ps=[A,B]/\A.data.toList=c.1/\B.data.toList=c.2.1:=by
    obtain⟨A,q,rfl,hA,hq⟩:=List.map_eq_cons_iff.1 hp;obtain⟨B,rfl,hB⟩:=List.map_eq_singleton_iff.1 hq;exact⟨A,B,rfl,hA,hB⟩
   have hd:=hDig A (by simp);have hr:=hRead A (by simp);have hd2:=hDig B (by simp);have hr2:=hRead B (by simp);rw[hA]at hd hr;rw[hB]at hd2 hr2;have l1:¬(((List.length [A,B]:Nat):Int)>2):=by simp
   have l2:(0:Int)<((List.length [A,B]:Nat):Int):=by simp
   have l3:(((List.length [A,B]:Nat):Int)==1)=false:=rfl;have l4:(1:Int)<((List.length [A,B]:Nat):Int):=by simp
   simp only[l1,l2,l3,l4,decide_true,decide_false,if_true,if_false,Bool.false_eq_true,List.getD_cons_zero,List.getD_cons_succ];rw[hd,Option.bind_some];dsimp only;cases hok:okN c.1
   ·rw[if_pos (show(!false)=true by rfl),if_neg (fun q=>by cases q.1)]
   ·rw[if_neg (show ¬((!true)=true) by decide),hr hok,Option.bind_some];dsimp only;have la:=nd_len200 (B:=B10) (by decide) (okN_lt hok);have hrest:∀(m:Bool),¬(m=true/\dv c.1=0)->(Option.bind (S.s_l01Digits (B,())) (fun(w0:(Bool×Unit))=>(if((!w0.1)=true)then(some ((rp B10 noQ.1,noQ.2),()))
 else(Option.bind (S.s_l01NatRead (B,())) (fun(w1:((List Int)×Unit))=>(Option.bind (S.s_l01Cmp (w1.1,(((1:Int)::([]:List Int)),()))) (fun(w2:(Int×Unit))=>(if((decide (w2.1<=(0:Int)))=true)then(some ((rp B10 noQ.1,noQ.2),()))
 else(Option.bind (S.s_l01Gcd (nd B10 (dv c.1),(w1.1,()))) (fun(w3:((List Int)×Unit))=>(Option.bind (S.s_l01Cmp (w3.1,(((1:Int)::([]:List Int)),()))) (fun(w4:(Int×Unit))=>(if((w4.1 != (0:Int))=true)then(some ((rp B10 noQ.1,noQ.2),()))
 else(some (((m,(nd B10 (dv c.1),w1.1)),true),())))))))))))))))=some ((rp B10 (if okN c.2.1=true/\1<dv c.2.1/\Nat.gcd (dv c.1) (dv c.2.1)=1 then((m,(dv c.1,dv c.2.1)),true)else noQ).1,(if okN c.2.1=true/\1<dv c.2.1/\Nat.gcd (dv c.1) (dv c.2.1)=1 then((m,(dv c.1,dv c.2.1)),true)else noQ).2),()):=by
     intro m hm;rw[hd2,Option.bind_some];dsimp only;cases hb:okN c.2.1
     ·have hx:¬((false:Bool)=true/\1<dv c.2.1/\Nat.gcd (dv c.1) (dv c.2.1)=1):=fun q=>by cases q.1
      rw[if_pos (show(!false)=true by rfl),if_neg hx]
     ·have lb:=nd_len200 (B:=B10) (by decide) (okN_lt hb);rw[if_neg (show ¬((!true)=true) by decide),hr2 hb,Option.bind_some];dsimp only;have e1:S.s_l01Cmp (nd B10 (dv c.2.1),([1],()))=some (cmpN (dv c.2.1) 1,()):=by
       unfold S.s_l01Cmp;dsimp only;rw[if_pos ⟨canon_nd B10_le _,canon_one B10_le,by omega⟩,dval_nd B10_le,dval_one]
      have e2:S.s_l01Gcd (nd B10 (dv c.1),(nd B10 (dv c.2.1),()))=some (nd B10 (Nat.gcd (dv c.1) (dv c.2.1)),()):=by
       unfold S.s_l01Gcd;dsimp only;rw[if_pos ⟨canon_nd B10_le _,canon_nd B10_le _,by omega,by omega⟩,dval_nd B10_le,dval_nd B10_le]
      rw[e1,Option.bind_some];dsimp only
      by_cases h1:1<dv c.2.1
      ·have hcm:¬(cmpN (dv c.2.1) 1<=0):=by
        have:=(cmpN_gt (a:=dv c.2.1) (b:=1)).2 h1;omega
       have lg:(nd B10 (Nat.gcd (dv c.1) (dv c.2.1))).length<=200:=Nat.le_trans (nd_shorter' B10_le (Nat.le_of_dvd (by omega) (Nat.gcd_dvd_right _ _))) lb;have e3:S.s_l01Cmp (nd B10 (Nat.gcd (dv c.1) (dv c.2.1)),([1],()))=some (cmpN (Nat.gcd (dv c.1) (dv c.2.1)) 1,()):=by
        unfold S.s_l01Cmp;dsimp only;rw[if_pos ⟨canon_nd B10_le _,canon_one B10_le,by omega⟩,dval_nd B10_le,dval_one]
       rw[if_neg (by simpa using hcm),e2,Option.bind_some];dsimp only;rw[e3,Option.bind_some];dsimp only
       by_cases hg:Nat.gcd (dv c.1) (dv c.2.1)=1
       ·rw[if_neg (by simpa using cmpN_zero.2 hg),if_pos ⟨rfl,h1,hg⟩];rfl
       ·rw[if_pos (by simpa using fun q=>hg (cmpN_zero.1 q)),if_neg (fun q=>hg q.2.2)]
      ·have hcm:cmpN (dv c.2.1) 1<=0:=by
        have h2:¬(cmpN (dv c.2.1) 1>0):=fun q=>h1 ((cmpN_gt (a:=dv c.2.1) (b:=1)).1 q)
        omega
       rw[if_pos (decide_eq_true hcm),if_neg (fun q=>h1 q.2.1)]
    rw[hz];cases n
    ·have hm:¬((false:Bool)=true/\dv c.1=0):=fun q=>by cases q.1
     rw[if_neg (show ¬((false:Bool)=true) by decide),if_pos ⟨rfl,hm⟩];exact hrest false hm
    ·rw[if_pos rfl]
     by_cases h0:dv c.1=0
     ·rw[if_pos (decide_eq_true h0),if_neg (fun q=>q.2 ⟨rfl,h0⟩)]
     ·have hm:¬((true:Bool)=true/\dv c.1=0):=fun q=>h0 q.2
      rw[if_neg (by simpa using h0),if_pos ⟨rfl,hm⟩];exact hrest true hm
  ·
   rw[hf2,if_pos rfl]at hp;have hl:ps.length=2+(pieces 47 (cutP 47 c.2.1).2.1).length:=by
    have:=congrArg List.length hp;simp at this;omega
   have hl2:(pieces 47 (cutP 47 c.2.1).2.1).length≠0:=fun q=>pieces_ne 47 _ (List.eq_nil_of_length_eq_zero q)
   have l1:((ps.length:Nat):Int)>2:=by omega
   have hx:¬(okN c.2.1=true/\1<dv c.2.1/\Nat.gcd (dv c.1) (dv c.2.1)=1):=fun q=>by
    have:=cutP_allD (okN_allD q.1).1;rw[hf2]at this;cases this
   rw[if_pos (decide_eq_true l1),if_pos rfl,if_neg hx];split<;>rfl
theorem pp_plain (T:ByteArray) (hsz:T.size<=1000000):
  (Option.bind (S.s_l01Cut (T,((47:Int),()))) (fun(z0:((List ByteArray)×Unit))=>(if((decide (((List.length z0.1):Int)>(2:Int)))=true)then(some (((false,(([]:List Int),([]:List Int))),false),()))
 else(if((decide ((0:Int)<((List.length z0.1):Int)))=true)then(Option.bind (S.s_l01Digits ((List.getD z0.1 (0:Nat) (Go.Cm.bs [])),())) (fun(z1:(Bool×Unit))=>(if((!z1.1)=true)then(some (((false,(([]:List Int),([]:List Int))),false),()))
 else(if((decide ((0:Int)<((List.length z0.1):Int)))=true)then(Option.bind (S.s_l01NatRead ((List.getD z0.1 (0:Nat) (Go.Cm.bs [])),())) (fun(z2:((List Int)×Unit))=>(if((((List.length z0.1):Int)==(1:Int))=true)then(some (((false,(z2.1,((1:Int)::([]:List Int)))),true),()))
 else(if((decide ((1:Int)<((List.length z0.1):Int)))=true)then(Option.bind (S.s_l01Digits ((List.getD z0.1 (1:Nat) (Go.Cm.bs [])),())) (fun(z3:(Bool×Unit))=>(if((!z3.1)=true)then(some (((false,(([]:List Int),([]:List Int))),false),()))
 else(if((decide ((1:Int)<((List.length z0.1):Int)))=true)then(Option.bind (S.s_l01NatRead ((List.getD z0.1 (1:Nat) (Go.Cm.bs [])),())) (fun(z4:((List Int)×Unit))=>(Option.bind (S.s_l01Cmp (z4.1,(((1:Int)::([]:List Int)),()))) (fun(z5:(Int×Unit))=>(if((decide (z5.1<=(0:Int)))=true)then(some (((false,(([]:List Int),([]:List Int))),false),()))
 else(Option.bind (S.s_l01Gcd (z2.1,(z4.1,()))) (fun(z6:((List Int)×Unit))=>(Option.bind (S.s_l01Cmp (z6.1,(((1:Int)::([]:List Int)),()))) (fun(z7:(Int×Unit))=>(if((z7.1 != (0:Int))=true)then(some (((false,(([]:List Int),([]:List Int))),false),()))
 else(some (((false,(z2.1,z4.1)),true),()))))))))))))
 else none))))
 else none))))
 else none))))
 else none))))=some ((rp B10 (rdBody false (cutP 47 T.data.toList)).1,(rdBody false (cutP 47 T.data.toList)).2),()):=by
 have hbad:((false,(([]:List Int),([]:List Int))),false)=(rp B10 noQ.1,noQ.2):=by
  unfold noQ rp;dsimp only;rw[nd_zero B10_le]
 have hcut:S.s_l01Cut (T,(47,()))=some ((cutUp T 47 (T.size+1)).1,()):=by
  unfold S.s_l01Cut;exact if_pos hsz
 have hp:(cutUp T 47 (T.size+1)).1.map (·.data.toList)=pieces 47 T.data.toList:=cutUp_pieces T 47;have hlen:∀A∈(cutUp T 47 (T.size+1)).1,A.data.toList.length<=1000000:=by
  intro A hA;have h1:=pieces_len 47 T.data.toList A.data.toList (by rw[<-hp];exact List.mem_map_of_mem hA);have h2:T.size=T.data.toList.length:=by rw[Array.length_toList];rfl
  omega
 rw[hcut,Option.bind_some,hbad];generalize (cutUp T 47 (T.size+1)).1=ps at*;rw[pieces_cutP]at hp;generalize hc:cutP 47 T.data.toList=c at*;have hDig:∀A∈ps,S.s_l01Digits (A,())=some (okN A.data.toList,()):=by
  intro A hA;have h1:=hlen A hA;have h2:A.size=A.data.toList.length:=by rw[Array.length_toList];rfl
  unfold S.s_l01Digits;exact if_pos (by dsimp only;omega)
 have hRead:∀A∈ps,okN A.data.toList=true->S.s_l01NatRead (A,())=some (nd B10 (dv A.data.toList),()):=by
  intro A hA hok;have h1:=okN_allD hok;unfold S.s_l01NatRead;exact if_pos ⟨h1.1,by dsimp only;omega⟩
 have hz:∀m:Nat,(((nd B10 m).length:Int)==0)=decide (m=0):=by
  intro m;have:=canon_nil B10_le (canon_nd B10_le m);rw[dval_nd B10_le]at this
  by_cases h0:m=0
  ·rw[this.2 h0,h0];rfl
  ·have hne:=fun q=>h0 (this.1 q)
   rw[decide_eq_false h0];simpa using hne
 have hone:([1]:List Int)=nd B10 1:=(nd_one B10_le).symm;unfold rdBody;cases hf:c.2.2
 ·
  rw[hf,if_neg (by decide)]at hp;obtain⟨A,rfl,hA⟩:∃A,ps=[A]/\A.data.toList=c.1:=by
   exact List.map_eq_singleton_iff.1 hp
  have hd:=hDig A (by simp);have hr:=hRead A (by simp);rw[hA]at hd hr;have l1:¬(((List.length [A]:Nat):Int)>2):=by simp
  have l2:(0:Int)<((List.length [A]:Nat):Int):=by simp
  have l3:(((List.length [A]:Nat):Int)==1)=true:=rfl;simp only[l1,l2,l3,decide_true,decide_false,if_true,if_false,Bool.false_eq_true,List.getD_cons_zero];rw[hd,Option.bind_some];dsimp only;cases hok:okN c.1
  ·rw[if_pos (show(!false)=true by rfl),if_neg (fun q=>by cases q.1)]
  ·rw[if_neg (show ¬((!true)=true) by decide),hr hok,Option.bind_some];dsimp only;rw[if_pos ⟨rfl,fun q=>by cases q.1⟩,hone];rfl
 ·rw[hf,if_pos rfl,pieces_cutP]at hp;cases hf2:(cutP 47 c.2.1).2.2
  ·rw[hf2,if_neg (by decide)]at hp;have hy:(cutP 47 c.2.1).1=c.2.1:=((cutP_index 47 c.2.1).1 hf2).2.1;rw[hy]at hp;obtain⟨A,B,rfl,hA,hB⟩:∃A B,ps=[A,B]/\A.data.toList=c.1/\B.data.toList=c.2.1:=by
    obtain⟨A,q,rfl,hA,hq⟩:=List.map_eq_cons_iff.1 hp;obtain⟨B,rfl,hB⟩:=List.map_eq_singleton_iff.1 hq;exact⟨A,B,rfl,hA,hB⟩
   have hd:=hDig A (by simp);have hr:=hRead A (by simp);have hd2:=hDig B (by simp);have hr2:=hRead B (by simp);rw[hA]at hd hr;rw[hB]at hd2 hr2;have l1:¬(((List.length [A,B]:Nat):Int)>2):=by simp
   have l2:(0:Int)<((List.length [A,B]:Nat):Int):=by simp
   have l3:(((List.length [A,B]:Nat):Int)==1)=false:=rfl;have l4:(1:Int)<((List.length [A,B]:Nat):Int):=by simp
   simp only[l1,l2,l3,l4,decide_true,decide_false,if_true,if_false,Bool.false_eq_true,List.getD_cons_zero,List.getD_cons_succ];rw[hd,Option.bind_some];dsimp only;cases hok:okN c.1
   ·rw[if_pos (show(!false)=true by rfl),if_neg (fun q=>by cases q.1)]
   ·rw[if_neg (show ¬((!true)=true) by decide),hr hok,Option.bind_some];dsimp only;have la:=nd_len200 (B:=B10) (by decide) (okN_lt hok);have hrest:∀(m:Bool),¬(m=true/\dv c.1=0)->(Option.bind (S.s_l01Digits (B,())) (fun(w0:(Bool×Unit))=>(if((!w0.1)=true)then(some ((rp B10 noQ.1,noQ.2),()))
 else(Option.bind (S.s_l01NatRead (B,())) (fun(w1:((List Int)×Unit))=>(Option.bind (S.s_l01Cmp (w1.1,(((1:Int)::([]:List Int)),()))) (fun(w2:(Int×Unit))=>(if((decide (w2.1<=(0:Int)))=true)then(some ((rp B10 noQ.1,noQ.2),()))
 else(Option.bind (S.s_l01Gcd (nd B10 (dv c.1),(w1.1,()))) (fun(w3:((List Int)×Unit))=>(Option.bind (S.s_l01Cmp (w3.1,(((1:Int)::([]:List Int)),()))) (fun(w4:(Int×Unit))=>(if((w4.1 != (0:Int))=true)then(some ((rp B10 noQ.1,noQ.2),()))
 else(some (((m,(nd B10 (dv c.1),w1.1)),true),())))))))))))))))=some ((rp B10 (if okN c.2.1=true/\1<dv c.2.1/\Nat.gcd (dv c.1) (dv c.2.1)=1 then((m,(dv c.1,dv c.2.1)),true)else noQ).1,(if okN c.2.1=true/\1<dv c.2.1/\Nat.gcd (dv c.1) (dv c.2.1)=1 then((m,(dv c.1,dv c.2.1)),true)else noQ).2),()):=by
     intro m hm;rw[hd2,Option.bind_some];dsimp only;cases hb:okN c.2.1
     ·have hx:¬((false:Bool)=true/\1<dv c.2.1/\Nat.gcd (dv c.1) (dv c.2.1)=1):=fun q=>by cases q.1
      rw[if_pos (show(!false)=true by rfl),if_neg hx]
     ·have lb:=nd_len200 (B:=B10) (by decide) (okN_lt hb);rw[if_neg (show ¬((!true)=true) by decide),hr2 hb,Option.bind_some];dsimp only;have e1:S.s_l01Cmp (nd B10 (dv c.2.1),([1],()))=some (cmpN (dv c.2.1) 1,()):=by
       unfold S.s_l01Cmp;dsimp only;rw[if_pos ⟨canon_nd B10_le _,canon_one B10_le,by omega⟩,dval_nd B10_le,dval_one]
      have e2:S.s_l01Gcd (nd B10 (dv c.1),(nd B10 (dv c.2.1),()))=some (nd B10 (Nat.gcd (dv c.1) (dv c.2.1)),()):=by
       unfold S.s_l01Gcd;dsimp only;rw[if_pos ⟨canon_nd B10_le _,canon_nd B10_le _,by omega,by omega⟩,dval_nd B10_le,dval_nd B10_le]
      rw[e1,Option.bind_some];dsimp only
      by_cases h1:1<dv c.2.1
      ·have hcm:¬(cmpN (dv c.2.1) 1<=0):=by
        have:=(cmpN_gt (a:=dv c.2.1) (b:=1)).2 h1;omega
       have lg:(nd B10 (Nat.gcd (dv c.1) (dv c.2.1))).length<=200:=Nat.le_trans (nd_shorter' B10_le (Nat.le_of_dvd (by omega) (Nat.gcd_dvd_right _ _))) lb;have e3:S.s_l01Cmp (nd B10 (Nat.gcd (dv c.1) (dv c.2.1)),([1],()))=some (cmpN (Nat.gcd (dv c.1) (dv c.2.1)) 1,()):=by
        unfold S.s_l01Cmp;dsimp only;rw[if_pos ⟨canon_nd B10_le _,canon_one B10_le,by omega⟩,dval_nd B10_le,dval_one]
       rw[if_neg (by simpa using hcm),e2,Option.bind_some];dsimp only;rw[e3,Option.bind_some];dsimp only
       by_cases hg:Nat.gcd (dv c.1) (dv c.2.1)=1
       ·rw[if_neg (by simpa using cmpN_zero.2 hg),if_pos ⟨rfl,h1,hg⟩];rfl
       ·rw[if_pos (by simpa using fun q=>hg (cmpN_zero.1 q)),if_neg (fun q=>hg q.2.2)]
      ·have hcm:cmpN (dv c.2.1) 1<=0:=by
        have h2:¬(cmpN (dv c.2.1) 1>0):=fun q=>h1 ((cmpN_gt (a:=dv c.2.1) (b:=1)).1 q)
        omega
       rw[if_pos (decide_eq_true hcm),if_neg (fun q=>h1 q.2.1)]
    have hm:¬((false:Bool)=true/\dv c.1=0):=fun q=>by cases q.1
    rw[if_pos ⟨rfl,fun q=>q.1⟩];exact hrest false hm
  ·
   rw[hf2,if_pos rfl]at hp;have hl:ps.length=2+(pieces 47 (cutP 47 c.2.1).2.1).length:=by
    have:=congrArg List.length hp;simp at this;omega
   have hl2:(pieces 47 (cutP 47 c.2.1).2.1).length≠0:=fun q=>pieces_ne 47 _ (List.eq_nil_of_length_eq_zero q)
   have l1:((ps.length:Nat):Int)>2:=by omega
   have hx:¬(okN c.2.1=true/\1<dv c.2.1/\Nat.gcd (dv c.1) (dv c.2.1)=1):=fun q=>by
    have:=cutP_allD (okN_allD q.1).1;rw[hf2]at this;cases this
   rw[if_pos (decide_eq_true l1),if_pos rfl,if_neg hx];split<;>rfl
def S.s_l01Parse (x:(ByteArray×Unit)):(Option ((RB×Bool)×Unit)):=if x.1.size<=1000000 then some ((rp B10 (rdRat x.1.data.toList).1,(rdRat x.1.data.toList).2),())else none
theorem S.s_l01Parse_ok (x r) (h:S.s_l01Parse x=some r):∃k,P.s_l01Parse k x=some r:=by
 obtain⟨s,u⟩:=x;unfold S.s_l01Parse at h;dsimp only at h;split at h
 case isFalse=>cases h
 rename_i hsz;refine⟨0,?_⟩;rw[<-h];unfold P.s_l01Parse;dsimp only;have hs:s.size=s.data.toList.length:=by rw[Array.length_toList];rfl
 unfold rdRat
 by_cases h0:s.data.toList=[]
 ·have l1:¬((s.size:Int)>0):=by rw[hs,h0];simp
  rw[if_neg (by simpa using l1),h0,if_neg (by simp),<-h0];exact pp_plain s hsz
 ·have hpos:0<s.data.toList.length:=List.length_pos_iff.2 h0;have l1:(s.size:Int)>0:=by omega
  have l2:(0:Int)<(s.size:Int):=by omega
  have l3:(0:Int)<=(s.size:Int):=by omega
  have l4:(1:Int)<=(s.size:Int):=by omega
  have hb:byteAt s 0=(s.data.toList[0].toNat:Int):=congrArg (fun c:UInt8=>(c.toNat:Int)) (getD_cast s.data.toList 0 0 hpos);have hh:s.data.toList.head? =some s.data.toList[0]:=by
   generalize s.data.toList=l at*;cases l with
   |nil=>simp at h0
   |cons c r=>rfl
  rw[if_pos (decide_eq_true l1),if_pos (decide_eq_true l2),hh,Int.toNat_natCast]
  by_cases c1:s.data.toList[0]=45
  ·have hn:(byteAt s 0==45)=true:=by
    rw[hb,c1];rfl
   have hx:(ByteArray.extract s 1 s.size).data.toList=s.data.toList.tail:=by
    rw[ext_list,List.take_of_length_le (by omega),List.drop_one]
   have hxs:(ByteArray.extract s 1 s.size).size<=1000000:=by
    have:(ByteArray.extract s 1 s.size).size=(ByteArray.extract s 1 s.size).data.toList.length:=by rw[Array.length_toList];rfl
    rw[this,hx];simp;omega
   rw[hn,if_pos rfl,if_pos (decide_eq_true l3),if_pos (decide_eq_true (Int.le_refl _)),if_pos (decide_eq_true l4),if_pos (by rw[c1])];have:=pp_sign (ByteArray.extract s 1 s.size) true hxs;rw[hx]at this;exact this
  ·have hn:(byteAt s 0==45)=false:=by
    rw[hb,beq_eq_false_iff_ne];intro q;apply c1;apply UInt8.toNat_inj.1;show _=45;omega
   rw[hn,if_neg (show ¬((false:Bool)=true) by decide),if_neg (by rw[Option.some.injEq];exact c1)];exact pp_sign s false hsz
abbrev P.s_l01List_b0 (x1:Int×Int×List ByteArray×List RB×Unit) (g2:Int×Int×List ByteArray×List RB×Unit->Option ((List RB×Bool)×Unit)):Option ((List RB×Bool)×Unit):=
 if decide (x1.1<x1.2.1)then if decide (0<=x1.1)then if decide (x1.1<(x1.2.2.1.length:Int))then(S.s_l01Parse (x1.2.2.1.getD x1.1.toNat (bs []),())).bind fun y3=>if !y3.1.2 then some (([],false),())else if decide (((x1.2.2.2.1.length+(List.length [(y3.1.1.1,y3.1.1.2.1,y3.1.1.2.2)]))*56)<=140737488355328)then g2 (wrap .i64 (x1.1+1),x1.2.1,x1.2.2.1,x1.2.2.2.1++[(y3.1.1.1,y3.1.1.2.1,y3.1.1.2.2)],())else none else none else none else some ((x1.2.2.2.1,true),())
def P.s_l01List (k:Nat) (x:List ByteArray×Unit):Option ((List RB×Bool)×Unit):=
 if decide ((x.1.length:Int)>300)then some (([],false),())else loopP P.s_l01List_b0 k (0,(x.1.length:Int),x.1,[],())
open Classical in
def S.s_l01List (x:((List ByteArray)×Unit)):(Option (((List RB)×Bool)×Unit)):=if okT x.1=true then some (((rdAll x.1).1.map (rp B10),(rdAll x.1).2),())else none
theorem s_l01List_read (s:ByteArray) (h:s.size<=1000000):S.s_l01Parse (s,())=some ((rp B10 (rdRat s.data.toList).1,(rdRat s.data.toList).2),()):=by
 unfold S.s_l01Parse;exact if_pos (by dsimp only;omega)
theorem S.s_l01List_ok (x r) (h:S.s_l01List x=some r):∃k,P.s_l01List k x=some r:=by
 obtain⟨ls,u⟩:=x;unfold S.s_l01List at h;dsimp only at h;split at h
 case isFalse=>cases h
 rename_i hc;cases h;refine⟨ls.length+1,?_⟩;unfold P.s_l01List rdAll;dsimp only
 by_cases hl:(ls.length:Int)>300
 ·rw[if_pos (decide_eq_true hl),if_neg (show ¬(ls.length<=300/\(ls.all fun s=>(rdRat s.data.toList).2)=true)from fun z=>by omega)];rfl
 rw[if_neg (by simpa using hl)];have key:=loop_up0 (k:=ls.length+1) (b:=P.s_l01List_b0) (n:=ls.length) (st:=fun i=>((i:Int),(ls.length:Int),ls,(ls.take i).map (fun s=>rp B10 (rdRat s.data.toList).1),())) (F:=fun i=>some (if((ls.drop i).all fun s=>(rdRat s.data.toList).2)=true then(ls.map (fun s=>rp B10 (rdRat s.data.toList).1),true)else([],false),())) (fun i g hi hg=>by
  unfold P.s_l01List_b0;dsimp only at hg ⊢;have e1:(i:Int)<(ls.length:Int):=by omega
  have e2:(0:Int)<=(i:Int):=by omega
  simp only[e1,e2,decide_true,if_true];rw[getD_cast ls i _ hi,s_l01List_read _ (okT_get hc hi),Option.bind_some,List.drop_eq_getElem_cons hi,List.all_cons];dsimp only;cases hf:(rdRat ls[i].data.toList).2
  ·rw[if_pos (by rfl),if_neg (by simp)]
  ·rw[if_neg (by simp),wr (by omega) (by omega),Bool.true_and,<-hg];have e3:((List.map (fun s:ByteArray=>rp B10 (rdRat s.data.toList).1) (ls.take i)).length+1)*56<=140737488355328:=by
    rw[List.length_map,List.length_take];omega
   simp only[List.length_cons,List.length_nil,Nat.zero_add];rw[if_pos (decide_eq_true e3),List.take_add_one,List.getElem?_eq_getElem hi,Option.toList_some,List.map_append];rfl) (fun g=>by
  unfold P.s_l01List_b0;dsimp only;rw[if_neg (by simp),List.take_length,List.drop_length];rfl) (by omega)
 refine key.trans ?_;rw[List.drop_zero]
 by_cases ha:(ls.all fun s=>(rdRat s.data.toList).2)=true
 ·rw[if_pos ha,if_pos (show ls.length<=300/\(ls.all fun s=>(rdRat s.data.toList).2)=true from⟨by omega,ha⟩),List.map_map];rfl
 ·rw[if_neg ha,if_neg (fun z=>ha z.2)];rfl
def P.s_l01Equal (k:Nat) (x:RB×RB×Unit):Option (Bool×Unit):=
 if x.1.1==x.2.1.1 then(S.s_l01NatMul (x.1.2.1,x.2.1.2.2,())).bind fun y0=>(S.s_l01NatMul (x.2.1.2.1,x.1.2.2,())).bind fun y1=>(S.s_l01Cmp (y0.1,y1.1,())).bind fun y2=>some (y2.1==0,())else some (false,())
def S.s_l01Equal (x:(RB×(RB×Unit))):(Option (Bool×Unit)):=if rok B10 40000000 x.1=true/\rok B10 40000000 x.2.1=true then some (decide ((rv B10 x.1).1=(rv B10 x.2.1).1/\(rv B10 x.1).2.1*(rv B10 x.2.1).2.2=(rv B10 x.2.1).2.1*(rv B10 x.1).2.2),())else none
theorem S.s_l01Equal_ok (x r) (h:S.s_l01Equal x=some r):∃k,P.s_l01Equal k x=some r:=by
 obtain⟨x,y,u⟩:=x;unfold S.s_l01Equal at h;dsimp only at h;split at h
 case isFalse=>cases h
 rename_i hc;obtain⟨n1,p1,q1,rfl,l1,l2⟩:=rok_nd hc.1;obtain⟨n2,p2,q2,rfl,l3,l4⟩:=rok_nd hc.2;rw[rv_nd B10_le,rv_nd B10_le]at h;cases h;refine⟨0,?_⟩;unfold P.s_l01Equal;dsimp only;have em:∀p q,(nd B10 p).length<=40000000->(nd B10 q).length<=40000000->S.s_l01NatMul (nd B10 p,(nd B10 q,()))=some (nd B10 (p*q),()):=by
  intro p q hp hq;unfold S.s_l01NatMul;dsimp only;rw[if_pos ⟨dig_nd B10_le _,dig_nd B10_le _,by omega,by omega⟩,dval_nd B10_le,dval_nd B10_le]
 have ec:S.s_l01Cmp (nd B10 (p1*q2),(nd B10 (p2*q1),()))=some (cmpN (p1*q2) (p2*q1),()):=by
  have:=nd_mul_len B10_le p1 q2;unfold S.s_l01Cmp;dsimp only;rw[if_pos ⟨canon_nd B10_le _,canon_nd B10_le _,by omega⟩,dval_nd B10_le,dval_nd B10_le]
 by_cases hn:n1=n2
 ·rw[if_pos (by simpa using hn),em _ _ l1 l4,Option.bind_some,em _ _ l3 l2,Option.bind_some];dsimp only;rw[ec,Option.bind_some];dsimp only;have hz:=cmpN_zero (a:=p1*q2) (b:=p2*q1)
  by_cases he:p1*q2=p2*q1
  ·rw[decide_eq_true ⟨hn,he⟩,hz.2 he];rfl
  ·rw[decide_eq_false (fun z=>he z.2),beq_eq_false_iff_ne.2 (fun z=>he (hz.1 z))]
 ·rw[if_neg (by simpa using hn),decide_eq_false (fun z=>hn z.1)]
def P.s_l01None (k:Nat) (x:Unit):Option (RB×Unit):=
 (S.s_l01Int (0,())).bind fun y0=>some ((y0.1.1,y0.1.2.1,y0.1.2.2),())
def S.s_l01None (x:Unit):(Option (RB×Unit)):=P.s_l01None 0 x
theorem S.s_l01None_ok (x r) (h:S.s_l01None x=some r):∃k,P.s_l01None k x=some r:=⟨0,h⟩
abbrev P.s_l01Total_b1 (x2:Int×Int×RB×List RB×RB×Unit) (g3:Int×Int×RB×List RB×RB×Unit->Option (RB×Unit)):Option (RB×Unit):=
 if decide (x2.1<x2.2.1)then if decide (0<=x2.1)then if decide (x2.1<(x2.2.2.2.1.length:Int))then(S.s_l01Sum ((x2.2.2.1.1,x2.2.2.1.2.1,x2.2.2.1.2.2),((x2.2.2.2.1.getD x2.1.toNat (false,[],[])).1,(x2.2.2.2.1.getD x2.1.toNat (false,[],[])).2.1,(x2.2.2.2.1.getD x2.1.toNat (false,[],[])).2.2),())).bind fun y4=>g3 (wrap .i64 (x2.1+1),x2.2.1,(y4.1.1,y4.1.2.1,y4.1.2.2),x2.2.2.2.1,(x2.2.2.2.2.1.1,x2.2.2.2.2.1.2.1,x2.2.2.2.2.1.2.2),())else none else none else some ((x2.2.2.1.1,x2.2.2.1.2.1,x2.2.2.1.2.2),())
def P.s_l01Total (k:Nat) (x:List RB×Unit):Option (RB×Unit):=
 (S.s_l01None ()).bind fun y0=>loopP P.s_l01Total_b1 k (0,(x.1.length:Int),(y0.1.1,y0.1.2.1,y0.1.2.2),x.1,(false,[],[]),())
open Classical in
def S.s_l01Total (x:((List RB)×Unit)):(Option (RB×Unit)):=if goodS B10 x.1 then some (rp B10 (sumQ (x.1.map (rv B10))),())else none
theorem s_l01Total_add (a b:Q3) (ha:lowb B10 40000000 (rp B10 a)=true) (hb:lowb B10 40000000 (rp B10 b)=true):S.s_l01Sum (rp B10 a,(rp B10 b,()))=some (rp B10 (addQ a b),()):=by
 unfold S.s_l01Sum;dsimp only;rw[if_pos ⟨ha,hb⟩,rv_rp B10_le,rv_rp B10_le]
theorem S.s_l01Total_ok (x r) (h:S.s_l01Total x=some r):∃k,P.s_l01Total k x=some r:=by
 obtain⟨xs,u⟩:=x;unfold S.s_l01Total at h;dsimp only at h;split at h
 case isFalse=>cases h
 rename_i hc;obtain⟨qs,rfl,hlen,hq,hg⟩:=hc;cases h;refine⟨qs.length+1,?_⟩;unfold P.s_l01Total;have hz:S.s_l01None ()=some (rp B10 zeroQ,()):=by rfl
 dsimp only;rw[hz,Option.bind_some,map_rv B10_le,List.length_map];have key:=loop_up0 (k:=qs.length+1) (b:=P.s_l01Total_b1) (n:=qs.length) (st:=fun i=>((i:Int),(qs.length:Int),rp B10 (sumQ (qs.take i)),qs.map (rp B10),(false,(([]:List Int),([]:List Int))),())) (F:=fun i=>some (rp B10 (sumQ qs),())) (fun i g hi hg'=>by
  unfold P.s_l01Total_b1;dsimp only at hg' ⊢;have e1:(i:Int)<(qs.length:Int):=by omega
  have e2:(0:Int)<=(i:Int):=by omega
  have e3:(i:Int)<((qs.map (rp B10)).length:Int):=by rw[List.length_map];omega
  rw[if_pos (decide_eq_true e1),if_pos (decide_eq_true e2),if_pos (decide_eq_true e3),getD_cast (qs.map (rp B10)) i _ (by rw[List.length_map];exact hi),List.getElem_map];have ea:=s_l01Total_add (sumQ (qs.take i)) qs[i] (lowb_rp9 (by decide) (hg i).1 (hg i).2 (by decide)) (lowb_rp9 (by decide) (hq _ (List.getElem_mem hi)).1 (hq _ (List.getElem_mem hi)).2 (by decide));rw[sumQ_take hi]at ea;show Option.bind (S.s_l01Sum (rp B10 (sumQ (qs.take i)),(rp B10 qs[i],()))) _=_;rw[ea,Option.bind_some,wr (by omega) (by omega)];exact hg') (fun g=>by
  unfold P.s_l01Total_b1;dsimp only;rw[if_neg (by simp),List.take_length]) (by omega)
 exact key
abbrev P.s_l01Positive_b0 (x1:Int×Int×List RB×Unit) (g2:Int×Int×List RB×Unit->Option (Bool×Unit)):Option (Bool×Unit):=
 if decide (x1.1<x1.2.1)then if decide (0<=x1.1)then if decide (x1.1<(x1.2.2.1.length:Int))then if(x1.2.2.1.getD x1.1.toNat (false,[],[])).1 then some (false,())else g2 (wrap .i64 (x1.1+1),x1.2.1,x1.2.2.1,())else none else none else some (true,())
def P.s_l01Positive (k:Nat) (x:List RB×Unit):Option (Bool×Unit):=
 loopP P.s_l01Positive_b0 k (0,(x.1.length:Int),x.1,())
def S.s_l01Positive (x:((List RB)×Unit)):(Option (Bool×Unit)):=if x.1.length<=1000000000 then some (!(x.1.any fun r=>r.1),())else none
theorem S.s_l01Positive_ok (x r) (h:S.s_l01Positive x=some r):∃k,P.s_l01Positive k x=some r:=by
 obtain⟨xs,u⟩:=x;unfold S.s_l01Positive at h;dsimp only at h;split at h
 case isFalse=>cases h
 rename_i hc;cases h;refine⟨xs.length+1,?_⟩;unfold P.s_l01Positive;have key:=loop_up0 (k:=xs.length+1) (b:=P.s_l01Positive_b0) (n:=xs.length) (st:=fun i=>((i:Int),(xs.length:Int),xs,())) (F:=fun i=>some (!((xs.drop i).any fun r=>r.1),())) (fun i g hi hg=>by
  unfold P.s_l01Positive_b0;dsimp only at hg ⊢;have e1:(i:Int)<(xs.length:Int):=by omega
  have e2:(0:Int)<=(i:Int):=by omega
  rw[if_pos (decide_eq_true e1),if_pos (decide_eq_true e2),if_pos (decide_eq_true e1),getD_cast xs i _ hi,List.drop_eq_getElem_cons hi,List.any_cons];cases hf:xs[i].1
  ·rw[if_neg (by decide),wr (by omega) (by omega),Bool.false_or];exact hg
  ·rw[if_pos rfl];rfl) (fun g=>by
  unfold P.s_l01Positive_b0;dsimp only;rw[if_neg (by simp),List.drop_length];rfl) (by omega)
 exact key
def P.s_l01Weights (k:Nat) (x:List RB×Unit):Option (Bool×Unit):=
 (S.s_l01Positive (x.1,())).bind fun y0=>if y0.1 then(S.s_l01Total (x.1,())).bind fun y1=>(S.s_l01One ()).bind fun y2=>(S.s_l01Equal ((y1.1.1,y1.1.2.1,y1.1.2.2),(y2.1.1,y2.1.2.1,y2.1.2.2),())).bind fun y3=>some (y3.1,())else some (false,())
open Classical in
def S.s_l01Weights (x:((List RB)×Unit)):(Option (Bool×Unit)):=if goodL B10 x.1 then some (isW (x.1.map (rv B10)),())else none
theorem S.s_l01Weights_ok (x r) (h:S.s_l01Weights x=some r):∃k,P.s_l01Weights k x=some r:=by
 obtain⟨xs,u⟩:=x;unfold S.s_l01Weights at h;dsimp only at h;split at h
 case isFalse=>cases h
 rename_i hc;obtain⟨qs,n,rfl,hg⟩:=hc;cases h;refine⟨0,?_⟩;rw[map_rv B10_le];unfold P.s_l01Weights S.s_l01Positive;dsimp only;have hlen:=good_len hg;rw[if_pos (by rw[List.length_map];omega),Option.bind_some,any_rp];dsimp only;unfold isW;have es:S.s_l01Total (qs.map (rp B10),())=some (rp B10 (sumQ qs),()):=by
  unfold S.s_l01Total;dsimp only;rw[if_pos (goodL_S ⟨qs,n,rfl,hg⟩),map_rv B10_le]
 have h1:S.s_l01One ()=some (rp B10 oneQ,()):=by rfl
 have eo:S.s_l01Equal (rp B10 (sumQ qs),(rp B10 oneQ,()))=some (isOneQ (sumQ qs),()):=by
  unfold S.s_l01Equal;dsimp only;rw[if_pos ⟨good_rok (by decide) hg,below_rok (B:=B10) (by decide) (oneQ_below (by decide))⟩,rv_rp B10_le,rv_rp B10_le];unfold isOneQ oneQ;dsimp only;rw[Nat.mul_one,Nat.one_mul]
 cases hm:(qs.any fun r=>r.1)
 ·rw[if_pos (show(!false)=true by rfl),es,Option.bind_some,h1,Option.bind_some];show Option.bind (S.s_l01Equal (rp B10 (sumQ qs),(rp B10 oneQ,()))) _=_;rw[eo,Option.bind_some];rfl
 ·rfl
abbrev s_l03Parse.A:=Int×Int×List (List ByteArray)×Int×List (List RB)×List (List RB)×Unit
abbrev s_l03Parse.B:=Option ((List (List RB)×Bool)×Unit)
abbrev P.s_l03Parse_b0 (x1:s_l03Parse.A) (g2:s_l03Parse.A->s_l03Parse.B):s_l03Parse.B:=
 if decide (x1.1<x1.2.1)then if decide (0<=x1.1)then if decide (x1.1<(x1.2.2.1.length:Int))then if(List.length (x1.2.2.1.getD x1.1.toNat []):Int) != x1.2.2.2.1 then some (([],false),())else if decide (0<=x1.1)then if decide (x1.1<(x1.2.2.1.length:Int))then(S.s_l01List (x1.2.2.1.getD x1.1.toNat [],())).bind fun y3=>if !y3.1.2 then some (([],false),())else(S.s_l01Weights (y3.1.1,())).bind fun y4=>if !y4.1 then some (([],false),())else if decide (((x1.2.2.2.2.2.1.length+(List.length [y3.1.1]))*24)<=140737488355328)then g2 (wrap .i64 (x1.1+1),x1.2.1,x1.2.2.1,x1.2.2.2.1,x1.2.2.2.2.1,x1.2.2.2.2.2.1++[y3.1.1],())else none else none else none else none else none else some ((x1.2.2.2.2.2.1,true),())
def P.s_l03Parse (k:Nat) (x:List (List ByteArray)×Unit):s_l03Parse.B:=
 if decide ((x.1.length:Int)<1)then some (([],false),())else if decide ((x.1.length:Int)>12)then some (([],false),())else loopP P.s_l03Parse_b0 k (0,(x.1.length:Int),x.1,(x.1.length:Int),[],[],())
def S.s_l03Parse (x:((List (List ByteArray))×Unit)):(Option (((List (List RB))×Bool)×Unit)):=if x.1.all okT=true then some (((chQ x.1).1.map (fun r=>r.map (rp B10)),(chQ x.1).2),())else none
theorem S.s_l03Parse_ok (x r) (h:S.s_l03Parse x=some r):∃k,P.s_l03Parse k x=some r:=by
 obtain⟨rows,u⟩:=x;unfold S.s_l03Parse at h;dsimp only at h;split at h
 case isFalse=>cases h
 rename_i hc;cases h;refine⟨rows.length+1,?_⟩;unfold P.s_l03Parse chQ;dsimp only
 by_cases h1:1<=rows.length
 case neg=>
  rw[if_pos (decide_eq_true (show(rows.length:Int)<1 by omega)),decide_eq_false h1];rfl
 rw[if_neg (by simpa using(show ¬(rows.length:Int)<1 by omega)),decide_eq_true h1]
 by_cases h2:rows.length<=12
 case neg=>
  rw[if_pos (decide_eq_true (show(rows.length:Int)>12 by omega)),decide_eq_false h2];rfl
 rw[if_neg (by simpa using(show ¬(rows.length:Int)>12 by omega)),decide_eq_true h2];simp only[Bool.true_and];have key:=loop_up0 (k:=rows.length+1) (b:=P.s_l03Parse_b0) (n:=rows.length) (st:=fun i=>((i:Int),(rows.length:Int),rows,(rows.length:Int),([]:List (List (Bool×(List Int×List Int)))),(rows.take i).map (fun r=>(rdAll r).1.map (rp B10)),())) (F:=fun i=>some (if((rows.drop i).all fun r=>decide (r.length=rows.length)&&(wtAll r).2)=true then(rows.map (fun r=>(rdAll r).1.map (rp B10)),true)else([],false),())) (fun i g hi hg'=>by
  have e1:(i:Int)<(rows.length:Int):=by omega
  have e2:(0:Int)<=(i:Int):=by omega
  have hr:okT rows[i]=true:=List.all_eq_true.1 hc _ (List.getElem_mem hi);have e4:(((rows.take i).map (fun r=>(rdAll r).1.map (rp B10))).length+1)*24<=140737488355328:=by
   rw[List.length_map,List.length_take];omega
  unfold P.s_l03Parse_b0;dsimp only at hg' ⊢;simp only[e1,e2,decide_true,if_true];rw[getD_cast rows i _ hi,List.drop_eq_getElem_cons hi,List.all_cons]
  by_cases hl:rows[i].length=rows.length
  case neg=>
   rw[if_pos (by simp;omega),decide_eq_false hl,Bool.false_and,Bool.false_and,if_neg (by decide)]
  rw[if_neg (by simp;omega),decide_eq_true hl,Bool.true_and,wtAll_snd];have ew:S.s_l01List (rows[i],())=some (((rdAll rows[i]).1.map (rp B10),(rdAll rows[i]).2),()):=by
   unfold S.s_l01List;exact if_pos hr
  rw[ew,Option.bind_some];dsimp only;cases w1:(rdAll rows[i]).2
  ·rw[if_pos (by decide),Bool.false_and,Bool.false_and,if_neg (by decide)]
  have eW:S.s_l01Weights ((rdAll rows[i]).1.map (rp B10),())=some (isW (rdAll rows[i]).1,()):=by
   unfold S.s_l01Weights;dsimp only;rw[if_pos (rdAll_goodL w1),map_rv B10_le]
  rw[if_neg (by decide),eW,Option.bind_some,Bool.true_and];dsimp only;cases hw:isW (rdAll rows[i]).1
  ·rw[if_pos (by decide),Bool.false_and,if_neg (by decide)]
  rw[if_neg (by decide),Bool.true_and];simp only[List.length_cons,List.length_nil,Nat.zero_add];rw[if_pos (decide_eq_true e4),wr (by omega) (by omega),<-hg',List.take_add_one,List.getElem?_eq_getElem hi,Option.toList_some,List.map_append];rfl) (fun g=>by
  unfold P.s_l03Parse_b0;dsimp only;rw[if_neg (by simp),List.take_length,List.drop_length];rfl) (by omega)
 rw[List.drop_zero]at key;refine Eq.trans key ?_
 by_cases ha:(rows.all fun r=>decide (r.length=rows.length)&&(wtAll r).2)=true
 ·rw[if_pos ha,if_pos ha,List.map_map];rfl
 ·rw[if_neg ha,if_neg ha];rfl
abbrev P.s_l01Dec_b0 (x1:List Int×Int×Int×Unit) (g2:List Int×Int×Int×Unit->Option (ByteArray×Unit)):Option (ByteArray×Unit):=
 (fun(a:List Int) (b c:Int)=>if(a.length:Int)==0 then if decide ((Int.tmod b 10)<0)then if decide ((((List.length [wrap .u8 (wrap .i64 (48+(wrap .i64 (0 - (Int.tmod b 10)))))])+a.length)*1)<=140737488355328)then g2 ([wrap .u8 (wrap .i64 (48+(wrap .i64 (0 - (Int.tmod b 10)))))]++a,wrap .i64 (Int.tdiv b 10),c,())else none else if decide ((((List.length [wrap .u8 (wrap .i64 (48+(Int.tmod b 10)))])+a.length)*1)<=140737488355328)then g2 ([wrap .u8 (wrap .i64 (48+(Int.tmod b 10)))]++a,wrap .i64 (Int.tdiv b 10),c,())else none else if b != 0 then if decide ((Int.tmod b 10)<0)then if decide ((((List.length [wrap .u8 (wrap .i64 (48+(wrap .i64 (0 - (Int.tmod b 10)))))])+a.length)*1)<=140737488355328)then g2 ([wrap .u8 (wrap .i64 (48+(wrap .i64 (0 - (Int.tmod b 10)))))]++a,wrap .i64 (Int.tdiv b 10),c,())else none else if decide ((((List.length [wrap .u8 (wrap .i64 (48+(Int.tmod b 10)))])+a.length)*1)<=140737488355328)then g2 ([wrap .u8 (wrap .i64 (48+(Int.tmod b 10)))]++a,wrap .i64 (Int.tdiv b 10),c,())else none else if decide (c<0)then if decide (((1+a.length)*1)<=140737488355328)then some (strOf ([45]++a),())else none else some (strOf a,())) x1.1 x1.2.1 x1.2.2.1
def P.s_l01Dec (k:Nat) (x:Int×Unit):Option (ByteArray×Unit):=
 loopP P.s_l01Dec_b0 k ([],x.1,x.1,())
def digI (u:Nat):List Int:=(Go.Lib.decDigits u).map fun b=>(b.toNat:Int)
theorem digI_small {u:Nat} (h:u<10):digI u=[48+(u:Int)]:=by
 unfold digI;rw[Go.Lib.decDigits,dif_pos h];simp only[List.map_cons,List.map_nil,List.cons.injEq,and_true];rw[UInt8.toNat_ofNat'];omega
theorem digI_step {u:Nat} (h:¬u<10):digI u=digI (u/10)++[48+((u%10:Nat):Int)]:=by
 unfold digI;rw[Go.Lib.decDigits,dif_neg h,List.map_append];simp only[List.map_cons,List.map_nil];rw[UInt8.toNat_ofNat'];congr 2;omega
theorem strOf_map (l:List UInt8):strOf (l.map fun b=>(b.toNat:Int))=⟨l.toArray⟩:=by
 unfold strOf;rw[List.map_map];have:((fun n:Int=>UInt8.ofNat n.toNat) ∘ fun b:UInt8=>(b.toNat:Int))=id:=by
  funext b;simp
 rw[this,List.map_id]
theorem wr8 {x:Int} (h0:0<=x) (h1:x<=255):IntKind.wrap .u8 x=x:=by
 show x%256=x;omega
def sgn (neg:Bool) (u:Nat):Int:=if neg=true then -(u:Int)else(u:Int)
theorem sgn_tmod (neg:Bool) (u:Nat):Int.tmod (sgn neg u) 10=sgn neg (u%10):=by
 cases neg
 ·show Int.tmod (u:Int) 10=((u%10:Nat):Int)
  rw[Int.tmod_eq_emod_of_nonneg (by omega)];omega
 ·show Int.tmod (-(u:Int)) 10= -((u%10:Nat):Int);rw[Int.neg_tmod,Int.tmod_eq_emod_of_nonneg (by omega)];omega
theorem sgn_tdiv (neg:Bool) (u:Nat):Int.tdiv (sgn neg u) 10=sgn neg (u/10):=by
 cases neg
 ·show Int.tdiv (u:Int) 10=((u/10:Nat):Int)
  rw[Int.tdiv_eq_ediv_of_nonneg (by omega)];omega
 ·show Int.tdiv (-(u:Int)) 10= -((u/10:Nat):Int);rw[Int.neg_tdiv,Int.tdiv_eq_ediv_of_nonneg (by omega)];omega
theorem dec_round (neg:Bool) (u:Nat) (n:Int) (out:List Int) (g:((List Int)×(Int×(Int×Unit)))->Option (ByteArray×Unit)) (hu:u<=9223372036854775808) (hs:neg=false->u<=9223372036854775807) (ho:out.length<=1000) (hc:out=[]\/u≠0):
  P.s_l01Dec_b0 (out,sgn neg u,n,()) g=g ((48+((u%10:Nat):Int))::out,sgn neg (u/10),n,()):=by
 have hw:IntKind.wrap .i64 (sgn neg (u/10))=sgn neg (u/10):=by
  apply wr<;>unfold sgn<;>split<;>omega
 have hA:∀(a b:Option (ByteArray×Unit)),(if((decide (sgn neg (u%10)<(0:Int)))=true)then a else b)=(if(sgn neg (u%10)<0)then a else b):=by
  intro a b
  by_cases h:sgn neg (u%10)<0<;>simp [h]
 have hneg:sgn neg (u%10)<0->IntKind.wrap .i64 ((0:Int) - sgn neg (u%10))=((u%10:Nat):Int):=by
  intro h;unfold sgn at h ⊢;split at h
  ·rename_i hn;rw[if_pos hn,wr (by omega) (by omega)];omega
  ·omega
 have hpos:¬sgn neg (u%10)<0->sgn neg (u%10)=((u%10:Nat):Int):=by
  intro h;unfold sgn at h ⊢;split at h
  ·rename_i hn;rw[if_pos hn];omega
  ·rename_i hn;rw[if_neg hn]
 have hch:IntKind.wrap .u8 (IntKind.wrap .i64 ((48:Int)+((u%10:Nat):Int)))=48+((u%10:Nat):Int):=by
  rw[wr (by omega) (by omega),wr8 (by omega) (by omega)]
 have hlen:∀c:Int,((List.length (c::([]:List Int))+List.length out)*1<=140737488355328):=by
  intro c;simp;omega
 unfold P.s_l01Dec_b0;dsimp only;have hu0:u≠0->sgn neg u≠0:=by
  intro h;unfold sgn;split<;>omega
 simp only[hA,sgn_tmod,sgn_tdiv,hw];have hin:∀X Y:Option (ByteArray×Unit),(sgn neg (u%10)<0->X=g ((48+((u%10:Nat):Int))::out,sgn neg (u/10),n,()))->(¬sgn neg (u%10)<0->Y=g ((48+((u%10:Nat):Int))::out,sgn neg (u/10),n,()))->
   (if sgn neg (u%10)<0 then X else Y)=g ((48+((u%10:Nat):Int))::out,sgn neg (u/10),n,()):=by
  intro X Y h1 h2;split
  ·exact h1 (by assumption)
  ·exact h2 (by assumption)
 have key:(if sgn neg (u%10)<0 then(if((decide (((List.length ((IntKind.wrap .u8 (IntKind.wrap .i64 ((48:Int)+(IntKind.wrap .i64 ((0:Int) - sgn neg (u%10))))))::([]:List Int))+(List.length out))*(1:Nat))<=(140737488355328:Nat)))=true)then(g ((((IntKind.wrap .u8 (IntKind.wrap .i64 ((48:Int)+(IntKind.wrap .i64 ((0:Int) - sgn neg (u%10))))))::([]:List Int))++out),(sgn neg (u/10),(n,()))))else none)
   else(if((decide (((List.length ((IntKind.wrap .u8 (IntKind.wrap .i64 ((48:Int)+sgn neg (u%10))))::([]:List Int))+(List.length out))*(1:Nat))<=(140737488355328:Nat)))=true)then(g ((((IntKind.wrap .u8 (IntKind.wrap .i64 ((48:Int)+sgn neg (u%10))))::([]:List Int))++out),(sgn neg (u/10),(n,()))))else none))=g ((48+((u%10:Nat):Int))::out,sgn neg (u/10),n,()):=by
  refine hin _ _ (fun h=> ?_) (fun h=> ?_)
  ·rw[if_pos (decide_eq_true (hlen _)),hneg h,hch];rfl
  ·rw[if_pos (decide_eq_true (hlen _)),hpos h,hch];rfl
 rcases hc with rfl|hc
 ·rw[if_pos (by rfl)];exact key
 ·by_cases ho':(((List.length out):Int)==(0:Int))=true
  ·rw[if_pos ho'];exact key
  ·rw[if_neg ho',if_pos (by simpa using hu0 hc)];exact key
theorem dec_end (neg:Bool) (n:Int) (out:List Int) (g:((List Int)×(Int×(Int×Unit)))->Option (ByteArray×Unit)) (ho:out.length<=1000) (hc:out≠ []):
  P.s_l01Dec_b0 (out,sgn neg 0,n,()) g=some (strOf (if n<0 then 45::out else out),()):=by
 unfold P.s_l01Dec_b0;dsimp only;have h0:sgn neg 0=0:=by cases neg<;>rfl
 rw[if_neg (by simpa using hc),h0,if_neg (by decide)]
 by_cases hn:n<0
 ·rw[if_pos (decide_eq_true hn),if_pos (decide_eq_true (by omega)),if_pos hn];rfl
 ·rw[if_neg (by simpa using hn),if_neg hn]
theorem dec_loop (neg:Bool) (n:Int):∀(u:Nat) (out:List Int) (k:Nat),u≠0->u<=9223372036854775808->(neg=false->u<=9223372036854775807)->out.length+u.log2<=900->u.log2+2<=k->
  loopP P.s_l01Dec_b0 k (out,sgn neg u,n,())=some (strOf (if n<0 then 45::(digI u++out)else digI u++out),()):=by
 intro u
 induction u using Nat.strongRecOn with
 |ind u ih=>
  intro out k h0 hu hs ho hk;obtain⟨k,rfl⟩:∃j,k=j+1:=⟨k - 1,by omega⟩
  rw[loopP_succ,dec_round neg u n out _ hu hs (by omega) (.inr h0)]
  by_cases h:u<10
  ·have e:u/10=0:=by omega
   obtain⟨k,rfl⟩:∃j,k=j+1:=⟨k - 1,by omega⟩
   rw[e,loopP_succ,dec_end neg n _ _ (by simp;omega) (by simp),digI_small h,Nat.mod_eq_of_lt h];rfl
  ·have hl:(u/10).log2+1<=u.log2:=by
    have h2:u/10≠0:=by omega
    have a1:2^(u/10).log2<=u/10:=Nat.log2_self_le h2;have a2:2^((u/10).log2+1)<=u:=by rw[Nat.pow_succ];omega
    exact(Nat.le_log2 h0).2 a2
   rw[ih (u/10) (by omega) _ k (by omega) (by omega) (fun hn=>by have:=hs hn;omega) (by simp;omega) (by omega),digI_step h];simp
def S.s_l01Dec (x:(Int×Unit)):(Option (ByteArray×Unit)):=if -9223372036854775808<=x.1/\x.1<=9223372036854775807 then some (⟨(Go.Lib.itoa x.1).toArray⟩,())else none
theorem S.s_l01Dec_ok (x r) (h:S.s_l01Dec x=some r):∃k,P.s_l01Dec k x=some r:=by
 obtain⟨n,u⟩:=x;unfold S.s_l01Dec at h;dsimp only at h;split at h
 case isFalse=>cases h
 rename_i hn;cases h;refine⟨200,?_⟩;unfold P.s_l01Dec;dsimp only;have hsg:∃neg,n=sgn neg n.natAbs/\(neg=true↔n<0):=by
  by_cases h:n<0
  ·exact⟨true,by unfold sgn;simp;omega,by simp [h]⟩
  ·exact⟨false,by unfold sgn;simp;omega,by simp [h]⟩
 obtain⟨neg,h1,h2⟩:=hsg;have hfin:strOf (if n<0 then 45::digI n.natAbs else digI n.natAbs)=⟨(Go.Lib.itoa n).toArray⟩:=by
  unfold Go.Lib.itoa digI;split
  ·rw[<-strOf_map];rfl
  ·rw[<-strOf_map];have:n.natAbs=n.toNat:=by omega
   rw[this]
 by_cases h0:n.natAbs=0
 ·have hn0:n=0:=by omega
  subst hn0;have e0:(0:Int)=sgn false 0:=rfl;show loopP P.s_l01Dec_b0 (198+1+1) ([],0,0,())=_;rw[loopP_succ]
  conv=>lhs;rw[show(([]:List Int),(0:Int),(0:Int),())=([],sgn false 0,0,())from rfl]
  rw[dec_round false 0 0 [] _ (by omega) (by omega) (by simp) (.inl rfl),loopP_succ,show 0/10=0 from rfl,dec_end false 0 _ _ (by simp) (by simp),<-hfin];rw[show(0:Int).natAbs=0 from rfl,digI_small (by omega)]
 ·have hb:n.natAbs<=9223372036854775808:=by omega
  have hl:n.natAbs.log2<=64:=by
   have:n.natAbs.log2<65:=(Nat.log2_lt h0).2 (by omega);omega
  have:=dec_loop neg n n.natAbs [] 200 h0 hb (fun hf=>by
   have:¬n<0:=fun h=>by rw[h2.2 h]at hf;cases hf
   omega) (by simp;omega) (by omega)
  rw[<-h1]at this;rw[this,List.append_nil,hfin]
abbrev P.s_l01NatText_b1 (x2:Int×List Int×ByteArray×Unit) (g3:Int×List Int×ByteArray×Unit->Option (ByteArray×Unit)):Option (ByteArray×Unit):=
 if decide (x2.1>=0)then if decide (0<=x2.1)then if decide (x2.1<(x2.2.1.length:Int))then(S.s_l01Dec (wrap .i64 ((x2.2.1.getD x2.1.toNat 0)+1000000000),())).bind fun y4=>if decide (0<=(y4.1.size:Int))then if decide ((y4.1.size:Int)<=(y4.1.size:Int))then if decide (1<=(y4.1.size:Int))then if decide ((x2.2.2.1.size+(ByteArray.size (ByteArray.extract y4.1 1 (Int.toNat (y4.1.size:Int)))))<=9223372036854775807)then g3 (wrap .i64 (x2.1 - 1),x2.2.1,x2.2.2.1++(ByteArray.extract y4.1 1 (Int.toNat (y4.1.size:Int))),())else none else none else none else none else none else none else some (x2.2.2.1,())
def P.s_l01NatText (k:Nat) (x:List Int×Unit):Option (ByteArray×Unit):=
 if(x.1.length:Int)==0 then some (bs [48],())else if decide (0<=(wrap .i64 ((x.1.length:Int) - 1)))then if decide ((wrap .i64 ((x.1.length:Int) - 1))<(x.1.length:Int))then(S.s_l01Dec (x.1.getD (Int.toNat (wrap .i64 ((x.1.length:Int) - 1))) 0,())).bind fun y0=>loopP P.s_l01NatText_b1 k (wrap .i64 ((x.1.length:Int) - 2),x.1,y0.1,())else none else none
def S.s_l01NatText (x:((List Int)×Unit)):(Option (ByteArray×Unit)):=if canon B10 x.1=true/\x.1.length<=40000000 then some (⟨(Go.Lib.decDigits (dval B10 x.1)).toArray⟩,())else none
theorem S.s_l01NatText_ok (x r) (h:S.s_l01NatText x=some r):∃k,P.s_l01NatText k x=some r:=by
 obtain⟨xs,u⟩:=x;unfold S.s_l01NatText at h;dsimp only at h;split at h
 case isFalse=>cases h
 rename_i hc;obtain⟨ca,la⟩:=hc;cases h;refine⟨xs.length+1,?_⟩;unfold P.s_l01NatText;dsimp only
 by_cases he:xs=[]
 ·subst he;rw[if_pos (by rfl),show dval B10 []=0 from rfl,dec_small (by decide)];rfl
 ·have hpos:0<xs.length:=List.length_pos_iff.2 he;obtain⟨m,hm⟩:∃m,xs.length=m+1:=⟨xs.length - 1,by omega⟩
  have dx:=canon_dig ca;have h0:dval B10 xs≠0:=by
   intro q;have:=canon_eq ca;rw[q,nd_zero B10_le]at this;exact he this.symm
  have hdec:∀z:Int,0<=z->z<=2000000000->S.s_l01Dec (z,())=some (⟨(Go.Lib.decDigits z.toNat).toArray⟩,()):=by
   intro z z0 z1;unfold S.s_l01Dec;dsimp only;rw[if_pos ⟨by omega,by omega⟩];unfold Go.Lib.itoa;rw[if_neg (by omega)]
  have hnz:∀i,i<=m->dval B10 (xs.drop i)≠0:=by
   intro i hi q;have h1:=dval_append (B:=B10) (xs.take i) (xs.drop i);rw[List.take_append_drop,q,Nat.mul_zero,Nat.add_zero]at h1;have h2:=dval_lt (dig_take dx i);have h3:(xs.take i).length=i:=by simp;omega
   rw[h3]at h2;have h4:=nd_low B10_le h0;rw[canon_eq ca,hm,Nat.add_sub_cancel]at h4;have h5:B10^i<=B10^m:=Nat.pow_le_pow_right (by decide) hi;omega
  have hlenD:∀i,(Go.Lib.decDigits (dval B10 (xs.drop i))).length<=9*xs.length:=by
   intro i;have h1:=dval_lt (dig_drop dx i);have h2:B10^(xs.drop i).length<=B10^xs.length:=Nat.pow_le_pow_right (by decide) (by simp);rw[show B10=10^9 by decide,<-Nat.pow_mul,<-Nat.pow_mul]at h2;rw[show B10^(xs.drop i).length=10^(9*(xs.drop i).length) by rw[show B10=10^9 by decide,<-Nat.pow_mul]]at h1;exact dec_len (by omega) (by omega)
  have c1:(0:Int)<=(m:Int):=by omega
  have c2:(m:Int)<((m+1:Nat):Int):=by omega
  rw[if_neg (by simp;exact he),hm,wr (x:=((m+1:Nat):Int) - 1) (by omega) (by omega),wr (x:=((m+1:Nat):Int) - 2) (by omega) (by omega),show((m+1:Nat):Int) - 1=(m:Int) by omega,if_pos (decide_eq_true c1),if_pos (decide_eq_true c2),Int.toNat_natCast];have gx:=dig_getD (B:=B10) (by decide) dx m;have gx1:xs.getD m 0<1000000000:=gx.2;rw[hdec _ gx.1 (by omega),Option.bind_some];have hlast:(xs.getD m 0).toNat=dval B10 (xs.drop m):=by
   rw[dval_drop (by omega),List.drop_of_length_le (by omega)];simp [dval]
  rw[hlast];have key:=loop_up0 (k:=m+1+1) (b:=P.s_l01NatText_b1) (n:=m) (st:=fun i=>((m:Int) - 1 - (i:Int),xs,(⟨(Go.Lib.decDigits (dval B10 (xs.drop (m - i)))).toArray⟩:ByteArray),())) (F:=fun i=>some (⟨(Go.Lib.decDigits (dval B10 xs)).toArray⟩,())) (fun i g hi hg=>by
   unfold P.s_l01NatText_b1;dsimp only at hg ⊢;obtain⟨j,hj⟩:∃j,m - i=j+1:=⟨m - i - 1,by omega⟩
   rw[show m - (i+1)=j by omega,show(m:Int) - 1 - ((i+1:Nat):Int)=(j:Int) - 1 by omega]at hg;rw[hj,show(m:Int) - 1 - (i:Int)=(j:Int) by omega];have d1:(j:Int)>=0:=by omega
   have d2:(0:Int)<=(j:Int):=by omega
   have d3:(j:Int)<(xs.length:Int):=by omega
   have gx:=dig_getD (B:=B10) (by decide) dx j;have gx1:xs.getD j 0<1000000000:=gx.2;have gx0:=gx.1;rw[if_pos (decide_eq_true d1),if_pos (decide_eq_true d2),if_pos (decide_eq_true d3),Int.toNat_natCast,wr (x:=xs.getD j 0+1000000000) (by omega) (by omega),hdec _ (by omega) (by omega),Option.bind_some];dsimp only;obtain⟨z,hz⟩:∃z:Nat,xs.getD j 0=(z:Int):=⟨(xs.getD j 0).toNat,by omega⟩
   have hzl:z<10^9:=by rw[show(10:Nat)^9=1000000000 by decide];omega
   have e1:=nine_all z (xs.getD j 0) hz hzl;rw[e1];have hs:(⟨(49::decPad 9 z).toArray⟩:ByteArray).size=10:=by rw[ba_sz,List.length_cons,decPad_len]
   have hx:ByteArray.extract ⟨(49::decPad 9 z).toArray⟩ 1 10=⟨(decPad 9 z).toArray⟩:=by
    apply ByteArray.ext;rw[ByteArray.data_extract];have hl:(decPad 9 z).length=9:=decPad_len _ _;simp [List.extract_toArray,List.take_of_length_le,hl]
   rw[hs];have f1:(0:Int)<=((10:Nat):Int):=by decide
   have f2:(1:Int)<=((10:Nat):Int):=by decide
   rw[if_pos (decide_eq_true f1),if_pos (decide_eq_true (Int.le_refl _)),if_pos (decide_eq_true f2),show(((10:Nat):Int)).toNat=10 from rfl,hx];have hl1:=hlenD (j+1);have f3:(⟨(Go.Lib.decDigits (dval B10 (xs.drop (j+1)))).toArray⟩:ByteArray).size+(⟨(decPad 9 z).toArray⟩:ByteArray).size<=9223372036854775807:=by
    rw[ba_sz,ba_sz,decPad_len];omega
   rw[if_pos (decide_eq_true f3),ba_app,wr (x:=(j:Int) - 1) (by omega) (by omega)];have e2:Go.Lib.decDigits (dval B10 (xs.drop (j+1)))++decPad 9 z=Go.Lib.decDigits (dval B10 (xs.drop j)):=by
    rw[dval_drop (xs:=xs) (i:=j) (by omega),hz,Int.toNat_natCast];generalize hD:dval B10 (xs.drop (j+1))=D;have hD0:0<D:=by rw[<-hD];exact Nat.pos_of_ne_zero (hnz (j+1) (by omega))
    have e3:z+B10*D=D*10^9+z:=by rw[Nat.add_comm,Nat.mul_comm]
    rw[e3,dec_split 9 D z hD0 hzl]
   rw[e2];exact hg) (fun g=>by
   unfold P.s_l01NatText_b1;dsimp only;rw[if_neg (by simp;omega),Nat.sub_self,List.drop_zero]) (by omega)
  rw[Nat.sub_zero,show(m:Int) - 1 - ((0:Nat):Int)=((m+1:Nat):Int) - 2 by omega]at key;exact key
def P.s_l01Fits (k:Nat) (x:RB×Unit):Option (Bool×Unit):=
 (S.s_l01NatText (x.1.2.1,())).bind fun y0=>if decide ((y0.1.size:Int)<=200)then(S.s_l01NatText (x.1.2.2,())).bind fun y1=>some (decide ((y1.1.size:Int)<=200),())else some (false,())
def S.s_l01Fits (x:(RB×Unit)):(Option (Bool×Unit)):=P.s_l01Fits 0 x
theorem S.s_l01Fits_ok (x r) (h:S.s_l01Fits x=some r):∃k,P.s_l01Fits k x=some r:=⟨0,h⟩
def P.s_l01Show (k:Nat) (x:RB×Unit):Option (ByteArray×Unit):=
 (S.s_l01NatText (x.1.2.1,())).bind fun y0=>if x.1.1 then if decide ((1+y0.1.size)<=9223372036854775807)then(S.s_l01Cmp (x.1.2.2,[1],())).bind fun y1=>if y1.1 != 0 then(S.s_l01NatText (x.1.2.2,())).bind fun y2=>if decide ((1+y2.1.size)<=9223372036854775807)then if decide (((ByteArray.size ((bs [45])++y0.1))+(ByteArray.size ((bs [47])++y2.1)))<=9223372036854775807)then some (((bs [45])++y0.1)++((bs [47])++y2.1),())else none else none else some ((bs [45])++y0.1,())else none else(S.s_l01Cmp (x.1.2.2,[1],())).bind fun y3=>if y3.1 != 0 then(S.s_l01NatText (x.1.2.2,())).bind fun y4=>if decide ((1+y4.1.size)<=9223372036854775807)then if decide ((y0.1.size+(ByteArray.size ((bs [47])++y4.1)))<=9223372036854775807)then some (y0.1++((bs [47])++y4.1),())else none else none else some (y0.1,())
def S.s_l01Show (x:(RB×Unit)):(Option (ByteArray×Unit)):=P.s_l01Show 0 x
theorem S.s_l01Show_ok (x r) (h:S.s_l01Show x=some r):∃k,P.s_l01Show k x=some r:=⟨0,h⟩
def P.s_l01Give (k:Nat) (x:RB×Unit):Option ((ByteArray×Bool)×Unit):=
 (S.s_l01Fits ((x.1.1,x.1.2.1,x.1.2.2),())).bind fun y0=>if !y0.1 then some ((bs [],false),())else(S.s_l01Show ((x.1.1,x.1.2.1,x.1.2.2),())).bind fun y1=>some ((y1.1,true),())
def S.s_l01Give (x:(RB×Unit)):(Option ((ByteArray×Bool)×Unit)):=if rok B10 40000000 x.1=true then some (giveN (rv B10 x.1),())else none
theorem S.s_l01Give_ok (x r) (h:S.s_l01Give x=some r):∃k,P.s_l01Give k x=some r:=by
 obtain⟨⟨neg,as,bs'⟩,u⟩:=x;unfold S.s_l01Give at h;dsimp only at h;split at h
 case isFalse=>cases h
 rename_i hc;cases h;rw[rok_iff]at hc;obtain⟨ca,cb,la,lb⟩:=hc;dsimp only at ca cb la lb;refine⟨0,?_⟩;unfold P.s_l01Give S.s_l01Fits S.s_l01Show P.s_l01Fits P.s_l01Show;dsimp only;have e1:∀xs,canon B10 xs=true->xs.length<=40000000->S.s_l01NatText (xs,())=some (⟨(Go.Lib.decDigits (dval B10 xs)).toArray⟩,()):=by
  intro xs cx lx;unfold S.s_l01NatText;exact if_pos ⟨cx,lx⟩
 have e3:S.s_l01Cmp (bs',([1],()))=some (cmpN (dval B10 bs') 1,()):=by
  unfold S.s_l01Cmp;dsimp only;rw[if_pos ⟨cb,canon_one B10_le,by omega⟩,dval_one]
 rw[e1 as ca la,Option.bind_some,e1 bs' cb lb,Option.bind_some,e3,Option.bind_some];dsimp only;have l1:=canon_dec (show B10<=10^10 by decide) ca;have l2:=canon_dec (show B10<=10^10 by decide) cb;unfold giveN rv ratTx fitN;dsimp only;generalize Go.Lib.decDigits (dval B10 as)=t1 at*;generalize Go.Lib.decDigits (dval B10 bs')=t2 at*;rw[show bs [45]=⟨([45]:List UInt8).toArray⟩from rfl,show bs [47]=⟨([47]:List UInt8).toArray⟩from rfl];simp only[Option.bind_some];rw[ba_app,ba_app,ba_app,ba_app,ba_sz,ba_sz,ba_sz,ba_sz];have c1:(1+t1.length<=9223372036854775807):=by omega
 have c2:(1+t2.length<=9223372036854775807):=by omega
 have c3:([45]++t1).length+([47]++t2).length<=9223372036854775807:=by simp;omega
 have c4:t1.length+([47]++t2).length<=9223372036854775807:=by simp;omega
 simp only[c1,c2,c3,c4,decide_true,if_true];have d1:∀t:List UInt8,decide (((t.length:Nat):Int)<=200)=decide (t.length<=200):=by
  intro t;rw[decide_eq_decide];omega
 rw[d1,d1];have d2:((cmpN (dval B10 bs') 1 != 0)=true)↔¬dval B10 bs'=1:=by
  rw[<-cmpN_zero (b:=1)];simp
 by_cases f1:t1.length<=200
 ·by_cases f2:t2.length<=200
  ·by_cases hq:dval B10 bs'=1
   ·have n2:¬((cmpN 1 1 != 0)=true):=by decide
    cases neg<;>simp only[f1,f2,n2,hq,decide_true,if_true,if_false,Bool.false_eq_true,List.append_nil,List.nil_append,Option.bind_some,Bool.not_true,Bool.and_true]
   ·have n2:((cmpN (dval B10 bs') 1 != 0)=true):=d2.2 hq;cases neg<;>simp only[f1,f2,n2,hq,decide_true,if_true,if_false,Bool.false_eq_true,List.nil_append,Option.bind_some,Bool.not_true,Bool.and_true]<;>simp
  ·simp [f1,f2]
 ·simp [f1]
abbrev P.s_l01GiveAll_b0 (x1:Int×Int×List RB×List ByteArray×Unit) (g2:Int×Int×List RB×List ByteArray×Unit->Option ((List ByteArray×Bool)×Unit)):Option ((List ByteArray×Bool)×Unit):=
 if decide (x1.1<x1.2.1)then if decide (0<=x1.1)then if decide (x1.1<(x1.2.2.1.length:Int))then(S.s_l01Give (((x1.2.2.1.getD x1.1.toNat (false,[],[])).1,(x1.2.2.1.getD x1.1.toNat (false,[],[])).2.1,(x1.2.2.1.getD x1.1.toNat (false,[],[])).2.2),())).bind fun y3=>if !y3.1.2 then some (([],false),())else if decide (((x1.2.2.2.1.length+(List.length [y3.1.1]))*16)<=140737488355328)then g2 (wrap .i64 (x1.1+1),x1.2.1,x1.2.2.1,x1.2.2.2.1++[y3.1.1],())else none else none else none else some ((x1.2.2.2.1,true),())
def P.s_l01GiveAll (k:Nat) (x:List RB×Unit):Option ((List ByteArray×Bool)×Unit):=
 loopP P.s_l01GiveAll_b0 k (0,(x.1.length:Int),x.1,[],())
def S.s_l01GiveAll (x:((List RB)×Unit)):(Option (((List ByteArray)×Bool)×Unit)):=if x.1.all (rok B10 40000000)=true/\x.1.length<=1000000 then some (giveL (x.1.map (rv B10)),())else none
theorem S.s_l01GiveAll_ok (x r) (h:S.s_l01GiveAll x=some r):∃k,P.s_l01GiveAll k x=some r:=by
 obtain⟨xs,u⟩:=x;unfold S.s_l01GiveAll at h;dsimp only at h;split at h
 case isFalse=>cases h
 rename_i hc;cases h;obtain⟨qs,rfl⟩:∃qs:List Q3,xs=qs.map (rp B10):=⟨xs.map (rv B10),by
  rw[List.map_map];have:∀ys:List (Bool×(List Int×List Int)),ys.all (rok B10 40000000)=true->ys.map (rp B10 ∘ rv B10)=ys:=by
   intro ys
   induction ys with
   |nil=>intro _;rfl
   |cons y ys ih=>
    intro hy;rw[List.all_cons,Bool.and_eq_true]at hy;rw[List.map_cons,ih hy.2];show rp B10 (rv B10 y)::ys=_;rw[rp_rv hy.1]
  exact(this xs hc.1).symm⟩
 have hlen:=hc.2;rw[List.length_map]at hlen;refine⟨qs.length+1,?_⟩;unfold P.s_l01GiveAll giveL;dsimp only;have key:=loop_up0 (k:=qs.length+1) (b:=P.s_l01GiveAll_b0) (n:=qs.length) (st:=fun i=>((i:Int),(qs.length:Int),qs.map (rp B10),(qs.take i).map (fun r:Q3=>(⟨(ratTx r).toArray⟩:ByteArray)),())) (F:=fun i=>some (if(qs.drop i).all fitN=true then(qs.map (fun r:Q3=>(⟨(ratTx r).toArray⟩:ByteArray)),true)else([],false),())) (fun i g hi hg'=>by
  unfold P.s_l01GiveAll_b0;dsimp only at hg' ⊢;have e1:(i:Int)<(qs.length:Int):=by omega
  have e2:(0:Int)<=(i:Int):=by omega
  have e3:(i:Int)<((qs.map (rp B10)).length:Int):=by rw[List.length_map];omega
  simp only[e1,e2,e3,decide_true,if_true];rw[getD_cast (qs.map (rp B10)) i _ (by rw[List.length_map];exact hi),List.getElem_map];have ht:S.s_l01Give (rp B10 qs[i],())=some (giveN qs[i],()):=by
   unfold S.s_l01Give;dsimp only;rw[if_pos (by have:=List.all_eq_true.1 hc.1 _ (List.mem_map.2 ⟨qs[i],List.getElem_mem hi,rfl⟩);exact this),rv_rp B10_le]
  show Option.bind (S.s_l01Give (rp B10 qs[i],())) _=_;rw[ht,Option.bind_some,List.drop_eq_getElem_cons hi,List.all_cons];dsimp only;cases hf:fitN qs[i]
  ·have hv:giveN qs[i]=(bs [],false):=by unfold giveN;rw[hf];rfl
   rw[hv,if_pos (by decide),Bool.false_and,if_neg (by decide)]
  ·have hv:giveN qs[i]=(⟨(ratTx qs[i]).toArray⟩,true):=by unfold giveN;rw[hf];rfl
   rw[hv];have e4:(((qs.take i).map (fun r:Q3=>(⟨(ratTx r).toArray⟩:ByteArray))).length+1)*16<=140737488355328:=by
    rw[List.length_map,List.length_take];omega
   rw[if_neg (by simp),wr (by omega) (by omega),Bool.true_and,<-hg'];simp only[List.length_cons,List.length_nil,Nat.zero_add];rw[if_pos (decide_eq_true e4),List.take_add_one,List.getElem?_eq_getElem hi,Option.toList_some,List.map_append];rfl) (fun g=>by
  unfold P.s_l01GiveAll_b0;dsimp only;rw[if_neg (by simp),List.take_length,List.drop_length];rfl) (by omega)
 rw[map_rv B10_le,List.length_map];refine key.trans ?_;rw[List.drop_zero]
 by_cases ha:qs.all fitN=true
 ·rw[if_pos ha,if_pos ha];congr 3;refine List.map_congr_left fun r hr=> ?_
  unfold giveN;rw[if_pos (List.all_eq_true.1 ha r hr)]
 ·rw[if_neg ha,if_neg ha]
abbrev s_l03Give.A:=Int×Int×List (List RB)×List (List ByteArray)×List (List ByteArray×Nat)×Unit
abbrev s_l03Give.B:=Option (((List (List ByteArray×Nat)×Nat)×Bool)×Unit)
abbrev P.s_l03Give_b0 (x1:s_l03Give.A) (g2:s_l03Give.A->s_l03Give.B):s_l03Give.B:=
 if decide (x1.1<x1.2.1)then if decide (0<=x1.1)then if decide (x1.1<(x1.2.2.1.length:Int))then(S.s_l01GiveAll (x1.2.2.1.getD x1.1.toNat [],())).bind fun y3=>if !y3.1.2 then some (((([]:List (List ByteArray×Nat)),0),false),())else if decide ((((List.length (hd0 x1.2.2.2.2.1))+(List.length (hd0 [(y3.1.1,y3.1.1.length)])))*24)<=140737488355328)then if dup (List.map (fun(y4:Nat×Nat)=>y4.1) (joinH (List.length (in0 x1.2.2.2.2.1)) (hd0 x1.2.2.2.2.1) (hd0 [(y3.1.1,y3.1.1.length)])))then none else g2 (wrap .i64 (x1.1+1),x1.2.1,x1.2.2.1,x1.2.2.2.1,nrm (joinH (List.length (in0 x1.2.2.2.2.1)) (hd0 x1.2.2.2.2.1) (hd0 [(y3.1.1,y3.1.1.length)])) ((in0 x1.2.2.2.2.1)++[y3.1.1]),())else none else none else none else if dup (List.map (fun(y5:Nat×Nat)=>y5.1) (hd0 x1.2.2.2.2.1))then none else some (((nrm (hd0 x1.2.2.2.2.1) (in0 x1.2.2.2.2.1),List.length (hd0 x1.2.2.2.2.1)),true),())
def P.s_l03Give (k:Nat) (x:List (List RB)×Unit):s_l03Give.B:=
 loopP P.s_l03Give_b0 k (0,(x.1.length:Int),x.1,[],[],())
open Classical in
def S.s_l03Give (x:((List (List RB))×Unit)):(Option (((((List ((List ByteArray)×Nat))×Nat))×Bool)×Unit)):=if ∃M,okM M/\x.1=mp B10 M then some (ownW (giveM (mv B10 x.1)),())else none
theorem S.s_l03Give_ok (x r) (h:S.s_l03Give x=some r):∃k,P.s_l03Give k x=some r:=by
 obtain⟨m,u⟩:=x;unfold S.s_l03Give at h;dsimp only at h;split at h
 case isFalse=>cases h
 rename_i hc;obtain⟨M,hM,rfl⟩:=hc;cases h;rw[mv_mp (by decide)];have hn:=hM.1;refine⟨13,?_⟩;unfold P.s_l03Give;dsimp only;rw[mp_len];have key:=loop_up0 (k:=13) (b:=P.s_l03Give_b0) (n:=M.length) (st:=fun i=>((i:Int),(M.length:Int),mp B10 M,([]:List (List ByteArray)),(M.take i).map (fun r=>((giveL r).1,(giveL r).1.length)),())) (F:=fun i=>some (if((M.drop i).all fun r=>r.all fitN)=true then((M.map (fun r=>((giveL r).1,(giveL r).1.length)),M.length),true)else(([],0),false),())) (fun i g hi hg=>by
  unfold P.s_l03Give_b0;dsimp only at hg ⊢;have e1:(i:Int)<(M.length:Int):=by omega
  have e2:(0:Int)<=(i:Int):=by omega
  have hr:M.getD i []=M[i]:=by rw[List.getD_eq_getElem?_getD,List.getElem?_eq_getElem hi];rfl
  have hmi:=hM.2 M[i] (List.getElem_mem hi);have eg:S.s_l01GiveAll (M[i].map (rp B10),())=some (giveL M[i],()):=by
   unfold S.s_l01GiveAll;dsimp only;rw[if_pos ⟨okM_rok (by decide) hmi.2,by rw[List.length_map];omega⟩,map_rv B10_le]
  simp only[mp_len,Int.toNat_natCast,mp_at hi,hr,e1,e2,decide_true,if_true];rw[eg,Option.bind_some];dsimp only;rw[giveL_fit,List.drop_eq_getElem_cons hi,List.all_cons];cases hf:M[i].all fitN
  ·rw[if_pos (by decide),Bool.false_and,if_neg (by decide)]
  ·have e3:(((M.take i).map (fun r=>((giveL r).1,(giveL r).1.length))).length+1)*24<=140737488355328:=by
    rw[List.length_map,List.length_take];omega
   have e4:= @own_app ByteArray ((M.take i).map (fun r=>((giveL r).1,(giveL r).1.length))) (giveL M[i]).1 (giveL M[i]).1.length;rw[if_neg (by decide),Bool.true_and];simp only[hd0_length,List.length_cons,List.length_nil,Nat.zero_add,e3,e4.1,e4.2,decide_true,if_true,Bool.false_eq_true,if_false];rw[wr (by omega) (by omega)];rw[<-List.take_append_getElem hi,List.map_append]at hg;exact hg) (fun g=>by
  unfold P.s_l03Give_b0;dsimp only;rw[if_neg (by simp),hd0_dup,nrm_hd0,hd0_length,if_neg (by decide),List.take_length,List.length_map,List.drop_length];rfl) (by omega)
 refine Eq.trans ?_ (key.trans ?_)
 ·rfl
 ·rw[List.drop_zero];unfold giveM;split
  ·unfold ownW;dsimp only;rw[List.map_map,List.length_map];rfl
  ·rfl
theorem s_l03Give_eq {M:List (List Q3)} (h:okM M):S.s_l03Give (mp B10 M,())=some (ownW (giveM M),()):=by
 unfold S.s_l03Give;dsimp only;rw[if_pos ⟨M,h,rfl⟩,mv_mp (by decide)]
def P.s_l01Less (k:Nat) (x:RB×RB×Unit):Option (Bool×Unit):=
 if ! (x.1.1==x.2.1.1)then some (x.1.1,())else(S.s_l01NatMul (x.1.2.1,x.2.1.2.2,())).bind fun y0=>(S.s_l01NatMul (x.2.1.2.1,x.1.2.2,())).bind fun y1=>(S.s_l01Cmp (y0.1,y1.1,())).bind fun y2=>if !x.1.1 then if decide (y2.1<0)then some (true,())else if x.1.1 then some (decide (y2.1>0),())else some (false,())else if x.1.1 then some (decide (y2.1>0),())else some (false,())
def S.s_l01Less (x:(RB×(RB×Unit))):(Option (Bool×Unit)):=if rok B10 40000000 x.1=true/\rok B10 40000000 x.2.1=true then some (decide (cmpQ (rv B10 x.1) (rv B10 x.2.1)<0),())else none
theorem less_prod {as bs:List Int} (ca:canon B10 as=true) (cb:canon B10 bs=true) (la:as.length<=40000000) (lb:bs.length<=40000000):S.s_l01NatMul (as,(bs,()))=some (nd B10 (dval B10 as*dval B10 bs),())/\(nd B10 (dval B10 as*dval B10 bs)).length<=80000000:=by
 constructor
 ·unfold S.s_l01NatMul;exact if_pos ⟨canon_dig ca,canon_dig cb,by dsimp only;omega,by dsimp only;omega⟩
 ·have h1:=dval_lt (canon_dig ca);have h2:=dval_lt (canon_dig cb);have h3:dval B10 as*dval B10 bs<B10^(as.length+bs.length):=by
   rw[Nat.pow_add];exact Nat.mul_lt_mul'' h1 h2
  have:=(nd_len B10_le _ _).2 h3;omega
theorem S.s_l01Less_ok (x r) (h:S.s_l01Less x=some r):∃k,P.s_l01Less k x=some r:=by
 obtain⟨⟨n1,a1,b1⟩,⟨n2,a2,b2⟩,u⟩:=x;unfold S.s_l01Less at h;dsimp only at h;split at h
 case isFalse=>cases h
 rename_i hc;obtain⟨hx,hy⟩:=hc;cases h;rw[rok_iff]at hx hy;obtain⟨x1,x2,x3,x4⟩:=hx;obtain⟨y1,y2,y3,y4⟩:=hy;dsimp only at x1 x2 x3 x4 y1 y2 y3 y4;refine⟨0,?_⟩;unfold P.s_l01Less rv cmpQ;dsimp only
 by_cases hn:n1=n2
 ·subst hn;obtain⟨m1,l1⟩:=less_prod x1 y2 x3 y4;obtain⟨m2,l2⟩:=less_prod y1 x2 y3 x4;have mc:S.s_l01Cmp (nd B10 (dval B10 a1*dval B10 b2),(nd B10 (dval B10 a2*dval B10 b1),()))=some (cmpN (dval B10 a1*dval B10 b2) (dval B10 a2*dval B10 b1),()):=by
   unfold S.s_l01Cmp;dsimp only;rw[if_pos ⟨canon_nd B10_le _,canon_nd B10_le _,by omega⟩,dval_nd B10_le,dval_nd B10_le]
  rw[if_neg (by simp),m1,Option.bind_some,m2,Option.bind_some];dsimp only;rw[mc,Option.bind_some,if_pos rfl];dsimp only;generalize cmpN (dval B10 a1*dval B10 b2) (dval B10 a2*dval B10 b1)=c;cases n1
  ·by_cases h1:c<0<;>simp [h1]
  ·simp only[Bool.not_true,Bool.false_eq_true,if_false,if_true,Option.some.injEq,Prod.mk.injEq,and_true];rw[decide_eq_decide];omega
 ·rw[if_pos (by simpa using hn),if_neg hn];cases n1<;>rfl
theorem rs_less {x y:Q3} (hx:low x) (hy:low y) (bx:below 350000000 x) (bY:below 350000000 y):S.s_l01Less (rp B10 x,(rp B10 y,()))=some (decide (cmpZ x y<0),()):=by
 unfold S.s_l01Less;dsimp only;rw[if_pos ⟨below_rok9 (by decide) bx (by decide),below_rok9 (by decide) bY (by decide)⟩,rv_rp B10_le,rv_rp B10_le];congr 2;rw[decide_eq_decide,(cmpQ_lt hx hy).1,(cmpZ_ok hx hy).1]
def P.s_l01Neg (k:Nat) (x:RB×Unit):Option (Bool×Unit):=
 some (x.1.1,())
def S.s_l01Neg (x:(RB×Unit)):(Option (Bool×Unit)):=P.s_l01Neg 0 x
theorem S.s_l01Neg_ok (x r) (h:S.s_l01Neg x=some r):∃k,P.s_l01Neg k x=some r:=⟨0,h⟩
def P.s_l03Share (k:Nat) (x:RB×Unit):Option (Bool×Unit):=
 (S.s_l01Neg ((x.1.1,x.1.2.1,x.1.2.2),())).bind fun y0=>if !y0.1 then(S.s_l01One ()).bind fun y1=>(S.s_l01Less ((y1.1.1,y1.1.2.1,y1.1.2.2),(x.1.1,x.1.2.1,x.1.2.2),())).bind fun y2=>some (!y2.1,())else some (false,())
def S.s_l03Share (x:(RB×Unit)):(Option (Bool×Unit)):=P.s_l03Share 0 x
theorem S.s_l03Share_ok (x r) (h:S.s_l03Share x=some r):∃k,P.s_l03Share k x=some r:=⟨0,h⟩
abbrev s_LazyChain.A:=Int×Int×RB×List (List RB)×Int×List RB×List (List RB)×Int×Int×List (List ByteArray)×Unit
abbrev s_LazyChain.B:=Int×Int×List (List RB)×RB×List (List RB)×List (List ByteArray)×Unit
abbrev s_LazyChain.C:=Option (((List (List ByteArray×Nat)×Nat)×Bool)×Unit)
abbrev P.s_LazyChain_b6 (g5:s_LazyChain.B->s_LazyChain.C) (x7:s_LazyChain.A) (g8:s_LazyChain.A->s_LazyChain.C):s_LazyChain.C:=
 (fun(a b e i j:Int) (c:RB) (d h:List (List RB)) (f:List RB) (l:List (List ByteArray))=>if decide (a<b)then if decide (0<=e)then if decide (e<(d.length:Int))then if decide (0<=a)then if decide (a<(List.length (d.getD e.toNat []):Int))then(S.s_l01Times ((c.1,c.2.1,c.2.2),((List.getD (d.getD e.toNat []) a.toNat (false,[],[])).1,(List.getD (d.getD e.toNat []) a.toNat (false,[],[])).2.1,(List.getD (d.getD e.toNat []) a.toNat (false,[],[])).2.2),())).bind fun y9=>if e==a then(S.s_l01One ()).bind fun y10=>(S.s_l01Minus ((y10.1.1,y10.1.2.1,y10.1.2.2),(c.1,c.2.1,c.2.2),())).bind fun y11=>(S.s_l01Sum ((y9.1.1,y9.1.2.1,y9.1.2.2),(y11.1.1,y11.1.2.1,y11.1.2.2),())).bind fun y12=>if decide (((f.length+(List.length [(y12.1.1,y12.1.2.1,y12.1.2.2)]))*56)<=140737488355328)then g8 (wrap .i64 (a+1),b,(c.1,c.2.1,c.2.2),d,e,f++[(y12.1.1,y12.1.2.1,y12.1.2.2)],h,i,j,l,())else none else if decide (((f.length+(List.length [(y9.1.1,y9.1.2.1,y9.1.2.2)]))*56)<=140737488355328)then g8 (wrap .i64 (a+1),b,(c.1,c.2.1,c.2.2),d,e,f++[(y9.1.1,y9.1.2.1,y9.1.2.2)],h,i,j,l,())else none else none else none else none else none else if decide (((h.length+(List.length [f]))*24)<=140737488355328)then g5 (wrap .i64 (i+1),j,d,(c.1,c.2.1,c.2.2),h++[f],l,())else none) x7.1 x7.2.1 x7.2.2.2.2.1 x7.2.2.2.2.2.2.2.1 x7.2.2.2.2.2.2.2.2.1 x7.2.2.1 x7.2.2.2.1 x7.2.2.2.2.2.2.1 x7.2.2.2.2.2.1 x7.2.2.2.2.2.2.2.2.2.1
abbrev P.s_LazyChain_b3 (k:Nat) (x4:s_LazyChain.B) (g5:s_LazyChain.B->s_LazyChain.C):s_LazyChain.C:=
 if decide (x4.1<x4.2.1)then loopP (P.s_LazyChain_b6 g5) k (0,(x4.2.2.1.length:Int),(x4.2.2.2.1.1,x4.2.2.2.1.2.1,x4.2.2.2.1.2.2),x4.2.2.1,x4.1,[],x4.2.2.2.2.1,x4.1,x4.2.1,x4.2.2.2.2.2.1,())else(S.s_l03Give (x4.2.2.2.2.1,())).bind fun y13=>if dup (List.map (fun(y14:Nat×Nat)=>y14.1) (hd0 y13.1.1.1))then none else some (((nrm (hd0 y13.1.1.1) (in0 y13.1.1.1),y13.1.1.2),y13.1.2),())
def P.s_LazyChain (k:Nat) (x:List (List ByteArray)×ByteArray×Unit):s_LazyChain.C:=
 (S.s_l03Parse (x.1,())).bind fun y0=>(S.s_l01Parse (x.2.1,())).bind fun y1=>if !y0.1.2 then some (((([]:List (List ByteArray×Nat)),0),false),())else if !y1.1.2 then some (((([]:List (List ByteArray×Nat)),0),false),())else(S.s_l03Share ((y1.1.1.1,y1.1.1.2.1,y1.1.1.2.2),())).bind fun y2=>if !y2.1 then some (((([]:List (List ByteArray×Nat)),0),false),())else loopP (P.s_LazyChain_b3 k) k (0,(y0.1.1.length:Int),y0.1.1,(y1.1.1.1,y1.1.1.2.1,y1.1.1.2.2),[],[],())
theorem lzs_share {q:Q3} (h:low q) (hb:below 200 q):S.s_l03Share (((rp B10 q).1,(rp B10 q).2.1,(rp B10 q).2.2),())=some (!q.1&&decide (cmpZ q oneQ<=0),()):=by
 unfold S.s_l03Share P.s_l03Share;dsimp only;have en:S.s_l01Neg (((rp B10 q).1,(rp B10 q).2.1,(rp B10 q).2.2),())=some (q.1,()):=by rfl
 have h1:S.s_l01One ()=some (rp B10 oneQ,()):=by rfl
 have el:S.s_l01Less (((rp B10 oneQ).1,(rp B10 oneQ).2.1,(rp B10 oneQ).2.2),((rp B10 q).1,(rp B10 q).2.1,(rp B10 q).2.2),())=some (decide (cmpZ oneQ q<0),()):=rs_less oneQ_low h (oneQ_below (by decide)) (below_mono (n:=350000000) (by decide) hb);rw[en,Option.bind_some];dsimp only;cases hq:q.1
 ·rw[if_pos (by decide),h1,Option.bind_some];dsimp only;rw[el,Option.bind_some,cmp_one h];rfl
 ·rw[if_neg (by decide)];rfl
theorem lzs_row {M:List (List Q3)} (h:isCh M) {a:Q3} (ha:low a) (hb:below 200 a) {i:Nat} (hi:i<M.length) (g) {K:Nat} (hK:12<K):
  loopP (P.s_LazyChain_b6 g) K ((0:Int),(M.length:Int),rp B10 a,mp B10 M,(i:Int),([]:List (Bool×(List Int×List Int))),mp B10 (tab i fun i=>tab M.length (lazyQ M a i)),(i:Int),(M.length:Int),([]:List (List ByteArray)),())=g (((i+1:Nat):Int),(M.length:Int),mp B10 M,rp B10 a,mp B10 (tab (i+1) fun i=>tab M.length (lazyQ M a i)),([]:List (List ByteArray)),()):=by
 have hn:=h.2.1.1;obtain⟨l1,l2⟩:=lazy_ok h ha hb;have okA:okq a:=⟨ha,below_mono (by decide) hb⟩
 have key:=loop_up0 (k:=K) (b:=P.s_LazyChain_b6 g) (n:=M.length) (st:=fun j=>((j:Int),(M.length:Int),rp B10 a,mp B10 M,(i:Int),(tab j (lazyQ M a i)).map (rp B10),mp B10 (tab i fun i=>tab M.length (lazyQ M a i)),(i:Int),(M.length:Int),([]:List (List ByteArray)),())) (F:=fun _=>g (((i+1:Nat):Int),(M.length:Int),mp B10 M,rp B10 a,mp B10 (tab (i+1) fun i=>tab M.length (lazyQ M a i)),([]:List (List ByteArray)),())) (fun j g' hj hg=>by
  unfold P.s_LazyChain_b6;dsimp only at hg ⊢;have e1:(j:Int)<(M.length:Int):=by omega
  have e2:(0:Int)<=(j:Int):=by omega
  have e3:(0:Int)<=(i:Int):=by omega
  have e4:(i:Int)<(M.length:Int):=by omega
  have e7:(j+1)*56<=140737488355328:=by omega
  have e8:((mp B10 M).getD i []).getD j (false,(([]:List Int),([]:List Int)))=rp B10 (mq M i j):=mq_held h.2.1 hi hj;have em:S.s_l01Times (((rp B10 a).1,(rp B10 a).2.1,(rp B10 a).2.2),((rp B10 (mq M i j)).1,(rp B10 (mq M i j)).2.1,(rp B10 (mq M i j)).2.2),())=some (rp B10 (mulQ a (mq M i j)),()):=rs_mul ha okA.2 (ch_at h hi hj).1 (ch_at h hi hj).2.1 (Nat.le_refl _) (by decide);have h1:S.s_l01One ()=some (rp B10 oneQ,()):=by rfl
  have es:S.s_l01Minus (((rp B10 oneQ).1,(rp B10 oneQ).2.1,(rp B10 oneQ).2.2),((rp B10 a).1,(rp B10 a).2.1,(rp B10 a).2.2),())=some (rp B10 (addQ oneQ (oppQ a)),()):=rs_sub oneQ_low (oneQ_below (n:=350000000) (by decide)) ha okA.2 (Nat.le_refl _) (Nat.le_refl _);have ea:S.s_l01Sum (((rp B10 (mulQ a (mq M i j))).1,(rp B10 (mulQ a (mq M i j))).2.1,(rp B10 (mulQ a (mq M i j))).2.2),((rp B10 (addQ oneQ (oppQ a))).1,(rp B10 (addQ oneQ (oppQ a))).2.1,(rp B10 (addQ oneQ (oppQ a))).2.2),())=some (rp B10 (addQ (mulQ a (mq M i j)) (addQ oneQ (oppQ a))),()):=rs_add (l2 i hi j hj).1.1 (l2 i hi j hj).1.2 l1.1 l1.2 (Nat.le_refl _) (Nat.le_refl _);have hv:lazyQ M a i j=if i=j then addQ (mulQ a (mq M i j)) (addQ oneQ (oppQ a))else mulQ a (mq M i j):=rfl
  rw[<-tabm_snoc,hv]at hg;simp only[Int.toNat_natCast,mp_len,mq_wide h.2.1 hi,List.length_map,tab_len,List.length_cons,List.length_nil,Nat.zero_add,e1,e2,e3,e4,e7,e8,decide_true,if_true];rw[em,Option.bind_some];dsimp only;rw[wr (by omega) (by omega)]
  by_cases hij:i=j
  ·rw[if_pos hij]at hg;rw[if_pos (by rw[beq_iff_eq];omega),h1,Option.bind_some];dsimp only;rw[es,Option.bind_some];dsimp only;rw[ea,Option.bind_some];exact hg
  ·rw[if_neg hij]at hg;rw[if_neg (by rw[beq_iff_eq];omega)];exact hg) (fun g'=>by
  unfold P.s_LazyChain_b6;dsimp only;have e3:(i+1)*24<=140737488355328:=by omega
  rw[if_neg (by simp)];simp only[mp_len,tab_len,List.length_cons,List.length_nil,Nat.zero_add,e3,decide_true,if_true];rw[wr (by omega) (by omega)];have:mp B10 (tab (i+1) fun i=>tab M.length (lazyQ M a i))=mp B10 (tab i fun i=>tab M.length (lazyQ M a i))++[(tab M.length (lazyQ M a i)).map (rp B10)]:=by
   unfold mp;rw[tab_succ,List.map_append];rfl
  rw[this];rfl) (by omega)
 exact key
def S.s_LazyChain (x:((List (List ByteArray))×(ByteArray×Unit))):(Option (((((List ((List ByteArray)×Nat))×Nat))×Bool)×Unit)):=if x.1.all okT=true/\x.2.1.size<=1000000 then some (ownW (lzT x.1 x.2.1),())else none
theorem S.s_LazyChain_ok (x r) (h:S.s_LazyChain x=some r):∃k,P.s_LazyChain k x=some r:=by
 obtain⟨u,s,q⟩:=x;unfold S.s_LazyChain at h;dsimp only at h;split at h
 case isFalse=>cases h
 rename_i hc;obtain⟨hu,hs⟩:=hc;cases h;refine⟨13,?_⟩;unfold P.s_LazyChain lzT;dsimp only;have ep:S.s_l03Parse (u,())=some ((mp B10 (chQ u).1,(chQ u).2),()):=by
  unfold S.s_l03Parse;exact if_pos hu
 have er:S.s_l01Parse (s,())=some ((rp B10 (rdRat s.data.toList).1,(rdRat s.data.toList).2),()):=by
  unfold S.s_l01Parse;exact if_pos hs
 rw[ep,Option.bind_some,er,Option.bind_some];dsimp only;cases hf:(chQ u).2
 ·rw[if_pos (by decide),if_neg (by simp)];rfl
 obtain⟨hM,_⟩:=chQ_ok hf;rw[if_neg (by decide)];have hsh:shrQ s=((rdRat s.data.toList).2&&(!(rdRat s.data.toList).1.1&&decide (cmpZ (rdRat s.data.toList).1 oneQ<=0))):=rfl;have hsl:= @shr_low s;cases hr:(rdRat s.data.toList).2
 ·rw[hr]at hsh;rw[if_pos (by decide),if_neg (by rw[hsh];simp)];rfl
 have hql:=rdRat_low _ hr;have hqb:=(rdRat_ok _ hr).2;rw[hr,Bool.true_and]at hsh;rw[if_neg (by decide),lzs_share hql hqb,Option.bind_some,<-hsh];dsimp only;cases hg:shrQ s
 ·rw[if_pos (by decide),if_neg (by simp)];rfl
 rw[if_neg (by decide),if_pos ⟨rfl,rfl⟩];generalize (chQ u).1=M at*;generalize (rdRat s.data.toList).1=a at*;have hn:=hM.2.1.1;have key:=loop_up0 (k:=13) (b:=P.s_LazyChain_b3 13) (n:=M.length) (st:=fun i=>((i:Int),(M.length:Int),mp B10 M,rp B10 a,mp B10 (tab i fun i=>tab M.length (lazyQ M a i)),([]:List (List ByteArray)),())) (F:=fun _=>some (ownW (giveM (mat M.length (lazyQ M a))),())) (fun i g hi hg=>by
  unfold P.s_LazyChain_b3;dsimp only at hg ⊢;rw[if_pos (decide_eq_true (by omega)),mp_len,<-hg];exact lzs_row hM hql hqb hi g (by decide)) (fun g=>by
  unfold P.s_LazyChain_b3;dsimp only;have em:S.s_l03Give (mp B10 (tab M.length fun i=>tab M.length (lazyQ M a i)),())=some (ownW (giveM (mat M.length (lazyQ M a))),()):=s_l03Give_eq (okM_mat hn fun i hi j hj=>((lazy_ok hM hql hqb).2 i hi j hj).2);rw[if_neg (by simp),em,Option.bind_some];dsimp only;rw[hd0_dup,nrm_hd0,if_neg (by decide)]) (by omega)
 rw[mp_len];exact key
def P.i_magnitude (k:Nat) (x:Int×Unit):Option (Int×Unit):=
 if decide (x.1<0)then some (wrap .u64 (0 - (wrap .u64 x.1)),())else some (wrap .u64 x.1,())
def S.i_magnitude (x:(Int×Unit)):(Option (Int×Unit)):=if -9223372036854775808<=x.1/\x.1<=9223372036854775807 then some (((x.1.natAbs:Nat):Int),())else none
theorem S.i_magnitude_ok (x r) (h:S.i_magnitude x=some r):∃k,P.i_magnitude k x=some r:=by
 obtain⟨n,u⟩:=x;unfold S.i_magnitude at h;dsimp only at h;split at h
 case isFalse=>cases h
 rename_i hc;cases h;refine⟨0,?_⟩;unfold P.i_magnitude;dsimp only;have hw:∀y:Int,IntKind.wrap .u64 y=y%18446744073709551616:=fun _=>rfl
 rw[hw,hw]
 by_cases h0:n<0
 ·rw[if_pos (decide_eq_true h0)];congr 2;omega
 ·rw[if_neg (by simpa using h0)];congr 2;omega
abbrev P.i_nat_trim_b0 (x1:List Int×Unit) (g2:List Int×Unit->Option (List Int×Unit)):Option (List Int×Unit):=
 if decide ((x1.1.length:Int)>0)then if decide (0<=(wrap .i64 ((x1.1.length:Int) - 1)))then if decide ((wrap .i64 ((x1.1.length:Int) - 1))<(x1.1.length:Int))then if(x1.1.getD (Int.toNat (wrap .i64 ((x1.1.length:Int) - 1))) 0)==0 then if decide (0<=(wrap .i64 ((x1.1.length:Int) - 1)))then if decide ((wrap .i64 ((x1.1.length:Int) - 1))<=(x1.1.length:Int))then if decide (0<=(wrap .i64 ((x1.1.length:Int) - 1)))then g2 (seen x1.1 0 ((Int.toNat (wrap .i64 ((x1.1.length:Int) - 1))) - 0),())else none else none else none else some (x1.1,())else none else none else some (x1.1,())
def P.i_nat_trim (k:Nat) (x:List Int×Unit):Option (List Int×Unit):=
 loopP P.i_nat_trim_b0 k (x.1,())
theorem trim_loop (n:Nat):∀(xs:List Int) (k:Nat),xs.length=n->n<k->n<=1000000000000->dig B32 xs=true->loopP (X:=((List Int)×Unit)) (R:=((List Int)×Unit)) P.i_nat_trim_b0 k (xs,())=some (nd B32 (dval B32 xs),()):=by
 induction n with
 |zero=>
  intro xs k hx hk _ _;have:xs=[]:=List.eq_nil_of_length_eq_zero hx;subst this;obtain⟨k,rfl⟩:∃j,k=j+1:=⟨k - 1,by omega⟩
  rw[loopP_succ];unfold P.i_nat_trim_b0;rw[if_neg (by simp)];rw[show dval B32 []=0 from rfl,nd_zero B32_le]
 |succ n ih=>
  intro xs k hx hk hn hd;obtain⟨k,rfl⟩:∃j,k=j+1:=⟨k - 1,by omega⟩
  rw[loopP_succ];unfold P.i_nat_trim_b0;dsimp only;have e0:IntKind.wrap .i64 ((xs.length:Int) - 1)=(n:Int):=by rw[wr (by omega) (by omega)];omega
  have e1:(xs.length:Int)>0:=by omega
  have e2:(0:Int)<=(n:Int):=by omega
  have e3:(n:Int)<(xs.length:Int):=by omega
  have e4:(n:Int)<=(xs.length:Int):=by omega
  rw[e0];simp only[e1,e2,e3,e4,decide_true,if_true];rw[getD_cast xs n _ (by omega)];have hs:=take_snoc xs n hx;have hdt:dig B32 (xs.take n++[xs[n]])=true:=by rw[<-hs];exact hd
  by_cases hz:xs[n]=0
  ·rw[if_pos (by simp [hz])];have e5:seen xs 0 ((n:Int).toNat - 0)=xs.take n:=by simp [seen]
   rw[e5];have hdt':=hdt;rw[dig_append,Bool.and_eq_true]at hdt';rw[ih (xs.take n) k (by simp;omega) (by omega) (by omega) hdt'.1];have:dval B32 xs=dval B32 (xs.take n):=by
    conv=>lhs;rw[hs,hz]
    exact dval_snoc_zero _
   rw[this]
  ·rw[if_neg (by simp [hz])];have:=nd_snoc B32_le (xs.take n) xs[n] hdt hz;rw[<-hs]at this;rw[this]
def S.i_nat_trim (x:((List Int)×Unit)):(Option ((List Int)×Unit)):=if dig B32 x.1=true/\x.1.length<=1000000000000 then some (nd B32 (dval B32 x.1),())else none
theorem S.i_nat_trim_ok (x r) (h:S.i_nat_trim x=some r):∃k,P.i_nat_trim k x=some r:=by
 obtain⟨xs,u⟩:=x;unfold S.i_nat_trim at h;dsimp only at h;split at h
 case isFalse=>cases h
 rename_i hc;cases h;exact⟨xs.length+1,trim_loop xs.length xs _ rfl (by omega) hc.2 hc.1⟩
theorem trim_i (xs:List Int) (h:dig B32 xs=true) (hl:xs.length<=1000000000000):S.i_nat_trim (xs,())=some (nd B32 (dval B32 xs),()):=by
 unfold S.i_nat_trim;dsimp only;rw[if_pos ⟨h,hl⟩]
def P.i_natOf (k:Nat) (x:Int×Unit):Option (List Int×Unit):=
 (S.i_nat_trim ((wrap .u32 x.1)::[wrap .u32 (Int.fdiv x.1 4294967296)],())).bind fun y0=>some (y0.1,())
def S.i_natOf (x:(Int×Unit)):(Option ((List Int)×Unit)):=if 0<=x.1/\x.1<18446744073709551616 then some (nd B32 x.1.toNat,())else none
theorem S.i_natOf_ok (x r) (h:S.i_natOf x=some r):∃k,P.i_natOf k x=some r:=by
 obtain⟨n,u⟩:=x;unfold S.i_natOf at h;dsimp only at h;split at h
 case isFalse=>cases h
 rename_i hc;cases h;refine⟨0,?_⟩;unfold P.i_natOf;dsimp only;have hf:Int.fdiv n 4294967296=n/4294967296:=Int.fdiv_eq_ediv_of_nonneg _ (by omega);rw[hf,u32_mod n hc.1,u32_mod _ (by omega)];have hd:dig B32 [n%4294967296,n/4294967296%4294967296]=true:=by
  rw[dig_cons,dig_cons];refine⟨⟨by omega,?_⟩,⟨by omega,?_⟩,rfl⟩
  ·show _<(4294967296:Int);omega
  ·show _<(4294967296:Int);omega
 rw[trim_i _ hd (by simp),Option.bind_some];have:dval B32 [n%4294967296,n/4294967296%4294967296]=n.toNat:=by
  simp only[dval];show(n%4294967296).toNat+4294967296*((n/4294967296%4294967296).toNat+4294967296*0)=n.toNat;omega
 rw[this]
def P.i_whole (k:Nat) (x:Int×Unit):Option (RB×Unit):=
 (S.i_magnitude (x.1,())).bind fun y0=>(S.i_natOf (y0.1,())).bind fun y1=>(S.i_natOf (1,())).bind fun y2=>some ((decide (x.1<0),y1.1,y2.1),())
def S.i_whole (x:(Int×Unit)):(Option (RB×Unit)):=if -9223372036854775808<=x.1/\x.1<=9223372036854775807 then some (rp B32 (wholeQ x.1),())else none
theorem S.i_whole_ok (x r) (h:S.i_whole x=some r):∃k,P.i_whole k x=some r:=by
 obtain⟨n,u⟩:=x;unfold S.i_whole at h;dsimp only at h;split at h
 case isFalse=>cases h
 rename_i hc;cases h;refine⟨0,?_⟩;unfold P.i_whole S.i_magnitude S.i_natOf;dsimp only;rw[if_pos hc,Option.bind_some];dsimp only;rw[if_pos ⟨by omega,by omega⟩,Option.bind_some,Int.toNat_natCast,if_pos ⟨by decide,by decide⟩,Option.bind_some];rfl
abbrev P.i_nat_cmp_b0 (x1:Int×List Int×List Int×Unit) (g2:Int×List Int×List Int×Unit->Option (Int×Unit)):Option (Int×Unit):=
 (fun(a:Int) (b c:List Int)=>if decide (a>=0)then if decide (0<=a)then if decide (a<(b.length:Int))then if decide (0<=a)then if decide (a<(c.length:Int))then if(b.getD a.toNat 0) != (c.getD a.toNat 0)then if decide (0<=a)then if decide (a<(b.length:Int))then if decide (0<=a)then if decide (a<(c.length:Int))then if decide ((b.getD a.toNat 0)<(c.getD a.toNat 0))then some ((-1:Int),())else some (1,())else none else none else none else none else g2 (wrap .i64 (a - 1),b,c,())else none else none else none else none else some (0,())) x1.1 x1.2.1 x1.2.2.1
def P.i_nat_cmp (k:Nat) (x:List Int×List Int×Unit):Option (Int×Unit):=
 if(x.1.length:Int) != (x.2.1.length:Int)then if decide ((x.1.length:Int)<(x.2.1.length:Int))then some ((-1:Int),())else some (1,())else loopP P.i_nat_cmp_b0 k (wrap .i64 ((x.1.length:Int) - 1),x.1,x.2.1,())
def S.i_nat_cmp (x:((List Int)×((List Int)×Unit))):(Option (Int×Unit)):=if canon B32 x.1=true/\canon B32 x.2.1=true/\x.1.length<=1000000000000 then some (cmpN (dval B32 x.1) (dval B32 x.2.1),())else none
theorem S.i_nat_cmp_ok (x r) (h:S.i_nat_cmp x=some r):∃k,P.i_nat_cmp k x=some r:=by
 obtain⟨xs,ys,u⟩:=x;unfold S.i_nat_cmp at h;dsimp only at h;split at h
 case isFalse=>cases h
 rename_i hc;obtain⟨cx,cy,hl⟩:=hc;cases h;refine⟨xs.length+1,?_⟩;unfold P.i_nat_cmp;dsimp only
 by_cases hn:xs.length=ys.length
 ·rw[if_neg (by simp [hn]),wr (by omega) (by omega)];have key:=loop_up0 (k:=xs.length+1) (b:=P.i_nat_cmp_b0) (n:=xs.length) (st:=fun j=>((xs.length:Int) - 1 - (j:Int),xs,ys,())) (F:=fun j=>some (cmpN (dval B32 (xs.take (xs.length - j))) (dval B32 (ys.take (xs.length - j))),())) (fun j g hj hg=>by
   unfold P.i_nat_cmp_b0;dsimp only at hg ⊢;have e1:(xs.length:Int) - 1 - (j:Int)>=0:=by omega
   have e3:(0:Int)<=(xs.length:Int) - 1 - (j:Int):=by omega
   have e4:(xs.length:Int) - 1 - (j:Int)<(xs.length:Int):=by omega
   have e4':(xs.length:Int) - 1 - (j:Int)<(ys.length:Int):=by omega
   simp only[e1,e4,e4',decide_true,if_true];have hi:xs.length - (j+1)<xs.length:=by omega
   have hi':xs.length - (j+1)<ys.length:=by omega
   have e5:(xs.length:Int) - 1 - (j:Int)=((xs.length - (j+1):Nat):Int):=by omega
   have e6:xs.length - j=(xs.length - (j+1))+1:=by omega
   rw[e5,getD_cast xs _ _ hi,getD_cast ys _ _ hi',e6];generalize xs.length - (j+1)=i at*
   by_cases hq:xs[i]=ys[i]
   ·rw[if_neg (by simp [hq]),wr (by omega) (by omega)];have e7:((i:Nat):Int) - 1=(xs.length:Int) - 1 - ((j+1:Nat):Int):=by omega
    rw[e7,hg,<-List.take_append_getElem hi,<-List.take_append_getElem hi',dval_append,dval_append,hq];have hlx:(xs.take i).length=i:=by simp;omega
    have hly:(ys.take i).length=i:=by simp;omega
    rw[hlx,hly];unfold cmpN;simp only[Nat.add_lt_add_iff_right]
   ·rw[if_pos (by simp [hq])]
    by_cases hlt:xs[i]<ys[i]
    ·have:=dval_top xs ys i hi hi' (canon_dig cx) (canon_dig cy) hlt;rw[if_pos (decide_eq_true hlt),cmpN,if_pos this]
    ·have:=dval_top ys xs i hi' hi (canon_dig cy) (canon_dig cx) (by omega);rw[if_neg (by simpa using hlt),cmpN,if_neg (by omega),if_pos this]) (fun g=>by
   unfold P.i_nat_cmp_b0;dsimp only;rw[if_neg (by simp;omega),Nat.sub_self,List.take_zero,List.take_zero];rfl) (by omega)
  rw[show(xs.length:Int) - 1 - ((0:Nat):Int)=(xs.length:Int) - 1 by omega,Nat.sub_zero,List.take_length,List.take_of_length_le (by omega)]at key;exact key
 ·rw[if_pos (by simp;omega)]
  by_cases hlt:xs.length<ys.length
  ·rw[if_pos (decide_eq_true (by omega)),cmpN,if_pos (canon_small B32_le cx cy hlt)]
  ·have:=canon_small B32_le cy cx (by omega);rw[if_neg (by simp;omega),cmpN,if_neg (by omega),if_pos this]
abbrev P.i_nat_sub_b0 (x1:Int×Int×List Int×Int×List Int×List Int×Unit) (g2:Int×Int×List Int×Int×List Int×List Int×Unit->Option (List Int×Unit)):Option (List Int×Unit):=
 (fun(a b d:Int) (c e f:List Int)=>if decide (a<b)then if decide (0<=a)then if decide (a<(c.length:Int))then if decide (a<(e.length:Int))then if decide (0<=a)then if decide (a<(e.length:Int))then if decide ((wrap .i64 ((wrap .i64 ((wrap .i64 (c.getD a.toNat 0)) - d)) - (wrap .i64 (e.getD a.toNat 0))))<0)then if decide (0<=a)then if decide (a<(f.length:Int))then g2 (wrap .i64 (a+1),b,c,1,e,f.set (0+a.toNat) (wrap .u32 (wrap .i64 ((wrap .i64 ((wrap .i64 (c.getD a.toNat 0)) - d)) - (wrap .i64 (e.getD a.toNat 0))))),())else none else none else if decide (0<=a)then if decide (a<(f.length:Int))then g2 (wrap .i64 (a+1),b,c,0,e,f.set (0+a.toNat) (wrap .u32 (wrap .i64 ((wrap .i64 ((wrap .i64 (c.getD a.toNat 0)) - d)) - (wrap .i64 (e.getD a.toNat 0))))),())else none else none else none else none else if decide ((wrap .i64 ((wrap .i64 (c.getD a.toNat 0)) - d))<0)then if decide (0<=a)then if decide (a<(f.length:Int))then g2 (wrap .i64 (a+1),b,c,1,e,f.set (0+a.toNat) (wrap .u32 (wrap .i64 ((wrap .i64 (c.getD a.toNat 0)) - d))),())else none else none else if decide (0<=a)then if decide (a<(f.length:Int))then g2 (wrap .i64 (a+1),b,c,0,e,f.set (0+a.toNat) (wrap .u32 (wrap .i64 ((wrap .i64 (c.getD a.toNat 0)) - d))),())else none else none else none else none else(S.i_nat_trim (f,())).bind fun y3=>some (y3.1,())) x1.1 x1.2.1 x1.2.2.2.1 x1.2.2.1 x1.2.2.2.2.1 x1.2.2.2.2.2.1
def P.i_nat_sub (k:Nat) (x:List Int×List Int×Unit):Option (List Int×Unit):=
 if decide (0<=(x.1.length:Int))then if decide ((x.1.length:Int)<=(x.1.length:Int))then if decide (((x.1.length:Int)*4)<=281474976710656)then loopP P.i_nat_sub_b0 k (0,(x.1.length:Int),x.1,0,x.2.1,List.replicate (Int.toNat (x.1.length:Int)) 0,())else none else none else none
def S.i_nat_sub (x:((List Int)×((List Int)×Unit))):(Option ((List Int)×Unit)):=if dig B32 x.1=true/\dig B32 x.2.1=true/\x.2.1.length<=x.1.length/\dval B32 x.2.1<=dval B32 x.1/\x.1.length<=10000000000 then some (nd B32 (dval B32 x.1 - dval B32 x.2.1),())else none
theorem S.i_nat_sub_ok (x r) (h:S.i_nat_sub x=some r):∃k,P.i_nat_sub k x=some r:=by
 obtain⟨xs,ys,u⟩:=x;unfold S.i_nat_sub at h;dsimp only at h;split at h
 case isFalse=>cases h
 rename_i hc;obtain⟨dx,dy,hl,hv,lx⟩:=hc;cases h;refine⟨xs.length+1,?_⟩;unfold P.i_nat_sub;dsimp only;have a1:(0:Int)<=(xs.length:Int):=by omega
 have a2:(xs.length:Int)*4<=281474976710656:=by omega
 simp only[a1,a2,decide_true,if_true,Int.le_refl,Int.toNat_natCast];have key:=loop_up0 (k:=xs.length+1) (b:=P.i_nat_sub_b0) (n:=xs.length) (st:=fun i=>((i:Int),(xs.length:Int),xs,((takeUp B32 1 xs ys i).2.2:Int),ys,(takeUp B32 1 xs ys i).1++List.replicate (xs.length - i) 0,())) (F:=fun i=>some (nd B32 (dval B32 xs - dval B32 ys),())) (fun i g hi hg=>by
  unfold P.i_nat_sub_b0;dsimp only at hg ⊢;refine Eq.trans ?_ hg;clear hg;obtain⟨q1,q2,q3,q4,q5⟩:=takeUp_ok (t:=1) B32_le dx dy i;have gx:=dig_getD (B:=B32) (by decide) dx i;have gy:=dig_getD (B:=B32) (by decide) dy i;have gx1:xs.getD i 0<4294967296:=gx.2;have gy1:ys.getD i 0<4294967296:=gy.2;have gx0:=gx.1;have gy0:=gy.1;have hlen:((takeUp B32 1 xs ys i).1++List.replicate (xs.length - i) (0:Int)).length=xs.length:=by rw[List.length_append,q2,List.length_replicate];omega
  have e1:(i:Int)<(xs.length:Int):=by omega
  have e2:(0:Int)<=(i:Int):=by omega
  rw[hlen];simp only[e1,e2,decide_true,if_true,Nat.zero_add,Int.toNat_natCast];have hrep:List.replicate (xs.length - i) (0:Int)=0::List.replicate (xs.length - (i+1)) 0:=by
   rw[show xs.length - i=(xs.length - (i+1))+1 by omega,List.replicate_succ]
  rw[hrep];simp only[mid_set q2];rw[(takeUp_one B32_le (xs:=xs) dy i).2];dsimp only;have y0:¬((i:Int)<(ys.length:Int))->ys.getD i 0=0:=by
   intro hj;rw[List.getD_eq_getElem?_getD,List.getElem?_eq_none (by omega)];rfl
  generalize (takeUp B32 1 xs ys i).1=pl at*;generalize (takeUp B32 1 xs ys i).2.2=l0 at*;obtain⟨x,hx⟩:∃x,xs.getD i 0=x:=⟨_,rfl⟩
  obtain⟨y,hy⟩:∃y,ys.getD i 0=y:=⟨_,rfl⟩
  simp only[hx,hy]at gx1 gx0 gy1 gy0 y0 ⊢;have hB:((B32:Nat):Int)=4294967296:=rfl;rw[wr (x:=(i:Int)+1) (by omega) (by omega),wr (x:=x) (by omega) (by omega),wr (x:=x - (l0:Int)) (by omega) (by omega),hB]
  by_cases hj:(i:Int)<(ys.length:Int)
  ·rw[if_pos (decide_eq_true hj),if_pos (decide_eq_true hj),wr (x:=y) (by omega) (by omega),wr (x:=x - (l0:Int) - y) (by omega) (by omega),u32_emod,show x - (l0:Int) - y=x - y - (l0:Int) by omega]
   by_cases hn:x - y - (l0:Int)<0
   ·rw[if_pos (decide_eq_true hn),if_pos hn];rfl
   ·rw[if_neg (by simpa using hn),if_neg hn];rfl
  ·have hy0:=y0 hj;subst hy0;rw[if_neg (by simpa using hj),u32_emod,show x - 0 - (l0:Int)=x - (l0:Int) by omega]
   by_cases hn:x - (l0:Int)<0
   ·rw[if_pos (decide_eq_true hn),if_pos hn];rfl
   ·rw[if_neg (by simpa using hn),if_neg hn];rfl) (fun g=>by
  unfold P.i_nat_sub_b0;dsimp only;rw[if_neg (by simp),Nat.sub_self,show List.replicate 0 (0:Int)=[]from rfl,List.append_nil,takeUp_fd B32_le dx dy hl hv];unfold S.i_nat_trim;dsimp only;have hb:=dval_lt dx;rw[if_pos ⟨dig_fd (by decide) _ _,by rw[fd_len];omega⟩,Option.bind_some,nd_fd B32_le (by omega)]) (by omega)
 exact key
abbrev i_nat_add.A:=Int×Int×Int×List Int×List Int×List Int×Unit
abbrev i_nat_add.B:=Option (List Int×Unit)
abbrev P.i_nat_add_b0 (x1:i_nat_add.A) (g2:i_nat_add.A->i_nat_add.B):i_nat_add.B:=
 (fun(a b c:Int) (d e f:List Int)=>if decide (a<b)then if decide (0<=a)then if decide (a<(d.length:Int))then if decide (a<(e.length:Int))then if decide (0<=a)then if decide (a<(e.length:Int))then if decide (0<=a)then if decide (a<(f.length:Int))then g2 (wrap .i64 (a+1),b,Int.fdiv (wrap .u64 ((wrap .u64 (c+(wrap .u64 (d.getD a.toNat 0))))+(wrap .u64 (e.getD a.toNat 0)))) 4294967296,d,e,f.set (0+a.toNat) (wrap .u32 (wrap .u64 ((wrap .u64 (c+(wrap .u64 (d.getD a.toNat 0))))+(wrap .u64 (e.getD a.toNat 0))))),())else none else none else none else none else if decide (0<=a)then if decide (a<(f.length:Int))then g2 (wrap .i64 (a+1),b,Int.fdiv (wrap .u64 (c+(wrap .u64 (d.getD a.toNat 0)))) 4294967296,d,e,f.set (0+a.toNat) (wrap .u32 (wrap .u64 (c+(wrap .u64 (d.getD a.toNat 0))))),())else none else none else none else none else if decide (0<=(d.length:Int))then if decide ((d.length:Int)<(f.length:Int))then(S.i_nat_trim (f.set (0+(Int.toNat (d.length:Int))) (wrap .u32 c),())).bind fun y3=>some (y3.1,())else none else none) x1.1 x1.2.1 x1.2.2.1 x1.2.2.2.1 x1.2.2.2.2.1 x1.2.2.2.2.2.1
abbrev P.i_nat_add_b4 (x5:i_nat_add.A) (g6:i_nat_add.A->i_nat_add.B):i_nat_add.B:=
 (fun(a b c:Int) (d e f:List Int)=>if decide (a<b)then if decide (0<=a)then if decide (a<(d.length:Int))then if decide (a<(e.length:Int))then if decide (0<=a)then if decide (a<(e.length:Int))then if decide (0<=a)then if decide (a<(f.length:Int))then g6 (wrap .i64 (a+1),b,Int.fdiv (wrap .u64 ((wrap .u64 (c+(wrap .u64 (d.getD a.toNat 0))))+(wrap .u64 (e.getD a.toNat 0)))) 4294967296,d,e,f.set (0+a.toNat) (wrap .u32 (wrap .u64 ((wrap .u64 (c+(wrap .u64 (d.getD a.toNat 0))))+(wrap .u64 (e.getD a.toNat 0))))),())else none else none else none else none else if decide (0<=a)then if decide (a<(f.length:Int))then g6 (wrap .i64 (a+1),b,Int.fdiv (wrap .u64 (c+(wrap .u64 (d.getD a.toNat 0)))) 4294967296,d,e,f.set (0+a.toNat) (wrap .u32 (wrap .u64 (c+(wrap .u64 (d.getD a.toNat 0))))),())else none else none else none else none else if decide (0<=(d.length:Int))then if decide ((d.length:Int)<(f.length:Int))then(S.i_nat_trim (f.set (0+(Int.toNat (d.length:Int))) (wrap .u32 c),())).bind fun y7=>some (y7.1,())else none else none) x5.1 x5.2.1 x5.2.2.1 x5.2.2.2.1 x5.2.2.2.2.1 x5.2.2.2.2.2.1
def P.i_nat_add (k:Nat) (x:List Int×List Int×Unit):i_nat_add.B:=
 if decide ((x.1.length:Int)<(x.2.1.length:Int))then if decide (0<=(wrap .i64 ((x.2.1.length:Int)+1)))then if decide ((wrap .i64 ((x.2.1.length:Int)+1))<=(wrap .i64 ((x.2.1.length:Int)+1)))then if decide (((wrap .i64 ((x.2.1.length:Int)+1))*4)<=281474976710656)then loopP P.i_nat_add_b0 k (0,(x.2.1.length:Int),0,x.2.1,x.1,List.replicate (Int.toNat (wrap .i64 ((x.2.1.length:Int)+1))) 0,())else none else none else none else if decide (0<=(wrap .i64 ((x.1.length:Int)+1)))then if decide ((wrap .i64 ((x.1.length:Int)+1))<=(wrap .i64 ((x.1.length:Int)+1)))then if decide (((wrap .i64 ((x.1.length:Int)+1))*4)<=281474976710656)then loopP P.i_nat_add_b4 k (0,(x.1.length:Int),0,x.1,x.2.1,List.replicate (Int.toNat (wrap .i64 ((x.1.length:Int)+1))) 0,())else none else none else none
theorem add_loop (b:(Int×(Int×(Int×((List Int)×((List Int)×((List Int)×Unit))))))->((Int×(Int×(Int×((List Int)×((List Int)×((List Int)×Unit))))))->Option ((List Int)×Unit))->Option ((List Int)×Unit)) (hb:b=P.i_nat_add_b0)
  (xs ys:List Int) (hx:dig B32 xs=true) (hy:dig B32 ys=true) (hl:ys.length<=xs.length) (hbig:xs.length<=100000000000):
  loopP b (xs.length+1) ((0:Int),((xs.length:Int),((0:Int),(xs,(ys,(List.replicate (xs.length+1) 0,()))))))=some (nd B32 (dval B32 xs+dval B32 ys),()):=by
 subst hb;have key:=loop_up0 (k:=xs.length+1) (b:=P.i_nat_add_b0) (n:=xs.length) (st:=fun i=>((i:Int),(xs.length:Int),((addUp B32 xs ys i).2:Int),xs,ys,(addUp B32 xs ys i).1++List.replicate (xs.length+1 - i) 0,())) (F:=fun i=>some (nd B32 (dval B32 xs+dval B32 ys),())) (fun i g hi hg=>by
  unfold P.i_nat_add_b0;dsimp only at hg ⊢;obtain⟨q1,q2,q3,q4⟩:=addUp_ok B32_le hx hy i;have gx:=dig_getD (B:=B32) (by decide) hx i;have gy:=dig_getD (B:=B32) (by decide) hy i;have gx1:xs.getD i 0<4294967296:=gx.2;have gy1:ys.getD i 0<4294967296:=gy.2;have gx0:=gx.1;have gy0:=gy.1;have hlen:((addUp B32 xs ys i).1++List.replicate (xs.length+1 - i) (0:Int)).length=xs.length+1:=by rw[List.length_append,q2,List.length_replicate];omega
  have e1:(i:Int)<(xs.length:Int):=by omega
  have e2:(0:Int)<=(i:Int):=by omega
  have e3:(i:Int)<((xs.length+1:Nat):Int):=by omega
  have hset:∀v:Int,((addUp B32 xs ys i).1++List.replicate (xs.length+1 - i) (0:Int)).set i v=((addUp B32 xs ys i).1++[v])++List.replicate (xs.length+1 - (i+1)) 0:=by
   intro v;have z1:xs.length+1 - i=(xs.length+1 - (i+1))+1:=by omega
   rw[z1,List.replicate_succ,List.set_append_right _ _ (by omega),q2,Nat.sub_self,List.append_assoc];rfl
  rw[hlen];simp only[e1,e2,e3,decide_true,if_true,Nat.zero_add,Int.toNat_natCast,hset];have hnat:∀n:Nat,n=(addUp B32 xs ys i).2+(xs.getD i 0).toNat+(ys.getD i 0).toNat->(((n%B32:Nat):Int)=(n:Int)%4294967296/\((n/B32:Nat):Int)=(n:Int)/4294967296):=by
   intro n _;constructor
   ·show((n%4294967296:Nat):Int)=_;omega
   ·show((n/4294967296:Nat):Int)=_;omega
  obtain⟨n1,n2⟩:=hnat _ rfl;rw[addUp]at hg;dsimp only at hg;rw[n1,n2]at hg
  by_cases hj:(i:Int)<(ys.length:Int)
  ·rw[if_pos (decide_eq_true hj),if_pos (decide_eq_true hj)];rw[wu (x:=xs.getD i 0) (by omega) (by omega),wu (x:=ys.getD i 0) (by omega) (by omega),wu (x:=((addUp B32 xs ys i).2:Int)+xs.getD i 0) (by omega) (by omega),wu (x:=((addUp B32 xs ys i).2:Int)+xs.getD i 0+ys.getD i 0) (by omega) (by omega),u32_mod _ (by omega),Int.fdiv_eq_ediv_of_nonneg _ (by omega),wr (by omega) (by omega)];have e:(((addUp B32 xs ys i).2+(xs.getD i 0).toNat+(ys.getD i 0).toNat:Nat):Int)=((addUp B32 xs ys i).2:Int)+xs.getD i 0+ys.getD i 0:=by omega
   rw[e]at hg;exact hg
  ·rw[if_neg (by simpa using hj)];have y0:ys.getD i 0=0:=by rw[List.getD_eq_getElem?_getD,List.getElem?_eq_none (by omega)];rfl
   rw[wu (x:=xs.getD i 0) (by omega) (by omega),wu (x:=((addUp B32 xs ys i).2:Int)+xs.getD i 0) (by omega) (by omega),u32_mod _ (by omega),Int.fdiv_eq_ediv_of_nonneg _ (by omega),wr (by omega) (by omega)];have e:(((addUp B32 xs ys i).2+(xs.getD i 0).toNat+(ys.getD i 0).toNat:Nat):Int)=((addUp B32 xs ys i).2:Int)+xs.getD i 0:=by omega
   rw[e]at hg;exact hg) (fun g=>by
  unfold P.i_nat_add_b0;dsimp only;obtain⟨q1,q2,q3,q4⟩:=addUp_ok B32_le hx hy xs.length;have hlen:((addUp B32 xs ys xs.length).1++List.replicate (xs.length+1 - xs.length) (0:Int)).length=xs.length+1:=by rw[List.length_append,q2,List.length_replicate];omega
  have e2:(0:Int)<=(xs.length:Int):=by omega
  have e3:(xs.length:Int)<((xs.length+1:Nat):Int):=by omega
  rw[if_neg (by simp),hlen,if_pos (decide_eq_true e2),if_pos (decide_eq_true e3),Nat.zero_add,Int.toNat_natCast];have hset:∀v:Int,((addUp B32 xs ys xs.length).1++List.replicate (xs.length+1 - xs.length) (0:Int)).set xs.length v=(addUp B32 xs ys xs.length).1++[v]:=by
   intro v;have z1:xs.length+1 - xs.length=1:=by omega
   rw[z1,List.set_append_right _ _ (by omega),q2,Nat.sub_self];rfl
  rw[hset,w32 (by omega) (by omega)];have hd:dig B32 ((addUp B32 xs ys xs.length).1++[((addUp B32 xs ys xs.length).2:Int)])=true:=by
   rw[dig_append,q1,Bool.true_and,dig_cons];refine⟨⟨by omega,?_⟩,rfl⟩;show _<(4294967296:Int)
   omega
  rw[trim_i _ hd (by simp [q2];omega),Option.bind_some];have ev:dval B32 ((addUp B32 xs ys xs.length).1++[((addUp B32 xs ys xs.length).2:Int)])=dval B32 xs+dval B32 ys:=by
   rw[dval_append,q2];have e:dval B32 [((addUp B32 xs ys xs.length).2:Int)]=(addUp B32 xs ys xs.length).2:=by simp [dval]
   rw[e,q3,List.take_length,List.take_of_length_le hl]
  rw[ev]) (by omega)
 exact key
def S.i_nat_add (x:((List Int)×((List Int)×Unit))):(Option ((List Int)×Unit)):=if dig B32 x.1=true/\dig B32 x.2.1=true/\x.1.length<=10000000000/\x.2.1.length<=10000000000 then some (nd B32 (dval B32 x.1+dval B32 x.2.1),())else none
theorem S.i_nat_add_ok (x r) (h:S.i_nat_add x=some r):∃k,P.i_nat_add k x=some r:=by
 obtain⟨xs,ys,u⟩:=x;unfold S.i_nat_add at h;dsimp only at h;split at h
 case isFalse=>cases h
 rename_i hc;obtain⟨dx,dy,lx,ly⟩:=hc;cases h
 by_cases hlt:xs.length<ys.length
 ·refine⟨ys.length+1,?_⟩;unfold P.i_nat_add;dsimp only;have a1:(0:Int)<=(ys.length:Int)+1:=by omega
  have a3:((ys.length:Int)+1)*4<=281474976710656:=by omega
  rw[if_pos (decide_eq_true (by omega)),wr (by omega) (by omega),if_pos (decide_eq_true a1),if_pos (decide_eq_true (Int.le_refl _)),if_pos (decide_eq_true a3)];rw[show((ys.length:Int)+1).toNat=ys.length+1 by omega,add_loop P.i_nat_add_b0 rfl ys xs dy dx (by omega) (by omega),Nat.add_comm]
 ·refine⟨xs.length+1,?_⟩;unfold P.i_nat_add;dsimp only;have a1:(0:Int)<=(xs.length:Int)+1:=by omega
  have a3:((xs.length:Int)+1)*4<=281474976710656:=by omega
  rw[if_neg (by simp;omega),wr (by omega) (by omega),if_pos (decide_eq_true a1),if_pos (decide_eq_true (Int.le_refl _)),if_pos (decide_eq_true a3)];rw[show((xs.length:Int)+1).toNat=xs.length+1 by omega];exact add_loop P.i_nat_add_b4 rfl xs ys dx dy (by omega) (by omega)
abbrev i_nat_mul.A:=Int×Int×List Int×Int×Int×List Int×Int×List Int×Int×Int×List Int×Unit
abbrev i_nat_mul.B:=Int×Int×List Int×List Int×List Int×Unit
abbrev i_nat_mul.C:=Option (List Int×Unit)
abbrev P.i_nat_mul_b3 (g2:i_nat_mul.B->i_nat_mul.C) (x4:i_nat_mul.A) (g5:i_nat_mul.A->i_nat_mul.C):i_nat_mul.C:=
 (fun(a b d e h j l:Int) (c f i m:List Int)=>if decide (a<b)then if decide (0<=a)then if decide (a<(c.length:Int))then if decide (0<=(wrap .i64 (h+a)))then if decide ((wrap .i64 (h+a))<(f.length:Int))then if decide (0<=(wrap .i64 (h+a)))then if decide ((wrap .i64 (h+a))<(f.length:Int))then g5 (wrap .i64 (a+1),b,c,Int.fdiv (wrap .u64 (d+(wrap .u64 ((wrap .u64 ((wrap .u64 e)*(wrap .u64 (c.getD a.toNat 0))))+(wrap .u64 (f.getD (0+(Int.toNat (wrap .i64 (h+a)))) 0)))))) 4294967296,e,f.set (0+(Int.toNat (wrap .i64 (h+a)))) (wrap .u32 (wrap .u64 (d+(wrap .u64 ((wrap .u64 ((wrap .u64 e)*(wrap .u64 (c.getD a.toNat 0))))+(wrap .u64 (f.getD (0+(Int.toNat (wrap .i64 (h+a)))) 0))))))),h,i,j,l,m,())else none else none else none else none else none else none else if decide (0<=(wrap .i64 (h+(i.length:Int))))then if decide ((wrap .i64 (h+(i.length:Int)))<(f.length:Int))then g2 (wrap .i64 (j+1),l,m,i,f.set (0+(Int.toNat (wrap .i64 (h+(i.length:Int))))) (wrap .u32 d),())else none else none) x4.1 x4.2.1 x4.2.2.2.1 x4.2.2.2.2.1 x4.2.2.2.2.2.2.1 x4.2.2.2.2.2.2.2.2.1 x4.2.2.2.2.2.2.2.2.2.1 x4.2.2.1 x4.2.2.2.2.2.1 x4.2.2.2.2.2.2.2.1 x4.2.2.2.2.2.2.2.2.2.2.1
abbrev P.i_nat_mul_b0 (k:Nat) (x1:i_nat_mul.B) (g2:i_nat_mul.B->i_nat_mul.C):i_nat_mul.C:=
 if decide (x1.1<x1.2.1)then if decide (0<=x1.1)then if decide (x1.1<(x1.2.2.1.length:Int))then loopP (P.i_nat_mul_b3 g2) k (0,(x1.2.2.2.1.length:Int),x1.2.2.2.1,0,x1.2.2.1.getD x1.1.toNat 0,x1.2.2.2.2.1,x1.1,x1.2.2.2.1,x1.1,x1.2.1,x1.2.2.1,())else none else none else(S.i_nat_trim (x1.2.2.2.2.1,())).bind fun y6=>some (y6.1,())
def P.i_nat_mul (k:Nat) (x:List Int×List Int×Unit):i_nat_mul.C:=
 if decide (0<=(wrap .i64 ((x.1.length:Int)+(x.2.1.length:Int))))then if decide ((wrap .i64 ((x.1.length:Int)+(x.2.1.length:Int)))<=(wrap .i64 ((x.1.length:Int)+(x.2.1.length:Int))))then if decide (((wrap .i64 ((x.1.length:Int)+(x.2.1.length:Int)))*4)<=281474976710656)then loopP (P.i_nat_mul_b0 k) k (0,(x.1.length:Int),x.1,x.2.1,List.replicate (Int.toNat (wrap .i64 ((x.1.length:Int)+(x.2.1.length:Int)))) 0,())else none else none else none
theorem im_inner (g:(Int×(Int×((List Int)×((List Int)×((List Int)×Unit)))))->(Option ((List Int)×Unit))) (F:Option ((List Int)×Unit)) {xs ys:List Int} (hx:dig B32 xs=true) (hy:dig B32 ys=true) (hlx:xs.length<=10000000000) (hly:ys.length<=10000000000) {i:Nat} (hi:i<xs.length) (K:Nat) (hK:ys.length<K)
  (hg:g (((i+1:Nat):Int),((xs.length:Int),(xs,(ys,(fd B32 (xs.length+ys.length) (dval B32 (xs.take (i+1))*dval B32 ys),())))))=F):
  loopP (P.i_nat_mul_b3 g) K ((0:Int),((ys.length:Int),(ys,((0:Int),(xs.getD i 0,(fd B32 (xs.length+ys.length) (dval B32 (xs.take i)*dval B32 ys),((i:Int),(ys,((i:Int),((xs.length:Int),(xs,())))))))))))=F:=by
 have hA:=mul_bound B32_le hx hy i (by omega);have hA':=mul_bound B32_le hx hy (i+1) (by omega);have gx:=dig_getD (B:=B32) (by decide) hx i;have gx1:xs.getD i 0<4294967296:=gx.2;have gx0:=gx.1;rw[dval_take_succ,Nat.add_mul,Nat.mul_assoc]at hg hA';generalize dval B32 (xs.take i)*dval B32 ys=A at*;obtain⟨x,hxe⟩:∃x:Nat,xs.getD i 0=(x:Int):=⟨(xs.getD i 0).toNat,by omega⟩
 rw[hxe,Int.toNat_natCast]at hg hA';rw[hxe]at gx1 ⊢;have hxB:x<B32:=by show x<4294967296;omega
 have hsh:=mul_shape B32_le hi hA;rw[hsh];have hlw:(fd B32 ys.length (A/B32^i)).length=ys.length:=fd_len _ _ _;have hdw:dig B32 (fd B32 ys.length (A/B32^i))=true:=dig_fd (by decide) _ _;have hvw:dval B32 (fd B32 ys.length (A/B32^i))=A/B32^i:=by
  rw[dval_fd,Nat.mod_eq_of_lt];rw[Nat.div_lt_iff_lt_mul (Nat.pow_pos (by decide)),<-Nat.pow_add,Nat.add_comm];exact hA
 have hnext:=mul_next B32_le (la:=xs.length) (lb:=ys.length) (R:=x*dval B32 ys) hi hA';generalize hR:List.replicate (xs.length - 1 - i) (0:Int)=R at*;have hRl:R.length=xs.length - 1 - i:=by rw[<-hR,List.length_replicate]
 generalize hW:fd B32 ys.length (A/B32^i)=W at*;have hl0:(fd B32 i A).length=i:=fd_len _ _ _;have key:=loop_up0 (k:=K) (b:=P.i_nat_mul_b3 g) (n:=ys.length) (st:=fun k=>((k:Int),(ys.length:Int),ys,((maUp B32 x W ys k).2:Int),(x:Int),(fd B32 i A++(maUp B32 x W ys k).1)++(W.drop k++(0:Int)::R),(i:Int),ys,(i:Int),(xs.length:Int),xs,())) (F:=fun k=>F) (fun k g' hk hg'=>by
  unfold P.i_nat_mul_b3;dsimp only at hg' ⊢;refine Eq.trans ?_ hg';clear hg';obtain⟨q1,q2,q3,q4⟩:=maUp_ok (x:=x) B32_le hxB hdw hy k;have q4':(maUp B32 x W ys k).2<4294967296:=q4;have gy:=dig_getD (B:=B32) (by decide) hy k;have gw:=dig_getD (B:=B32) (by decide) hdw k;have gy1:ys.getD k 0<4294967296:=gy.2;have gw1:W.getD k 0<4294967296:=gw.2;have gy0:=gy.1;have gw0:=gw.1;have hAl:(fd B32 i A++(maUp B32 x W ys k).1).length=i+k:=by rw[List.length_append,hl0,q2]
  have hlen:((fd B32 i A++(maUp B32 x W ys k).1)++(W.drop k++(0:Int)::R)).length=xs.length+ys.length:=by
   rw[List.length_append,hAl,List.length_append,List.length_drop,List.length_cons,hlw,hRl];omega
  have e1:(k:Int)<(ys.length:Int):=by omega
  have e2:(0:Int)<=(k:Int):=by omega
  have e3:(0:Int)<=((i+k:Nat):Int):=by omega
  have e4:((i+k:Nat):Int)<((xs.length+ys.length:Nat):Int):=by omega
  rw[hlen,<-Int.natCast_add i k,wr (x:=((i+k:Nat):Int)) (by omega) (by omega)];simp only[e1,e2,e3,e4,decide_true,if_true,Nat.zero_add,Int.toNat_natCast];rw[drop_cons_getD (xs:=W) (i:=k) (by omega),List.cons_append,mid_get hAl];simp only[mid_set hAl];rw[maUp];dsimp only;generalize W.getD k 0=w at*;generalize ys.getD k 0=y at*;generalize maUp B32 x W ys k=p at*;obtain⟨pl,c0⟩:=p;dsimp only at*;obtain⟨Y,rfl⟩:∃Y:Nat,y=(Y:Int):=⟨y.toNat,by omega⟩
  obtain⟨w',rfl⟩:∃Y:Nat,w=(Y:Int):=⟨w.toNat,by omega⟩
  rw[Int.toNat_natCast,Int.toNat_natCast];have hxY:x*Y<=4294967295*4294967295:=Nat.mul_le_mul (by omega) (by omega);rw[wu (x:=(x:Int)) (by omega) (by omega),wu (x:=(Y:Int)) (by omega) (by omega),<-Int.natCast_mul,wu (x:=((x*Y:Nat):Int)) (by omega) (by omega),wu (x:=(w':Int)) (by omega) (by omega),<-Int.natCast_add,wu (x:=((x*Y+w':Nat):Int)) (by omega) (by omega),<-Int.natCast_add,wu (x:=((c0+(x*Y+w'):Nat):Int)) (by omega) (by omega),Int.fdiv_eq_ediv_of_nonneg _ (by omega),u32_emod,wr (x:=(k:Int)+1) (by omega) (by omega)];have e8:((c0+(x*Y+w'):Nat):Int)%4294967296=(((c0+(x*Y+w'))%B32:Nat):Int):=by
   show _=(((c0+(x*Y+w'))%4294967296:Nat):Int)
   omega
  have e9:((c0+(x*Y+w'):Nat):Int)/4294967296=(((c0+(x*Y+w'))/B32:Nat):Int):=by
   show _=(((c0+(x*Y+w'))/4294967296:Nat):Int)
   omega
  rw[e8,e9,<-List.append_assoc (fd B32 i A)];rfl) (fun g'=>by
  unfold P.i_nat_mul_b3;dsimp only;obtain⟨q1,q2,q3,q4⟩:=maUp_ok (x:=x) B32_le hxB hdw hy ys.length;have q4':(maUp B32 x W ys ys.length).2<4294967296:=q4;rw[List.take_length,<-hlw,List.take_length,hlw,hvw]at q3;have hAl:(fd B32 i A++(maUp B32 x W ys ys.length).1).length=i+ys.length:=by rw[List.length_append,hl0,q2]
  have hlen:((fd B32 i A++(maUp B32 x W ys ys.length).1)++(W.drop ys.length++(0:Int)::R)).length=xs.length+ys.length:=by
   rw[List.length_append,hAl,List.length_append,List.length_drop,List.length_cons,hlw,hRl];omega
  have e1:¬((ys.length:Int)<(ys.length:Int)):=by omega
  have e3:(0:Int)<=((i+ys.length:Nat):Int):=by omega
  have e4:((i+ys.length:Nat):Int)<((xs.length+ys.length:Nat):Int):=by omega
  rw[hlen,<-Int.natCast_add i ys.length,wr (x:=((i+ys.length:Nat):Int)) (by omega) (by omega)];simp only[e1,e3,e4,decide_true,decide_false,if_true,if_false,Bool.false_eq_true,Nat.zero_add,Int.toNat_natCast];rw[List.drop_of_length_le (by omega),List.nil_append,mid_set hAl,w32 (by omega) (by omega),wr (x:=(i:Int)+1) (by omega) (by omega)];generalize maUp B32 x W ys ys.length=p at*;obtain⟨pl,c0⟩:=p;dsimp only at*;have hlt:=dval_lt q1;rw[q2]at hlt;have hpl:pl=fd B32 ys.length (A/B32^i+x*dval B32 ys):=by
   have:=fd_eq B32_le q1 q2 rfl;rw[this,<-q3,<-fd_mod B32 ys.length (_+_),Nat.add_mul_mod_self_left,fd_mod]
  have hc0:c0=(A/B32^i+x*dval B32 ys)/B32^ys.length:=by
   rw[<-q3,Nat.add_mul_div_left _ _ (Nat.pow_pos (by decide)),Nat.div_eq_of_lt hlt,Nat.zero_add]
  rw[List.append_assoc _ [_],List.singleton_append,hpl,hc0,hnext];exact hg) hK
 rw[show(fd B32 i A++(maUp B32 x W ys 0).1)++(W.drop 0++(0:Int)::R)=(fd B32 i A++W)++(0:Int)::R by rw[show(maUp B32 x W ys 0).1=[]from rfl,List.append_nil,List.drop_zero,List.append_assoc]]at key;exact key
def S.i_nat_mul (x:((List Int)×((List Int)×Unit))):(Option ((List Int)×Unit)):=if dig B32 x.1=true/\dig B32 x.2.1=true/\x.1.length<=10000000000/\x.2.1.length<=10000000000 then some (nd B32 (dval B32 x.1*dval B32 x.2.1),())else none
theorem S.i_nat_mul_ok (x r) (h:S.i_nat_mul x=some r):∃k,P.i_nat_mul k x=some r:=by
 obtain⟨xs,ys,u⟩:=x;unfold S.i_nat_mul at h;dsimp only at h;split at h
 case isFalse=>cases h
 rename_i hc;obtain⟨dx,dy,lx,ly⟩:=hc;cases h;refine⟨xs.length+ys.length+1,?_⟩;unfold P.i_nat_mul;dsimp only;have a1:(0:Int)<=((xs.length+ys.length:Nat):Int):=by omega
 have a2:((xs.length+ys.length:Nat):Int)*4<=281474976710656:=by omega
 rw[<-Int.natCast_add,wr (x:=((xs.length+ys.length:Nat):Int)) (by omega) (by omega)];simp only[a1,a2,decide_true,if_true,Int.le_refl,Int.toNat_natCast];have key:=loop_up0 (k:=xs.length+ys.length+1) (b:=P.i_nat_mul_b0 (xs.length+ys.length+1)) (n:=xs.length) (st:=fun i=>((i:Int),(xs.length:Int),xs,ys,fd B32 (xs.length+ys.length) (dval B32 (xs.take i)*dval B32 ys),())) (F:=fun i=>some (nd B32 (dval B32 xs*dval B32 ys),())) (fun i g hi hg=>by
  unfold P.i_nat_mul_b0;dsimp only at hg ⊢;have e1:(i:Int)<(xs.length:Int):=by omega
  have e2:(0:Int)<=(i:Int):=by omega
  simp only[e1,e2,decide_true,if_true,Int.toNat_natCast];exact im_inner g _ dx dy lx ly hi _ (by omega) hg) (fun g=>by
  unfold P.i_nat_mul_b0;dsimp only;rw[if_neg (by simp),List.take_length];unfold S.i_nat_trim;dsimp only;have hb:=mul_bound B32_le dx dy xs.length (Nat.le_refl _);rw[List.take_length]at hb;rw[if_pos ⟨dig_fd (by decide) _ _,by rw[fd_len];omega⟩,Option.bind_some,nd_fd B32_le hb]) (by omega)
 rw[List.take_zero,show dval B32 []*dval B32 ys=0 by simp [dval],fd_zero]at key;exact key
def S.math_bits_LeadingZeros32 (x:(Int×Unit)):(Option (Int×Unit)):=if 0<=x.1/\x.1<=4294967295 then some (32 - (Go.Lib.bitLen x.1.toNat:Int),())else none
abbrev P.i_nat_divSmall_b0 (x1:Int×Int×List Int×List Int×Int×Unit) (g2:Int×Int×List Int×List Int×Int×Unit->Option ((List Int×Int)×Unit)):Option ((List Int×Int)×Unit):=
 (fun(a b e:Int) (c d:List Int)=>if decide (a>=0)then if decide (0<=a)then if decide (a<(c.length:Int))then if decide ((wrap .u64 e)=0)then none else if decide (0<=a)then if decide (a<(d.length:Int))then if decide ((wrap .u64 e)=0)then none else g2 (wrap .i64 (a - 1),Int.tmod (wrap .u64 ((wrap .u64 (b*4294967296))+(wrap .u64 (c.getD a.toNat 0)))) (wrap .u64 e),c,d.set (0+a.toNat) (wrap .u32 (wrap .u64 (Int.tdiv (wrap .u64 ((wrap .u64 (b*4294967296))+(wrap .u64 (c.getD a.toNat 0)))) (wrap .u64 e)))),e,())else none else none else none else none else(S.i_nat_trim (d,())).bind fun y3=>some ((y3.1,wrap .u32 b),())) x1.1 x1.2.1 x1.2.2.2.2.1 x1.2.2.1 x1.2.2.2.1
def P.i_nat_divSmall (k:Nat) (x:List Int×Int×Unit):Option ((List Int×Int)×Unit):=
 if decide (0<=(x.1.length:Int))then if decide ((x.1.length:Int)<=(x.1.length:Int))then if decide (((x.1.length:Int)*4)<=281474976710656)then loopP P.i_nat_divSmall_b0 k (wrap .i64 ((x.1.length:Int) - 1),0,x.1,List.replicate (Int.toNat (x.1.length:Int)) 0,x.2.1,())else none else none else none
def S.i_nat_divSmall (x:((List Int)×(Int×Unit))):(Option (((List Int)×Int)×Unit)):=if dig B32 x.1=true/\0<x.2.1/\x.2.1<4294967296/\x.1.length<=1000000000000 then some ((nd B32 (dval B32 x.1/x.2.1.toNat),((dval B32 x.1%x.2.1.toNat:Nat):Int)),())else none
theorem S.i_nat_divSmall_ok (x r) (h:S.i_nat_divSmall x=some r):∃k,P.i_nat_divSmall k x=some r:=by
 obtain⟨xs,b,u⟩:=x;unfold S.i_nat_divSmall at h;dsimp only at h;split at h
 case isFalse=>cases h
 rename_i hc;obtain⟨hd,hb0,hb1,hl⟩:=hc;cases h;refine⟨xs.length+1,?_⟩;unfold P.i_nat_divSmall;dsimp only;have a1:(0:Int)<=(xs.length:Int):=by omega
 have a2:(xs.length:Int)<=(xs.length:Int):=by omega
 have a3:(xs.length:Int)*4<=281474976710656:=by omega
 simp only[a1,a2,a3,decide_true,if_true];rw[wr (by omega) (by omega),Int.toNat_natCast];have hdr:∀m,dig B32 (xs.drop m)=true:=by
  intro m;have:=List.take_append_drop m xs;have hd':=hd;rw[<-this,dig_append,Bool.and_eq_true]at hd';exact hd'.2
 have hbN:0<b.toNat:=by omega
 have key:=loop_up0 (k:=xs.length+1) (b:=P.i_nat_divSmall_b0) (n:=xs.length) (st:=fun j=>((xs.length:Int) - 1 - (j:Int),((qdiv B32 b.toNat (xs.drop (xs.length - j))).2:Int),xs,List.replicate (xs.length - j) (0:Int)++(qdiv B32 b.toNat (xs.drop (xs.length - j))).1,b,())) (F:=fun j=>some ((nd B32 (dval B32 xs/b.toNat),((dval B32 xs%b.toNat:Nat):Int)),())) (fun j g hj hg=>by
  unfold P.i_nat_divSmall_b0;dsimp only at hg ⊢;obtain⟨q1,q2,q3,q4⟩:=qdiv_ok B32 b.toNat hbN (xs.drop (xs.length - j)) (hdr _);have hi:xs.length - (j+1)<xs.length:=by omega
  have e5:(xs.length:Int) - 1 - (j:Int)=((xs.length - (j+1):Nat):Int):=by omega
  have e6:xs.drop (xs.length - (j+1))=xs[xs.length - (j+1)]::xs.drop (xs.length - j):=by
   rw[List.drop_eq_getElem_cons hi];congr 2;omega
  have e7:xs.length - j=(xs.length - (j+1))+1:=by omega
  have hlen:(List.replicate (xs.length - j) (0:Int)++(qdiv B32 b.toNat (xs.drop (xs.length - j))).1).length=xs.length:=by
   rw[List.length_append,List.length_replicate,q2,List.length_drop];omega
  have hx:=dig_get hd hi;have hx1:xs[xs.length - (j+1)]<4294967296:=hx.2;have hx0:=hx.1;have hm:(qdiv B32 b.toNat (xs.drop (xs.length - j))).2<b.toNat:=by rw[q4];exact Nat.mod_lt _ hbN
  rw[e6]at hg;rw[hlen,e5,getD_cast xs _ _ hi];have a1:((xs.length - (j+1):Nat):Int)>=0:=by omega
  have a2:(0:Int)<=((xs.length - (j+1):Nat):Int):=by omega
  have a3:((xs.length - (j+1):Nat):Int)<(xs.length:Int):=by omega
  rw[wu (x:=b) (by omega) (by omega)];have a4:¬(b=0):=by omega
  simp only[a1,a3,a4,decide_true,decide_false,if_true,if_false,Bool.false_eq_true];generalize hR:(qdiv B32 b.toNat (xs.drop (xs.length - j))).2=R at*;generalize hX:xs[xs.length - (j+1)]=X at*;have hRX:(R:Int)*4294967296+X<b*4294967296:=by omega
  rw[wu (x:=(R:Int)*4294967296) (by omega) (by omega),wu (x:=X) (by omega) (by omega),wu (x:=(R:Int)*4294967296+X) (by omega) (by omega)];have eT:Int.tdiv ((R:Int)*4294967296+X) b=(((R*B32+X.toNat)/b.toNat:Nat):Int):=by
   rw[Int.tdiv_eq_ediv_of_nonneg (by omega)];have:(R:Int)*4294967296+X=((R*4294967296+X.toNat:Nat):Int):=by omega
   rw[this];have hb:b=((b.toNat:Nat):Int):=by omega
   conv=>lhs;rw[hb]
   exact(Int.natCast_ediv _ _).symm
  have eM:Int.tmod ((R:Int)*4294967296+X) b=(((R*B32+X.toNat)%b.toNat:Nat):Int):=by
   rw[Int.tmod_eq_emod_of_nonneg (by omega)];have:(R:Int)*4294967296+X=((R*4294967296+X.toNat:Nat):Int):=by omega
   rw[this];have hb:b=((b.toNat:Nat):Int):=by omega
   conv=>lhs;rw[hb]
   exact(Int.natCast_emod _ _).symm
  have hQ:(R*B32+X.toNat)/b.toNat<B32:=(Nat.div_lt_iff_lt_mul hbN).2 (by
   show R*4294967296+X.toNat<4294967296*b.toNat;omega)
  have hQ':(R*B32+X.toNat)/b.toNat<4294967296:=hQ;have z0:(0:Int)<=(((R*B32+X.toNat)/b.toNat:Nat):Int):=Int.natCast_nonneg _;have z1:(((R*B32+X.toNat)/b.toNat:Nat):Int)<4294967296:=Int.ofNat_lt.2 hQ';rw[eT,eM,wu z0 (Int.lt_trans z1 (by decide)),w32 z0 z1,wr (x:=((xs.length - (j+1):Nat):Int) - 1) (by omega) (by omega),Nat.zero_add,Int.toNat_natCast];have hset:∀(Q:List Int) (v:Int),(List.replicate (xs.length - j) (0:Int)++Q).set (xs.length - (j+1)) v=List.replicate (xs.length - (j+1)) 0++v::Q:=by
   intro Q v;rw[e7];exact set_back _ _ _
  rw[hset,<-hg];congr 1;simp only[Prod.mk.injEq,qdiv];rw[hR]
  and_intros<;>first|rfl|omega|trivial) (fun g=>by
  unfold P.i_nat_divSmall_b0;dsimp only;obtain⟨q1,q2,q3,q4⟩:=qdiv_ok B32 b.toNat hbN xs hd;rw[if_neg (by simp;omega),Nat.sub_self,List.drop_zero,List.replicate_zero,List.nil_append,trim_i _ q1 (by omega),Option.bind_some,q3,q4];have hm:=Nat.mod_lt (dval B32 xs) hbN;rw[w32 (by omega) (by omega)]) (by omega)
 rw[show(xs.length:Int) - 1 - ((0:Nat):Int)=(xs.length:Int) - 1 by omega,Nat.sub_zero,List.drop_length]at key;simpa [qdiv]using key
abbrev P.i_nat_shifted_b0 (x1:Int×Int×List Int×Int×List Int×Unit) (g2:Int×Int×List Int×Int×List Int×Unit->Option (List Int×Unit)):Option (List Int×Unit):=
 (fun(a b d:Int) (c e:List Int)=>if decide (a<b)then if decide (0<=a)then if decide (a<(c.length:Int))then if decide (d<0)then none else if decide (0<=a)then if decide (a<(e.length:Int))then if decide (0<=a)then if decide (a<(e.length:Int))then if decide (0<=(wrap .i64 (a+1)))then if decide ((wrap .i64 (a+1))<(List.length (e.set (0+a.toNat) (wrap .u32 ((BitVec.toNat ((BitVec.ofInt 32 (e.getD (0+a.toNat) 0))|||(BitVec.ofInt 32 (wrap .u32 (wrap .u64 ((wrap .u64 (c.getD a.toNat 0))*((2:Int)^(Min.min d.toNat 64))))))):Nat):Int))):Int))then g2 (wrap .i64 (a+1),b,c,d,List.set (e.set (0+a.toNat) (wrap .u32 ((BitVec.toNat ((BitVec.ofInt 32 (e.getD (0+a.toNat) 0))|||(BitVec.ofInt 32 (wrap .u32 (wrap .u64 ((wrap .u64 (c.getD a.toNat 0))*((2:Int)^(Min.min d.toNat 64))))))):Nat):Int))) (0+(Int.toNat (wrap .i64 (a+1)))) (wrap .u32 (Int.fdiv (wrap .u64 ((wrap .u64 (c.getD a.toNat 0))*((2:Int)^(Min.min d.toNat 64)))) 4294967296)),())else none else none else none else none else none else none else none else none else some (e,())) x1.1 x1.2.1 x1.2.2.2.1 x1.2.2.1 x1.2.2.2.2.1
def P.i_nat_shifted (k:Nat) (x:List Int×Int×Unit):Option (List Int×Unit):=
 if decide (0<=(wrap .i64 ((x.1.length:Int)+1)))then if decide ((wrap .i64 ((x.1.length:Int)+1))<=(wrap .i64 ((x.1.length:Int)+1)))then if decide (((wrap .i64 ((x.1.length:Int)+1))*4)<=281474976710656)then loopP P.i_nat_shifted_b0 k (0,(x.1.length:Int),x.1,x.2.1,List.replicate (Int.toNat (wrap .i64 ((x.1.length:Int)+1))) 0,())else none else none else none
def S.i_nat_shifted (x:((List Int)×(Int×Unit))):(Option ((List Int)×Unit)):=if dig B32 x.1=true/\0<=x.2.1/\x.2.1<=31/\x.1.length<=10000000000 then some (fd B32 (x.1.length+1) (dval B32 x.1*2^x.2.1.toNat),())else none
theorem S.i_nat_shifted_ok (x r) (h:S.i_nat_shifted x=some r):∃k,P.i_nat_shifted k x=some r:=by
 obtain⟨xs,by',u⟩:=x;unfold S.i_nat_shifted at h;dsimp only at h;split at h
 case isFalse=>cases h
 rename_i hc;obtain⟨hd,hb0,hb1,hl⟩:=hc;cases h;obtain⟨s,rfl⟩:∃d:Nat,by'=(d:Int):=⟨by'.toNat,by omega⟩
 rw[Int.toNat_natCast];have hs:s<=31:=by omega
 have hpow:0<2^s:=Nat.pow_pos (by decide);have hpow32:2^s<=2147483648:=Nat.le_trans (Nat.pow_le_pow_right (by decide) hs) (by decide);refine⟨xs.length+1,?_⟩;unfold P.i_nat_shifted;dsimp only;rw[wr (by omega) (by omega)];have a1:(0:Int)<=(xs.length:Int)+1:=by omega
 have a3:((xs.length:Int)+1)*4<=281474976710656:=by omega
 rw[if_pos (decide_eq_true a1),if_pos (decide_eq_true (Int.le_refl _)),if_pos (decide_eq_true a3)];have e0:List.replicate ((xs.length:Int)+1).toNat (0:Int)=(mulUp B32 (2^s) xs 0).1++(((mulUp B32 (2^s) xs 0).2:Int)::List.replicate (xs.length - 0) 0):=by
  rw[show((xs.length:Int)+1).toNat=xs.length+1 by omega,List.replicate_succ];rfl
 rw[e0];have key:=loop_up0 (k:=xs.length+1) (b:=P.i_nat_shifted_b0) (n:=xs.length) (st:=fun i=>((i:Int),(xs.length:Int),xs,(s:Int),(mulUp B32 (2^s) xs i).1++(((mulUp B32 (2^s) xs i).2:Int)::List.replicate (xs.length - i) 0),())) (F:=fun i=>some (fd B32 (xs.length+1) (dval B32 xs*2^s),())) (fun i g hi hg=>by
  unfold P.i_nat_shifted_b0;dsimp only at hg ⊢;obtain⟨q1,q2,q3,q4⟩:=mulUp_ok (d:=2^s) B32_le hd i (by omega);have hlen:((mulUp B32 (2^s) xs i).1++(((mulUp B32 (2^s) xs i).2:Int)::List.replicate (xs.length - i) 0)).length=xs.length+1:=by rw[List.length_append,q2,List.length_cons,List.length_replicate];omega
  have e1:(i:Int)<(xs.length:Int):=by omega
  have e2:(0:Int)<=(i:Int):=by omega
  have e3:(i:Int)<((xs.length+1:Nat):Int):=by omega
  have e4:¬((s:Int)<0):=by omega
  rw[hlen];simp only[e1,e2,e3,e4,decide_true,decide_false,if_true,Nat.zero_add,Int.toNat_natCast,List.length_set,hlen,Bool.false_eq_true,if_false];rw[wr (x:=(i:Int)+1) (by omega) (by omega)];have e5:(0:Int)<=(i:Int)+1:=by omega
  have e6:(i:Int)+1<((xs.length+1:Nat):Int):=by omega
  simp only[e5,e6,decide_true,if_true];have hgD:xs.getD i 0=xs[i]:=by simp [hi]
  have hx:=dig_get hd hi;have hx1:xs[i]<4294967296:=hx.2;have hx0:=hx.1;rw[mulUp,hgD]at hg;rw[hgD];have hcar:(mulUp B32 (2^s) xs i).2<2^s:=by
   have h1:dval B32 (xs.take i)<B32^i:=by
    have h0:dig B32 (xs.take i)=true:=by
     have:=List.take_append_drop i xs;rw[<-this,dig_append,Bool.and_eq_true]at hd;exact hd.1
    have:=dval_lt h0;rwa [show(xs.take i).length=i by simp;omega]at this
   have h2:dval B32 (xs.take i)*2^s<B32^i*2^s:=Nat.mul_lt_mul_of_pos_right h1 hpow;exact Nat.lt_of_mul_lt_mul_left (a:=B32^i) (by omega)
  generalize hP:mulUp B32 (2^s) xs i=p at*;obtain⟨z,hz⟩:∃z:Nat,xs[i]=(z:Int):=⟨xs[i].toNat,(Int.toNat_of_nonneg hx0).symm⟩
  rw[hz]at hx1 hg ⊢;rw[Int.toNat_natCast]at hg;have hz32:z<2^32:=by omega
  have hzp:z*2^s<18446744073709551616:=Nat.lt_of_lt_of_le (Nat.mul_lt_mul_of_pos_right hz32 hpow) (by have:=Nat.mul_le_mul_left (2^32) hpow32;omega);have emin:Min.min s 64=s:=by omega
  have ep:((2:Int)^s)=((2^s:Nat):Int):=by rw[Int.natCast_pow];rfl
  have em:(z:Int)*((2^s:Nat):Int)=((z*2^s:Nat):Int):=(Int.natCast_mul _ _).symm;rw[wu (x:=(z:Int)) (by omega) (by omega),emin,ep,em,wu (x:=((z*2^s:Nat):Int)) (by omega) (by omega)];have g1:(p.1++((p.2:Int)::List.replicate (xs.length - i) 0)).getD i 0=(p.2:Int):=by
   rw[List.getD_eq_getElem?_getD,List.getElem?_append_right (by omega),q2,Nat.sub_self];rfl
  rw[g1,u32_mod ((z*2^s:Nat):Int) (by omega)];have e7:((z*2^s:Nat):Int)%4294967296=((z*2^s%2^32:Nat):Int):=by
   show _=((z*2^s%4294967296:Nat):Int)
   omega
  have hlow:=shl_low z s (by omega);have hor:p.2|||(z*2^s%2^32)=p.2+z*2^s%2^32:=by rw[hlow,or_apart _ _ _ hcar]
  have hmlt:z*2^s%2^32<2^32:=Nat.mod_lt _ (by decide);have hsum:p.2+z*2^s%2^32<2^32:=by
   have h1:z%2^(32 - s)+1<=2^(32 - s):=Nat.mod_lt _ (Nat.pow_pos (by decide));have h2:2^s*(z%2^(32 - s)+1)<=2^s*2^(32 - s):=Nat.mul_le_mul_left _ h1;rw[<-Nat.pow_add,show s+(32 - s)=32 by omega,Nat.mul_add]at h2;omega
  rw[e7,bv_or _ _ (by omega) hmlt,hor,w32 (by omega) (by omega),Int.fdiv_eq_ediv_of_nonneg _ (by omega)];have hq:z*2^s/4294967296<4294967296:=(Nat.div_lt_iff_lt_mul (by decide)).2 (by omega);have e8:((z*2^s:Nat):Int)/4294967296=((z*2^s/4294967296:Nat):Int):=by omega
  rw[e8,w32 (by omega) (by omega)];have e9:(z*2^s+p.2)%B32=p.2+z*2^s%2^32:=by
   show(z*2^s+p.2)%4294967296=p.2+z*2^s%4294967296;omega
  have e10:(z*2^s+p.2)/B32=z*2^s/4294967296:=by
   show(z*2^s+p.2)/4294967296=_;omega
  rw[e9,e10]at hg;have z1:xs.length - i=(xs.length - (i+1))+1:=by omega
  rw[z1,List.replicate_succ,List.set_append_right _ _ (by omega),q2,Nat.sub_self,List.set_cons_zero,List.set_append_right _ _ (by omega),q2,show((i:Int)+1).toNat - i=1 by omega,List.set_cons_succ,List.set_cons_zero];rw[List.append_assoc]at hg;exact hg) (fun g=>by
  unfold P.i_nat_shifted_b0;dsimp only;obtain⟨q1,q2,q3,q4⟩:=mulUp_ok (d:=2^s) B32_le hd xs.length (Nat.le_refl _);rw[List.take_length]at q3;have hcar:(mulUp B32 (2^s) xs xs.length).2<2^s:=by
   have h2:dval B32 xs*2^s<B32^xs.length*2^s:=Nat.mul_lt_mul_of_pos_right (dval_lt hd) hpow;exact Nat.lt_of_mul_lt_mul_left (a:=B32^xs.length) (by omega)
  rw[if_neg (by simp),Nat.sub_self];generalize mulUp B32 (2^s) xs xs.length=p at*;have hdd:dig B32 (p.1++[(p.2:Int)])=true:=by
   rw[dig_append,q1,Bool.true_and,dig_cons];refine⟨⟨Int.natCast_nonneg _,?_⟩,rfl⟩;show(p.2:Int)<4294967296;omega
  have:=fd_dval (B:=B32) (by decide) hdd;rw[dval_append,q2,show dval B32 [(p.2:Int)]=p.2 by simp [dval],q3,List.length_append,q2]at this;show some (p.1++[(p.2:Int)],())=_;rw[<-this];rfl) (by omega)
 exact key
end Go.Cm
end
