import Derived.Test.YtdpljomfkoojnaaGreatDoorPlFarFromRestc
set_option linter.unusedVariables false
set_option maxRecDepth 100000
noncomputable section
namespace Go.Cm
open IntKind (wrap)
def P.d2w (k:Nat) (x:RB×RB×Unit):Option (RB×Unit):=
 (S.a0r ((x.1.1,x.1.2.1,x.1.2.2),())).bind fun y0=>if y0.1==0 then some ((x.2.1.1,x.2.1.2.1,x.2.1.2.2),())else(S.a0r ((x.2.1.1,x.2.1.2.1,x.2.1.2.2),())).bind fun y1=>if y1.1==0 then some ((x.1.1,x.1.2.1,x.1.2.2),())else(S.a1h (x.1.2.2,x.2.1.2.2,())).bind fun y2=>if y2.1 != 0 then(S.a2z (x.1.2.1,x.2.1.2.2,())).bind fun y3=>(S.a2z (x.2.1.2.1,x.1.2.2,())).bind fun y4=>(S.a2z (x.1.2.2,x.2.1.2.2,())).bind fun y5=>if x.1.1==x.2.1.1 then(S.a9t (y3.1,y4.1,())).bind fun y6=>(S.a5t (x.1.1,y6.1,y5.1,())).bind fun y7=>some ((y7.1.1,y7.1.2.1,y7.1.2.2),())else(S.a1h (y3.1,y4.1,())).bind fun y8=>if decide (y8.1>=0)then(S.a9s (y3.1,y4.1,())).bind fun y9=>(S.a5t (x.1.1,y9.1,y5.1,())).bind fun y10=>some ((y10.1.1,y10.1.2.1,y10.1.2.2),())else(S.a9s (y4.1,y3.1,())).bind fun y11=>(S.a5t (x.2.1.1,y11.1,y5.1,())).bind fun y12=>some ((y12.1.1,y12.1.2.1,y12.1.2.2),())else if x.1.1==x.2.1.1 then(S.a9t (x.1.2.1,x.2.1.2.1,())).bind fun y13=>(S.a5t (x.1.1,y13.1,x.1.2.2,())).bind fun y14=>some ((y14.1.1,y14.1.2.1,y14.1.2.2),())else(S.a1h (x.1.2.1,x.2.1.2.1,())).bind fun y15=>if decide (y15.1>=0)then(S.a9s (x.1.2.1,x.2.1.2.1,())).bind fun y16=>(S.a5t (x.1.1,y16.1,x.1.2.2,())).bind fun y17=>some ((y17.1.1,y17.1.2.1,y17.1.2.2),())else(S.a9s (x.2.1.2.1,x.1.2.1,())).bind fun y18=>(S.a5t (x.2.1.1,y18.1,x.1.2.2,())).bind fun y19=>some ((y19.1.1,y19.1.2.1,y19.1.2.2),())
theorem f9c (p q:Nat) (hp:(nd B32 p).length<=100000000) (hq:(nd B32 q).length<=100000000):S.a2z (nd B32 p,(nd B32 q,()))=some (nd B32 (p*q),()):=by
 unfold S.a2z;dsimp only;rw[if_pos ⟨a4f a0d _,a4f a0d _,by omega,by omega⟩,a0i a0d,a0i a0d]
theorem ra_add (p q:Nat) (hp:(nd B32 p).length<=100000000) (hq:(nd B32 q).length<=100000000):S.a9t (nd B32 p,(nd B32 q,()))=some (nd B32 (p+q),()):=by
 unfold S.a9t;dsimp only;rw[if_pos ⟨a4f a0d _,a4f a0d _,by omega,by omega⟩,a0i a0d,a0i a0d]
theorem f2g (p q:Nat) (hp:(nd B32 p).length<=100000000) (h:q<=p):S.a9s (nd B32 p,(nd B32 q,()))=some (nd B32 (p - q),()):=by
 unfold S.a9s;dsimp only;rw[a0i a0d,a0i a0d,if_pos ⟨a4f a0d _,a4f a0d _,a6t a0d h,h,by omega⟩]
theorem f9d (p q:Nat) (hp:(nd B32 p).length<=100000000):S.a1h (nd B32 p,(nd B32 q,()))=some (b0u p q,()):=by
 unfold S.a1h;dsimp only;rw[if_pos ⟨a0j a0d _,a0j a0d _,by omega⟩,a0i a0d,a0i a0d]
theorem d7j (n:Bool) (p q:Nat) (hp:(nd B32 p).length<=100000000) (hq:(nd B32 q).length<=100000000) (h0:q≠0):S.a5t (n,(nd B32 p,(nd B32 q,())))=some (rp B32 (c0s n p q),()):=by
 unfold S.a5t;dsimp only;rw[if_pos ⟨a0j a0d _,a0j a0d _,f3p a0d h0,by omega,by omega⟩,a0i a0d,a0i a0d]
theorem f9e (n:Bool) (p:Nat) (bs:List Int):S.a0r ((n,(nd B32 p,bs)),())=some (d4s n p,()):=by
 unfold S.a0r;dsimp only;rw[if_pos (a0j a0d _),a0i a0d]
def S.a1c (x:(RB×(RB×Unit))):(Option (RB×Unit)):=if c1l B32 40000000 x.1=true/\c1l B32 40000000 x.2.1=true then some (rp B32 (a9p (rv B32 x.1) (rv B32 x.2.1)),())else none
theorem S.e5x (x r) (h:S.a1c x=some r):∃k,P.d2w k x=some r:=by
 obtain⟨x,y,u⟩:=x;unfold S.a1c at h;dsimp only at h;split at h
 case isFalse=>cases h
 rename_i hc;obtain⟨hx,hy⟩:=hc;cases h;rw[a5p]at hx hy;obtain⟨hx,lx⟩:=hx;obtain⟨hy,ly⟩:=hy;obtain⟨n1,p1,q1,rfl,x1,x2⟩:=a9q hx;obtain⟨n2,p2,q2,rfl,y1,y2⟩:=a9q hy;rw[b7t a0d]at lx ly ⊢;rw[b7t a0d];have hq1:q1≠0:=by have:0<q1:=lx.1;omega
 have hq2:q2≠0:=by have:0<q2:=ly.1;omega
 refine⟨0,?_⟩;unfold P.d2w;dsimp only;rw[f9e,Option.bind_some];dsimp only
 by_cases h1:p1=0
 ·rw[if_pos (by simpa using a5z.2 h1),d4r _ _ lx ly h1];rfl
 ·rw[if_neg (by simpa using fun q=>h1 (a5z.1 q)),f9e,Option.bind_some];dsimp only
  by_cases h2:p2=0
  ·rw[if_pos (by simpa using a5z.2 h2),d0n _ _ lx ly h2];rfl
  ·rw[if_neg (by simpa using fun q=>h2 (a5z.1 q)),f9d q1 q2 (by omega),Option.bind_some];dsimp only;have m1:=a5a a0d p1 q2;have m2:=a5a a0d p2 q1;have m3:=a5a a0d q1 q2
   by_cases hq:q1=q2
   ·rw[if_neg (by simpa using a4z.2 hq),f7l _ _ lx hq];dsimp only;have a1:=c5z a0d p1 p2;have a2:=b3w a0d p1 p2;have a3:=b3w a0d p2 p1
    by_cases hn:n1=n2
    ·rw[if_pos (by simpa using hn),if_pos hn,ra_add p1 p2 (by omega) (by omega),Option.bind_some,d7j n1 _ q1 (by omega) (by omega) hq1,Option.bind_some]
    ·rw[if_neg (by simpa using hn),if_neg hn,f9d p1 p2 (by omega),Option.bind_some];dsimp only;have hlt:=c2g (a:=p1) (b:=p2)
     by_cases hle:p2<=p1
     ·have hge:b0u p1 p2>=0:=by omega
      rw[if_pos (decide_eq_true hge),if_pos hle,f2g p1 p2 (by omega) hle,Option.bind_some,d7j n1 _ q1 (by omega) (by omega) hq1,Option.bind_some]
     ·have hge:¬b0u p1 p2>=0:=by omega
      rw[if_neg (by simpa using hge),if_neg hle,f2g p2 p1 (by omega) (by omega),Option.bind_some,d7j n2 _ q1 (by omega) (by omega) hq1,Option.bind_some]
   ·have hq0:q1*q2≠0:=Nat.mul_ne_zero hq1 hq2;rw[if_pos (by simpa using fun q=>hq (a4z.1 q)),f9c p1 q2 (by omega) (by omega),Option.bind_some,f9c p2 q1 (by omega) (by omega),Option.bind_some,f9c q1 q2 (by omega) (by omega),Option.bind_some];dsimp only;unfold a9p;dsimp only;have a1:=c5z a0d (p1*q2) (p2*q1);have a2:=b3w a0d (p1*q2) (p2*q1);have a3:=b3w a0d (p2*q1) (p1*q2)
    by_cases hn:n1=n2
    ·rw[if_pos (by simpa using hn),if_pos hn,ra_add _ _ (by omega) (by omega),Option.bind_some,d7j n1 _ _ (by omega) (by omega) hq0,Option.bind_some]
    ·rw[if_neg (by simpa using hn),if_neg hn,f9d _ _ (by omega),Option.bind_some];dsimp only;have hlt:=c2g (a:=p1*q2) (b:=p2*q1)
     by_cases hle:p2*q1<=p1*q2
     ·have hge:b0u (p1*q2) (p2*q1)>=0:=by
       rcases Int.lt_or_le (b0u (p1*q2) (p2*q1)) 0 with g|g
       ·have:=hlt.1 g;omega
       ·exact g
      rw[if_pos (decide_eq_true hge),if_pos hle,f2g _ _ (by omega) hle,Option.bind_some,d7j n1 _ _ (by omega) (by omega) hq0,Option.bind_some]
     ·have hge:¬b0u (p1*q2) (p2*q1)>=0:=by
       have:=hlt.2 (Nat.lt_of_not_le hle);omega
      rw[if_neg (by simpa using hge),if_neg hle,f2g _ _ (by omega) (Nat.le_of_lt (Nat.lt_of_not_le hle)),Option.bind_some,d7j n2 _ _ (by omega) (by omega) hq0,Option.bind_some]
theorem ri_add {x y:Q3} {m n:Nat} (hx:low x) (bx:below m x) (hy:low y) (bY:below n y) (hm:m<=350000000) (hn:n<=350000000):S.a1c (rp B32 x,(rp B32 y,()))=some (rp B32 (a9p x y),()):=by
 unfold S.a1c;dsimp only;rw[if_pos ⟨a2t (by decide) hx bx (by omega),a2t (by decide) hy bY (by omega)⟩,a2p a0d,a2p a0d]
def P.c2x (k:Nat) (x:RB×Unit):Option (RB×Unit):=
 if !x.1.1 then some ((decide ((x.1.2.1.length:Int)>0),x.1.2.1,x.1.2.2),())else some ((false,x.1.2.1,x.1.2.2),())
def S.b1i (x:(RB×Unit)):(Option (RB×Unit)):=if rok B32 40000000 x.1=true then some (rp B32 (b7r (rv B32 x.1)),())else none
theorem S.d5v (x r) (h:S.b1i x=some r):∃k,P.c2x k x=some r:=by
 obtain⟨x,u⟩:=x;unfold S.b1i at h;dsimp only at h;split at h
 case isFalse=>cases h
 rename_i hc;cases h;refine⟨0,?_⟩;obtain⟨n,p,q,rfl,_,_⟩:=a9q hc;rw[b7t a0d];unfold P.c2x b7r rp;dsimp only;rw[d6w a0d];cases n
 ·rfl
 ·rfl
def P.e5y (k:Nat) (x:RB×RB×Unit):Option (RB×Unit):=
 (S.b1i ((x.2.1.1,x.2.1.2.1,x.2.1.2.2),())).bind fun y0=>(S.a1c ((x.1.1,x.1.2.1,x.1.2.2),(y0.1.1,y0.1.2.1,y0.1.2.2),())).bind fun y1=>some ((y1.1.1,y1.1.2.1,y1.1.2.2),())
def S.b4o (x:(RB×(RB×Unit))):(Option (RB×Unit)):=if c1l B32 40000000 x.1=true/\c1l B32 40000000 x.2.1=true then some (rp B32 (a9p (rv B32 x.1) (b7r (rv B32 x.2.1))),())else none
theorem S.e5z (x r) (h:S.b4o x=some r):∃k,P.e5y k x=some r:=by
 obtain⟨x,y,u⟩:=x;unfold S.b4o at h;dsimp only at h;split at h
 case isFalse=>cases h
 rename_i hc;obtain⟨hx,hy⟩:=hc;cases h;have hy':=a5p.1 hy;refine⟨0,?_⟩;have e1:S.b1i (y,())=some (rp B32 (b7r (rv B32 y)),()):=if_pos hy'.1;have hz:c1l B32 40000000 (rp B32 (b7r (rv B32 y)))=true:=by
  rw[a5p,a2p a0d];obtain⟨n2,p2,q2,rfl,y1,y2⟩:=a9q hy'.1;rw[b7t a0d]at hy' ⊢;exact⟨b7o.2 ⟨a0j a0d _,a0j a0d _,y1,y2⟩,b1s _ hy'.2⟩
 have e2:S.a1c (x,(rp B32 (b7r (rv B32 y)),()))=some (rp B32 (a9p (rv B32 x) (b7r (rv B32 y))),()):=by
  unfold S.a1c;dsimp only;rw[if_pos ⟨hx,hz⟩,a2p a0d]
 show Option.bind (S.b1i (y,())) (fun y0=>Option.bind (S.a1c (x,(y0.1,()))) (fun y1=>some (y1.1,())))=_;rw[e1,Option.bind_some,e2,Option.bind_some]
def P.d2x (k:Nat) (x:RB×RB×Unit):Option (RB×Unit):=
 (S.a0r ((x.1.1,x.1.2.1,x.1.2.2),())).bind fun y0=>if y0.1==0 then(S.a3o (0,())).bind fun y1=>some ((y1.1.1,y1.1.2.1,y1.1.2.2),())else(S.a0r ((x.2.1.1,x.2.1.2.1,x.2.1.2.2),())).bind fun y2=>if y2.1==0 then(S.a3o (0,())).bind fun y3=>some ((y3.1.1,y3.1.2.1,y3.1.2.2),())else(S.a5t (false,x.1.2.1,x.2.1.2.2,())).bind fun y4=>(S.a5t (false,x.2.1.2.1,x.1.2.2,())).bind fun y5=>(S.a2z (y4.1.2.1,y5.1.2.1,())).bind fun y6=>(S.a2z (y4.1.2.2,y5.1.2.2,())).bind fun y7=>some ((! (x.1.1==x.2.1.1),y6.1,y7.1),())
theorem rm_mul (p q:Nat) (hp:(nd B32 p).length<=100000000) (hq:(nd B32 q).length<=100000000):S.a2z (nd B32 p,(nd B32 q,()))=some (nd B32 (p*q),()):=by
 unfold S.a2z;dsimp only;rw[if_pos ⟨a4f a0d _,a4f a0d _,by omega,by omega⟩,a0i a0d,a0i a0d]
theorem rm_low (n:Bool) (p q:Nat) (hp:(nd B32 p).length<=100000000) (hq:(nd B32 q).length<=100000000) (h0:q≠0):S.a5t (n,(nd B32 p,(nd B32 q,())))=some (rp B32 (c0s n p q),()):=by
 unfold S.a5t;dsimp only;rw[if_pos ⟨a0j a0d _,a0j a0d _,f3p a0d h0,by omega,by omega⟩,a0i a0d,a0i a0d]
theorem f9f (n:Bool) (p:Nat) (bs:List Int):S.a0r ((n,(nd B32 p,bs)),())=some (d4s n p,()):=by
 unfold S.a0r;dsimp only;rw[if_pos (a0j a0d _),a0i a0d]
theorem rm_zero:S.a3o (0,())=some (rp B32 (false,(0,1)),()):=by
 unfold S.a3o;rfl
def S.a3s (x:(RB×(RB×Unit))):(Option (RB×Unit)):=if c1l B32 40000000 x.1=true/\c1l B32 40000000 x.2.1=true then some (rp B32 (b9a (rv B32 x.1) (rv B32 x.2.1)),())else none
theorem S.e6a (x r) (h:S.a3s x=some r):∃k,P.d2x k x=some r:=by
 obtain⟨x,y,u⟩:=x;unfold S.a3s at h;dsimp only at h;split at h
 case isFalse=>cases h
 rename_i hc;obtain⟨hx,hy⟩:=hc;cases h;rw[a5p]at hx hy;obtain⟨hx,lx⟩:=hx;obtain⟨hy,ly⟩:=hy;obtain⟨n1,p1,q1,rfl,x1,x2⟩:=a9q hx;obtain⟨n2,p2,q2,rfl,y1,y2⟩:=a9q hy;rw[b7t a0d]at lx ly ⊢;rw[b7t a0d];have hq1:0<q1:=lx.1;have hq2:0<q2:=ly.1;refine⟨0,?_⟩;unfold P.d2x b9a;dsimp only;rw[f9f,Option.bind_some,rm_zero,Option.bind_some];dsimp only
 by_cases h1:p1=0
 ·rw[if_pos (by simpa using a5z.2 h1),h1,Nat.zero_mul,e3h _ (Nat.mul_pos hq1 hq2)]
 ·rw[if_neg (by simpa using fun q=>h1 (a5z.1 q)),f9f,Option.bind_some];dsimp only
  by_cases h2:p2=0
  ·rw[if_pos (by simpa using a5z.2 h2),h2,Nat.mul_zero,e3h _ (Nat.mul_pos hq1 hq2)]
  ·have d1:=c0v a0d p1 (Nat.gcd p1 q2);have d2:=c0v a0d p2 (Nat.gcd p2 q1);have d3:=c0v a0d q2 (Nat.gcd p1 q2);have d4:=c0v a0d q1 (Nat.gcd p2 q1);rw[if_neg (by simpa using fun q=>h2 (a5z.1 q)),rm_low false p1 q2 (by omega) (by omega) (by omega),Option.bind_some,rm_low false p2 q1 (by omega) (by omega) (by omega),Option.bind_some,f7m _ (fun _=>⟨h1,h2⟩) hq1 hq2 lx.2.2 ly.2.2];unfold rp c0s;dsimp only;rw[rm_mul _ _ (by omega) (by omega),Option.bind_some,rm_mul _ _ (by omega) (by omega),Option.bind_some];rfl
theorem ri_mul {x y:Q3} {m n:Nat} (hx:low x) (bx:below m x) (hy:low y) (bY:below n y) (hm:m<=350000000) (hn:n<=350000000):S.a3s (rp B32 x,(rp B32 y,()))=some (rp B32 (b9a x y),()):=by
 unfold S.a3s;dsimp only;rw[if_pos ⟨a2t (by decide) hx bx (by omega),a2t (by decide) hy bY (by omega)⟩,a2p a0d,a2p a0d]
def P.d7k (k:Nat) (x:RB×RB×Unit):Option (RB×Unit):=
 (S.a3s ((x.1.1,x.1.2.1,x.1.2.2),(x.2.1.1,x.2.1.2.2,x.2.1.2.1),())).bind fun y0=>some ((y0.1.1,y0.1.2.1,y0.1.2.2),())
def S.a3a (x:(RB×(RB×Unit))):(Option (RB×Unit)):=if c1l B32 40000000 x.1=true/\c1l B32 40000000 x.2.1=true/\(rv B32 x.2.1).2.1≠0 then some (rp B32 (a2s (rv B32 x.1) (rv B32 x.2.1)),())else none
theorem S.e0l (x r) (h:S.a3a x=some r):∃k,P.d7k k x=some r:=by
 obtain⟨x,y,u⟩:=x;unfold S.a3a at h;dsimp only at h;split at h
 case isFalse=>cases h
 rename_i hc;obtain⟨hx,hy,h0⟩:=hc;cases h;have hy':=a5p.1 hy;refine⟨0,?_⟩;have e2:S.a3s (x,((y.1,(y.2.2,y.2.1)),()))=some (rp B32 (a2s (rv B32 x) (rv B32 y)),()):=by
  unfold S.a3s;dsimp only;have hz:c1l B32 40000000 (y.1,(y.2.2,y.2.1))=true:=by
   rw[a5p];obtain⟨r1,l1⟩:=hy';have r2:=b7o.1 r1;refine⟨b7o.2 ⟨r2.2.1,r2.1,r2.2.2.2,r2.2.2.1⟩,?_⟩;obtain⟨l1,l2,l3⟩:=l1;refine⟨Nat.pos_of_ne_zero h0,fun _=>Nat.ne_of_gt l1,?_⟩;rw[Nat.gcd_comm];exact l3
  rw[if_pos ⟨hx,hz⟩];rfl
 show Option.bind (S.a3s (x,((y.1,(y.2.2,y.2.1)),()))) (fun y0=>some (y0.1,()))=_;rw[e2,Option.bind_some]
theorem ri_over {x y:Q3} {m n:Nat} (hx:low x) (bx:below m x) (hy:low y) (bY:below n y) (h0:y.2.1≠0) (hm:m<=350000000) (hn:n<=350000000):S.a3a (rp B32 x,(rp B32 y,()))=some (rp B32 (a2s x y),()):=by
 unfold S.a3a;dsimp only;rw[if_pos ⟨a2t (by decide) hx bx (by omega),a2t (by decide) hy bY (by omega),by rw[a2p a0d];exact h0⟩,a2p a0d,a2p a0d]
abbrev P.b3n (x2:Int×Int×List RB×List RB×RB×RB×Unit) (g3:Int×Int×List RB×List RB×RB×RB×Unit->Option (RB×Unit)):Option (RB×Unit):=
 (fun(a b:Int) (c d:List RB) (e f:RB)=>if decide (a<b)then if decide (0<=a)then if decide (a<(c.length:Int))then if decide (0<=a)then if decide (a<(d.length:Int))then(S.b4o (((c.getD a.toNat (false,[],[])).1,(c.getD a.toNat (false,[],[])).2.1,(c.getD a.toNat (false,[],[])).2.2),((d.getD a.toNat (false,[],[])).1,(d.getD a.toNat (false,[],[])).2.1,(d.getD a.toNat (false,[],[])).2.2),())).bind fun y4=>(S.a1c ((e.1,e.2.1,e.2.2),(false,y4.1.2.1,y4.1.2.2),())).bind fun y5=>g3 (wrap .i64 (a+1),b,c,d,(y5.1.1,y5.1.2.1,y5.1.2.2),(f.1,f.2.1,f.2.2),())else none else none else none else none else(S.a3o (2,())).bind fun y6=>(S.a3a ((e.1,e.2.1,e.2.2),(y6.1.1,y6.1.2.1,y6.1.2.2),())).bind fun y7=>some ((y7.1.1,y7.1.2.1,y7.1.2.2),())) x2.1 x2.2.1 x2.2.2.1 x2.2.2.2.1 x2.2.2.2.2.1 x2.2.2.2.2.2.1
def P.c6v (k:Nat) (x:List RB×List RB×Unit):Option (RB×Unit):=
 (S.a3o (0,())).bind fun y0=>loopP P.b3n k (0,(x.1.length:Int),x.1,x.2.1,(y0.1.1,y0.1.2.1,y0.1.2.2),(false,[],[]),())
open Classical in
def S.b3z (x:((List RB)×((List RB)×Unit))):(Option (RB×Unit)):=if goodD B32 x.1 x.2.1 then some (rp B32 (c4b (x.1.map (rv B32)) (x.2.1.map (rv B32))),())else none
theorem S.e0m (x r) (h:S.b3z x=some r):∃k,P.c6v k x=some r:=by
 obtain⟨xs,ys,u⟩:=x;unfold S.b3z at h;dsimp only at h;split at h
 case isFalse=>cases h
 rename_i hc;obtain⟨as,bs',rfl,rfl,hl,hm,ha,hb,hd,hs⟩:=hc;cases h;refine⟨as.length+1,?_⟩;unfold P.c6v;have hz:S.a3o (0,())=some (rp B32 a2c,()):=by rfl
 have h2:S.a3o (2,())=some (rp B32 (b8w 2),()):=by rfl
 dsimp only;rw[hz,Option.bind_some,a5b a0d,a5b a0d,List.length_map];have hdl:=d0r hl;have key:=a0g (k:=as.length+1) (b:=P.b3n) (n:=as.length) (st:=fun i=>((i:Int),(as.length:Int),as.map (rp B32),bs'.map (rp B32),rp B32 (a5y ((dfs as bs').take i)),(false,(([]:List Int),([]:List Int))),())) (F:=fun i=>some (rp B32 (c4b as bs'),())) (fun i g hi hg'=>by
  unfold P.b3n;dsimp only at hg' ⊢;have e1:(i:Int)<(as.length:Int):=by omega
  have e2:(0:Int)<=(i:Int):=by omega
  have e3:(i:Int)<((as.map (rp B32)).length:Int):=by rw[List.length_map];omega
  have e4:(i:Int)<((bs'.map (rp B32)).length:Int):=by rw[List.length_map];omega
  have hi':i<bs'.length:=by omega
  have hid:i<(dfs as bs').length:=by omega
  rw[if_pos (decide_eq_true e1),if_pos (decide_eq_true e2),if_pos (decide_eq_true e3),if_pos (decide_eq_true e2),if_pos (decide_eq_true e4),a0m (as.map (rp B32)) i _ (by rw[List.length_map];exact hi),List.getElem_map,a0m (bs'.map (rp B32)) i _ (by rw[List.length_map];exact hi'),List.getElem_map];have la:=ha _ (List.getElem_mem hi);have lb:=hb _ (List.getElem_mem hi');have es:S.b4o (rp B32 as[i],(rp B32 bs'[i],()))=some (rp B32 (a9p as[i] (b7r bs'[i])),()):=by
   unfold S.b4o;dsimp only;rw[if_pos ⟨b6e (by decide) la,b6e (by decide) lb⟩,a2p a0d,a2p a0d]
  have ea:S.a1c (rp B32 (a5y ((dfs as bs').take i)),(rp B32 (f5o (a9p as[i] (b7r bs'[i]))),()))=some (rp B32 (a5y ((dfs as bs').take (i+1))),()):=by
   have hge:=b6e (B:=B32) (by decide) (hd _ (List.getElem_mem hid));rw[<-b9v hid];rw[e8n hl hi]at hge ⊢;unfold S.a1c;dsimp only;rw[if_pos ⟨b6e (by decide) (hs i),hge⟩,a2p a0d,a2p a0d]
  show Option.bind (S.b4o (rp B32 as[i],(rp B32 bs'[i],()))) _=_;rw[es,Option.bind_some];show Option.bind (S.a1c (rp B32 (a5y ((dfs as bs').take i)),(rp B32 (f5o (a9p as[i] (b7r bs'[i]))),()))) _=_;rw[ea,Option.bind_some,wr (by omega) (by omega)];exact hg') (fun g=>by
  unfold P.b3n;dsimp only;have eo:S.a3a (rp B32 (a5y (dfs as bs')),(rp B32 (b8w 2),()))=some (rp B32 (c4b as bs'),()):=by
   unfold S.a3a;dsimp only;rw[if_pos ⟨b6e (by decide) (by have:=hs (dfs as bs').length;rwa [List.take_length]at this),f7o (by decide) (d6v 2) (b9w (n:=1) (by decide) (by decide)) (by decide),by rw[a2p a0d];decide⟩,a2p a0d,a2p a0d];rfl
  rw[if_neg (by simp),h2,Option.bind_some,<-hdl,List.take_length];show Option.bind (S.a3a (rp B32 (a5y (dfs as bs')),(rp B32 (b8w 2),()))) _=_;rw[eo,Option.bind_some]) (by omega)
 exact key
def P.b4p (k:Nat) (x:Int×Int×Unit):Option ((Int×Int)×Unit):=
 some ((wrap .u64 ((wrap .u64 ((wrap .u64 ((Int.fdiv x.1 4294967296)*(Int.fdiv x.2.1 4294967296)))+(Int.fdiv (wrap .u64 ((wrap .u64 ((Int.fdiv x.1 4294967296)*(wrap .u64 ((BitVec.toNat ((BitVec.ofInt 64 x.2.1)&&& (BitVec.ofInt 64 4294967295)):Nat):Int))))+(Int.fdiv (wrap .u64 ((wrap .u64 ((BitVec.toNat ((BitVec.ofInt 64 x.1)&&& (BitVec.ofInt 64 4294967295)):Nat):Int))*(wrap .u64 ((BitVec.toNat ((BitVec.ofInt 64 x.2.1)&&& (BitVec.ofInt 64 4294967295)):Nat):Int)))) 4294967296))) 4294967296)))+(Int.fdiv (wrap .u64 ((wrap .u64 ((BitVec.toNat ((BitVec.ofInt 64 (wrap .u64 ((wrap .u64 ((Int.fdiv x.1 4294967296)*(wrap .u64 ((BitVec.toNat ((BitVec.ofInt 64 x.2.1)&&& (BitVec.ofInt 64 4294967295)):Nat):Int))))+(Int.fdiv (wrap .u64 ((wrap .u64 ((BitVec.toNat ((BitVec.ofInt 64 x.1)&&& (BitVec.ofInt 64 4294967295)):Nat):Int))*(wrap .u64 ((BitVec.toNat ((BitVec.ofInt 64 x.2.1)&&& (BitVec.ofInt 64 4294967295)):Nat):Int)))) 4294967296))))&&& (BitVec.ofInt 64 4294967295)):Nat):Int))+(wrap .u64 ((wrap .u64 ((BitVec.toNat ((BitVec.ofInt 64 x.1)&&& (BitVec.ofInt 64 4294967295)):Nat):Int))*(Int.fdiv x.2.1 4294967296))))) 4294967296)),wrap .u64 (x.1*x.2.1)),())
def S.b4q (x:(Int×(Int×Unit))):(Option ((Int×Int)×Unit)):=P.b4p 0 x
theorem S.c4u (x r) (h:S.b4q x=some r):∃k,P.b4p k x=some r:=⟨0,h⟩
def P.b8j (k:Nat) (x:Int×Int×Unit):Option ((Int×Int)×Unit):=
 (S.b4q (x.1,x.2.1,())).bind fun y0=>some ((y0.1.1,y0.1.2),())
def S.a3e (x:(Int×(Int×Unit))):(Option ((Int×Int)×Unit)):=P.b8j 0 x
theorem S.c8v (x r) (h:S.a3e x=some r):∃k,P.b8j k x=some r:=⟨0,h⟩
abbrev P.a2g (x2:(Int×((List RB)×Unit))) (g3:(Int×((List RB)×Unit))->Option ((List RB)×Unit)):Option ((List RB)×Unit):=
 (if((decide (x2.1<((List.length x2.2.1):Int)))=true)then(if((decide ((0:Int)<=((List.length x2.2.1):Int)))=true)then(if((decide ((((List.length x2.2.1):Int)+(0:Int))<=((List.length x2.2.1):Int)))=true)then(if((decide ((0:Int)<=x2.1))=true)then(if((decide (x2.1<=((List.length x2.2.1):Int)))=true)then(if((decide ((0:Int)<=x2.1))=true)then(if((decide ((x2.1+(0:Int))<=((List.length x2.2.1):Int)))=true)then(if((decide ((0:Int)<=x2.1))=true)then(g3 ((IntKind.wrap .i64 (x2.1+(((Min.min (List.length (seen x2.2.1 (0:Nat) ((Int.toNat x2.1) - (0:Nat)))) ((Int.toNat ((List.length x2.2.1):Int)) - (Int.toNat x2.1))):Nat):Int))),((splice x2.2.1 (List.take ((Int.toNat ((List.length x2.2.1):Int)) - (Int.toNat x2.1)) (seen x2.2.1 (0:Nat) ((Int.toNat x2.1) - (0:Nat)))) ((0:Nat)+(Int.toNat x2.1))),())))
 else none)
 else none)
 else none)
 else none)
 else none)
 else none)
 else none)
 else(some (x2.2.1,())))
def P.a4j (k:Nat) (x:((List RB)×(Int×Unit))):(Option ((List RB)×Unit)):=
 (if((decide (x.2.1<(0:Int)))=true)then none
 else(Option.bind (S.a3e ((IntKind.wrap .u64 ((List.length x.1):Int)),((IntKind.wrap .u64 x.2.1),()))) (fun(y0:((Int×Int)×Unit))=>(if((decide (y0.1.1>(0:Int)))=true)then none
 else(if((decide (y0.1.2>(9223372036854775807:Int)))=true)then none
 else(if((decide ((0:Int)<=(IntKind.wrap .i64 y0.1.2)))=true)then(if((decide ((IntKind.wrap .i64 y0.1.2)<=(IntKind.wrap .i64 y0.1.2)))=true)then(if((decide (((IntKind.wrap .i64 y0.1.2)*(56:Int))<=(281474976710656:Int)))=true)then(loopP (X:=(Int×((List RB)×Unit))) (R:=((List RB)×Unit)) (P.a2g) k ((((Min.min (List.length x.1) (List.length (List.replicate (Int.toNat (IntKind.wrap .i64 y0.1.2)) (false,(([]:List Int),([]:List Int)))))):Nat):Int),((splice (List.replicate (Int.toNat (IntKind.wrap .i64 y0.1.2)) (false,(([]:List Int),([]:List Int)))) (List.take (List.length (List.replicate (Int.toNat (IntKind.wrap .i64 y0.1.2)) (false,(([]:List Int),([]:List Int))))) x.1) (0:Nat)),())))
 else none)
 else none)
 else none))))))
def PP.a6w (k:Nat) (x:((List RB)×(Int×Unit))):(Option ((List RB)×Unit)):=
 (Decidable.rec (motive:=fun _=>(Option ((List RB)×Unit))) (fun _=>(Option.bind (S.a3e ((IntKind.wrap .u64 ((List.length x.1):Int)),((IntKind.wrap .u64 x.2.1),()))) (fun(y0:((Int×Int)×Unit))=>(Decidable.rec (motive:=fun _=>(Option ((List RB)×Unit))) (fun _=>(Decidable.rec (motive:=fun _=>(Option ((List RB)×Unit))) (fun _=>(Decidable.rec (motive:=fun _=>(Option ((List RB)×Unit))) (fun _=>none) (fun _=>(Decidable.rec (motive:=fun _=>(Option ((List RB)×Unit))) (fun _=>none) (fun _=>(Decidable.rec (motive:=fun _=>(Option ((List RB)×Unit))) (fun _=>none) (fun _=>(loopP (X:=(Int×((List RB)×Unit))) (R:=((List RB)×Unit)) (P.a2g) k ((((Min.min (List.length x.1) (List.length (List.replicate (Int.toNat (IntKind.wrap .i64 y0.1.2)) (false,(([]:List Int),([]:List Int)))))):Nat):Int),((splice (List.replicate (Int.toNat (IntKind.wrap .i64 y0.1.2)) (false,(([]:List Int),([]:List Int)))) (List.take (List.length (List.replicate (Int.toNat (IntKind.wrap .i64 y0.1.2)) (false,(([]:List Int),([]:List Int))))) x.1) (0:Nat)),())))) (instDecidableEqBool (decide (((IntKind.wrap .i64 y0.1.2)*(56:Int))<=(281474976710656:Int))) true))) (instDecidableEqBool (decide ((IntKind.wrap .i64 y0.1.2)<=(IntKind.wrap .i64 y0.1.2))) true))) (instDecidableEqBool (decide ((0:Int)<=(IntKind.wrap .i64 y0.1.2))) true))) (fun _=>none) (instDecidableEqBool (decide (y0.1.2>(9223372036854775807:Int))) true))) (fun _=>none) (instDecidableEqBool (decide (y0.1.1>(0:Int))) true))))) (fun _=>none) (instDecidableEqBool (decide (x.2.1<(0:Int))) true))
theorem PP.b2g (k:Nat) (x:((List RB)×(Int×Unit))):PP.a6w k x=P.a4j k x:=rfl
theorem e6b:∀n:Fin 21,S.a3e (1,((n.val:Int),()))=some ((0,(n.val:Int)),()):=by decide
def S.a0o (x:((List RB)×(Int×Unit))):(Option ((List RB)×Unit)):=if x.1.length=1/\0<=x.2.1/\x.2.1<=20 then some (List.replicate x.2.1.toNat (x.1.getD 0 (false,([],[]))),())else none
theorem S.b2x (x r) (h:S.a0o x=some r):∃k,P.a4j k x=some r:=by
 obtain⟨xs,m,u⟩:=x;unfold S.a0o at h;dsimp only at h;split at h
 case isFalse=>cases h
 rename_i hc;cases h;obtain⟨hx,h1,h2⟩:=hc;obtain⟨a,rfl⟩:∃a,xs=[a]:=by
  match xs,hx with
  | [a],_=>exact⟨a,rfl⟩
 obtain⟨M,rfl⟩:∃M:Nat,m=(M:Int):=⟨m.toNat,by omega⟩
 rw[Int.toNat_natCast];refine⟨M+2,?_⟩;unfold P.a4j;dsimp only;have hmul:=e6b ⟨M,by omega⟩;dsimp only at hmul;have e0:IntKind.wrap .u64 (M:Int)=(M:Int):=IntWalk.u64_in _ (by omega);rw[if_neg (by simp),e0];show Option.bind (S.a3e (1,((M:Int),()))) _=_;rw[hmul,Option.bind_some];dsimp only;rw[if_neg (show ¬((decide ((0:Int)>0))=true) by simp),if_neg (by simpa using(show ¬(M:Int)>9223372036854775807 by omega)),wr (by omega) (by omega),if_pos (decide_eq_true (show(0:Int)<=(M:Int) by omega)),if_pos (by simp),if_pos (decide_eq_true (show(M:Int)*56<=281474976710656 by omega)),Int.toNat_natCast];simp only[List.length_replicate,List.length_cons,List.length_nil,Nat.zero_add];have key:∀(d j k:Nat),j+d=M->1<=j->d<k->loopP P.a2g k ((j:Int),List.replicate j a++List.replicate d (false,(([]:List Int),([]:List Int))),())=some (List.replicate M a,()):=by
  intro d
  induction d using Nat.strongRecOn with
  |ind d ih=>
   intro j k hj h1 hk;cases k with
   |zero=>omega
   |succ k=>
    rw[a0k];unfold P.a2g;have hlen:(List.replicate j a++List.replicate d (false,(([]:List Int),([]:List Int)))).length=M:=by simp;omega
    dsimp only;rw[hlen]
    by_cases hd:d=0
    ·subst hd;rw[if_neg (by simpa using(show ¬(j:Int)<(M:Int) by omega))];rw[show j=M by omega];simp
    ·have c1:(j:Int)<(M:Int):=by omega
     have c2:(0:Int)<=(M:Int):=by omega
     have c3:(M:Int)+0<=(M:Int):=by omega
     have c4:(0:Int)<=(j:Int):=by omega
     have c5:(j:Int)<=(M:Int):=by omega
     have c6:(j:Int)+0<=(M:Int):=by omega
     simp only[c1,c2,c3,c4,c5,c6,decide_true,if_true];have hs:seen (List.replicate j a++List.replicate d (false,(([]:List Int),([]:List Int)))) 0 ((j:Int).toNat - 0)=List.replicate j a:=by
      unfold seen;rw[Int.toNat_natCast,Nat.sub_zero,List.drop_zero,List.take_left' (by simp)]
     rw[hs,List.length_replicate,Int.toNat_natCast,Int.toNat_natCast];have hsp:splice (List.replicate j a++List.replicate d (false,(([]:List Int),([]:List Int)))) (List.take (M - j) (List.replicate j a)) (0+j)=List.replicate (j+min j d) a++List.replicate (d - min j d) (false,(([]:List Int),([]:List Int))):=by
      unfold splice;rw[Nat.zero_add,List.take_left' (by simp),List.take_replicate,List.length_replicate,show M - j=d by omega,List.drop_append];simp only[List.length_replicate];rw[List.drop_of_length_le (by simp),List.nil_append,List.drop_replicate,<-List.replicate_append_replicate,show j+min d j - j=min d j by omega,Nat.min_comm d j]
     rw[hsp,show M - j=d by omega,wr (by omega) (by omega)];have:=ih (d - min j d) (by omega) (j+min j d) k (by omega) (by omega) (by omega);rw[<-this];congr 2
 match M,h2 with
 |0,_=>
  rfl
 |M+1,h2=>
  have:=key M 1 (M+1+2) (by omega) (by omega) (by omega);have a1:min 1 (M+1)=1:=by omega
  have a2:splice (List.replicate (M+1) (false,(([]:List Int),([]:List Int)))) (List.take (M+1) [a]) 0=List.replicate 1 a++List.replicate M (false,(([]:List Int),([]:List Int))):=by
   unfold splice;simp [List.replicate_succ]
  rw[a1,a2];exact this
abbrev i_stepped.A:=Int×Int×List RB×List RB×RB×Int×Int×List RB×List (List RB)×Unit
abbrev i_stepped.B:=Int×Int×List RB×List (List RB)×List RB×Unit
abbrev i_stepped.C:=Option (List RB×Unit)
abbrev P.b2h (g4:i_stepped.B->i_stepped.C) (x7:i_stepped.A) (g8:i_stepped.A->i_stepped.C):i_stepped.C:=
 (fun(a b f h:Int) (c d i:List RB) (e:RB) (j:List (List RB))=>if decide (a<b)then if decide (0<=a)then if decide (a<(c.length:Int))then if decide (0<=a)then if decide (a<(d.length:Int))then(S.a3s ((e.1,e.2.1,e.2.2),((c.getD a.toNat (false,[],[])).1,(c.getD a.toNat (false,[],[])).2.1,(c.getD a.toNat (false,[],[])).2.2),())).bind fun y9=>(S.a1c (((d.getD (0+a.toNat) (false,[],[])).1,(d.getD (0+a.toNat) (false,[],[])).2.1,(d.getD (0+a.toNat) (false,[],[])).2.2),(y9.1.1,y9.1.2.1,y9.1.2.2),())).bind fun y10=>if decide (0<=a)then if decide (a<(d.length:Int))then g8 (wrap .i64 (a+1),b,c,d.set (0+a.toNat) (y10.1.1,y10.1.2.1,y10.1.2.2),(e.1,e.2.1,e.2.2),f,h,i,j,())else none else none else none else none else none else none else g4 (wrap .i64 (f+1),h,i,j,d,())) x7.1 x7.2.1 x7.2.2.2.2.2.1 x7.2.2.2.2.2.2.1 x7.2.2.1 x7.2.2.2.1 x7.2.2.2.2.2.2.2.1 x7.2.2.2.2.1 x7.2.2.2.2.2.2.2.2.1
abbrev P.b5r (k:Nat) (x3:i_stepped.B) (g4:i_stepped.B->i_stepped.C):i_stepped.C:=
 (fun(a b:Int) (c e:List RB) (d:List (List RB))=>if decide (a<b)then if decide (0<=a)then if decide (a<(c.length:Int))then(S.a0r (((c.getD a.toNat (false,[],[])).1,(c.getD a.toNat (false,[],[])).2.1,(c.getD a.toNat (false,[],[])).2.2),())).bind fun y5=>if y5.1==0 then g4 (wrap .i64 (a+1),b,c,d,e,())else if decide (0<=a)then if decide (a<(d.length:Int))then loopP (P.b2h g4) k (0,(List.length (d.getD a.toNat []):Int),d.getD a.toNat [],e,((c.getD a.toNat (false,[],[])).1,(c.getD a.toNat (false,[],[])).2.1,(c.getD a.toNat (false,[],[])).2.2),a,b,c,d,())else none else none else none else none else some (e,())) x3.1 x3.2.1 x3.2.2.1 x3.2.2.2.2.1 x3.2.2.2.1
def P.d2y (k:Nat) (x:List (List RB)×List RB×Unit):i_stepped.C:=
 (S.a3o (0,())).bind fun y0=>(S.a0o ([(y0.1.1,y0.1.2.1,y0.1.2.2)],(x.2.1.length:Int),())).bind fun y1=>loopP (P.b5r k) k (0,(x.2.1.length:Int),x.2.1,x.1,y1.1,())
theorem mul_i {x y:Q3} (hx:low x) (bx:below 350000000 x) (hy:low y) (bY:below 350000000 y):S.a3s (((rp B32 x).1,(rp B32 x).2.1,(rp B32 x).2.2),((rp B32 y).1,(rp B32 y).2.1,(rp B32 y).2.2),())=some (rp B32 (b9a x y),()):=ri_mul hx bx hy bY (Nat.le_refl _) (Nat.le_refl _)
theorem add_i {x y:Q3} (hx:low x) (bx:below 350000000 x) (hy:low y) (bY:below 350000000 y):S.a1c (((rp B32 x).1,(rp B32 x).2.1,(rp B32 x).2.2),((rp B32 y).1,(rp B32 y).2.1,(rp B32 y).2.2),())=some (rp B32 (a9p x y),()):=ri_add hx bx hy bY (Nat.le_refl _) (Nat.le_refl _)
theorem sgn_i (q:Q3):S.a0r (((rp B32 q).1,(rp B32 q).2.1,(rp B32 q).2.2),())=some (d4s q.1 q.2.1,()):=by
 unfold S.a0r rp;dsimp only;rw[if_pos (a0j (by decide) _),a0i (by decide)]
theorem tab_rp (B n:Nat) (f:Nat->Q3) {i:Nat} (h:i<n):((tab n f).map (rp B)).getD i (false,(([]:List Int),([]:List Int)))=rp B (f i):=by
 rw[b9y,c9k _ _ h]
theorem row_rp {B:Nat} {M:List (List Q3)} (h:isM M) {i j:Nat} (hi:i<M.length) (hj:j<M.length):((mp B M).getD i []).getD j (false,(([]:List Int),([]:List Int)))=rp B (mq M i j):=by
 rw[e3p hi,c2k B (by rw[(b6a h hi).1];exact hj)];rfl
theorem f9g {B:Nat} {M:List (List Q3)} (h:isM M) {i:Nat} (hi:i<M.length):((mp B M).getD i []).length=M.length:=by
 rw[e3p hi,List.length_map,(b6a h hi).1]
def dpQ (M:List (List Q3)) (w:List Q3) (i j:Nat):Q3:=d4g (fun i=>w.getD i a2c) (fun i=>mq M i j) i
theorem f2h {M:List (List Q3)} (h:b9b M) {w:List Q3} (hw:wOk M w 41) {i j:Nat} (hi:i<=M.length) (hj:j<M.length):low (dpQ M w i j)/\below 350000000 (dpQ M w i j):=by
 obtain⟨D,d1,d2⟩:=dot_ok h hw hj;have hl:=hw.1;have:=d2 i (by omega);have hp:=g0g (t:=41) (c:=350000000) (by decide);exact⟨this.1,c5c this hp (Nat.lt_of_le_of_lt d1 hp)⟩
theorem f9h {M:List (List Q3)} {w:List Q3} (hw:wOk M w 41) {i:Nat} (hi:i<w.length):low (w.getD i a2c)/\below 350000000 (w.getD i a2c):=by
 have:=d3p hw (by decide) rfl (w.getD i a2c) (by
  rw[List.getD_eq_getElem?_getD,List.getElem?_eq_getElem hi];exact List.getElem_mem hi)
 exact⟨this.1,a7g (by decide) this.2⟩
theorem f9i {M:List (List Q3)} (h:b9b M) {i j:Nat} (hi:i<M.length) (hj:j<M.length):low (mq M i j)/\below 350000000 (mq M i j):=⟨(c5e h hi hj).1,a7g (by decide) (c5e h hi hj).2.1⟩
theorem f9j {M:List (List Q3)} (h:b9b M) {w:List Q3} (hw:wOk M w 41) {i j:Nat} (hi:i<M.length) (hj:j<M.length):low (b9a (w.getD i a2c) (mq M i j))/\below 350000000 (b9a (w.getD i a2c) (mq M i j)):=by
 have hl:=hw.1
 have a:=d3p hw (by decide) rfl (w.getD i a2c) (by
  rw[List.getD_eq_getElem?_getD,List.getElem?_eq_getElem (by omega)];exact List.getElem_mem (by omega))
 have b:=c5e h hi hj;exact⟨b5j _ _ a.1 b.1,a7g (by decide) (d6s a.2 b.2.1)⟩
theorem f9k {M:List (List Q3)} (h:b9b M) {w:List Q3} (hw:wOk M w 41) {i:Nat} (hi:i<M.length) (g) {K:Nat} (hK:M.length<K):
  loopP (P.b2h g) K ((0:Int),(M.length:Int),(mp B32 M).getD i [],(tab M.length (dpQ M w i)).map (rp B32),rp B32 (w.getD i a2c),(i:Int),(M.length:Int),w.map (rp B32),mp B32 M,())=g (((i+1:Nat):Int),(M.length:Int),w.map (rp B32),mp B32 M,(tab M.length (dpQ M w (i+1))).map (rp B32),()):=by
 have hn:=h.2.1.1;have hl:=hw.1;have key:=a0g (k:=K) (b:=P.b2h g) (n:=M.length) (st:=fun j=>((j:Int),(M.length:Int),(mp B32 M).getD i [],(tab M.length fun v=>if v<j then dpQ M w (i+1) v else dpQ M w i v).map (rp B32),rp B32 (w.getD i a2c),(i:Int),(M.length:Int),w.map (rp B32),mp B32 M,())) (F:=fun _=>g (((i+1:Nat):Int),(M.length:Int),w.map (rp B32),mp B32 M,(tab M.length (dpQ M w (i+1))).map (rp B32),())) (fun j g' hj hg=>by
  unfold P.b2h;dsimp only at hg ⊢;have e1:(j:Int)<(M.length:Int):=by omega
  have e2:(0:Int)<=(j:Int):=by omega
  have e3:((tab M.length fun v=>if v<j then dpQ M w (i+1) v else dpQ M w i v).map (rp B32)).length=M.length:=by rw[List.length_map,a1v]
  rw[Int.toNat_natCast,Nat.zero_add,row_rp h.2.1 hi hj,f9g h.2.1 hi,e3,tab_rp B32 _ _ hj,if_neg (Nat.lt_irrefl j)];obtain⟨a1,a2⟩:=f9h hw (show i<w.length by omega);obtain⟨b1,b2⟩:=f9i h hi hj;obtain⟨c1,c2⟩:=f9j h hw hi hj;obtain⟨d1,d2⟩:=f2h h hw (show i<=M.length by omega) hj;rw[mul_i a1 a2 b1 b2,Option.bind_some,add_i d1 d2 c1 c2,Option.bind_some];simp only[e1,e2,decide_true,if_true];rw[wr (by omega) (by omega),<-hg];have e4:((tab M.length fun v=>if v<j then dpQ M w (i+1) v else dpQ M w i v).map (rp B32)).set j (rp B32 (a9p (dpQ M w i j) (b9a (w.getD i a2c) (mq M i j))))=(tab M.length fun v=>if v<j+1 then dpQ M w (i+1) v else dpQ M w i v).map (rp B32):=by
   rw[<-List.map_set,c2l];congr 1;apply a1p;intro v _
   by_cases e:v=j
   ·subst e;rw[if_pos rfl,if_pos (by omega)];rfl
   ·rw[if_neg e]
    by_cases q:v<j
    ·rw[if_pos q,if_pos (by omega)]
    ·rw[if_neg q,if_neg (by omega)]
  rw[<-e4];rfl) (fun g'=>by
  unfold P.b2h;dsimp only;rw[if_neg (by simp),wr (by omega) (by omega)];have e:(tab M.length fun v=>if v<M.length then dpQ M w (i+1) v else dpQ M w i v)=tab M.length (dpQ M w (i+1)):=a1p fun v hv=>if_pos hv
  rw[e];rfl) hK
 refine Eq.trans ?_ key;have e:(tab M.length fun v=>if v<0 then dpQ M w (i+1) v else dpQ M w i v)=tab M.length (dpQ M w i):=a1p fun v _=>if_neg (Nat.not_lt_zero v)
 rw[e];rfl
open Classical in
def S.b6q (x:((List (List RB))×((List RB)×Unit))):(Option ((List RB)×Unit)):=if ∃(M:List (List Q3)) (w:List Q3),b9b M/\x.1=mp B32 M/\x.2.1=w.map (rp B32)/\wOk M w 41 then some ((d6a (mv B32 x.1) (x.2.1.map (rv B32))).map (rp B32),())else none
theorem S.e6c (x r) (h:S.b6q x=some r):∃k,P.d2y k x=some r:=by
 obtain⟨m,xs,u⟩:=x;unfold S.b6q at h;dsimp only at h;split at h
 case isFalse=>cases h
 rename_i hc;obtain⟨M,w,hM,rfl,rfl,hw⟩:=hc;cases h;rw[b6m (by decide),a5b a0d];have hn:=hM.2.1.1;have hl:=hw.1;refine⟨M.length+1,?_⟩;unfold P.d2y;dsimp only;have ez:S.a3o (0,())=some (rp B32 a2c,()):=by rfl
 have er:S.a0o ([rp B32 a2c],(M.length:Int),())=some ((tab M.length (dpQ M w 0)).map (rp B32),()):=by
  unfold S.a0o;dsimp only;rw[if_pos ⟨rfl,by omega,by omega⟩,Int.toNat_natCast,b9y];congr 2;apply List.ext_getElem
  ·rw[List.length_replicate,a1v]
  ·intro i h1 h2;rw[List.length_replicate]at h1;rw[List.getElem_replicate,b6b _ h1];rfl
 have er':S.a0o ([((rp B32 a2c).1,(rp B32 a2c).2.1,(rp B32 a2c).2.2)],(M.length:Int),())=some ((tab M.length (dpQ M w 0)).map (rp B32),()):=er;rw[ez,Option.bind_some,List.length_map,hl,er',Option.bind_some];have key:=a0g (k:=M.length+1) (b:=P.b5r (M.length+1)) (n:=M.length) (st:=fun i=>((i:Int),(M.length:Int),w.map (rp B32),mp B32 M,(tab M.length (dpQ M w i)).map (rp B32),())) (F:=fun _=>some ((d6a M w).map (rp B32),())) (fun i g hi hg=>by
  unfold P.b5r;dsimp only at hg ⊢;have e1:(i:Int)<(M.length:Int):=by omega
  have e2:(0:Int)<=(i:Int):=by omega
  have e3:((w.map (rp B32)).length:Int)=(M.length:Int):=by rw[List.length_map,hl]
  have e4:((mp B32 M).length:Int)=(M.length:Int):=by rw[a8a]
  rw[Int.toNat_natCast,c2k B32 (show i<w.length by omega),sgn_i,Option.bind_some,e3,e4,f9g hM.2.1 hi];simp only[e1,e2,decide_true,if_true]
  by_cases h0:(w.getD i a2c).2.1=0
  ·rw[if_pos (by rw[beq_iff_eq];exact a5z.2 h0),wr (by omega) (by omega),<-hg];have e5:tab M.length (dpQ M w i)=tab M.length (dpQ M w (i+1)):=a1p fun j hj=>by
    obtain⟨a1,a2⟩:=f9h hw (show i<w.length by omega);obtain⟨b1,b2⟩:=f9i hM hi hj;obtain⟨c1,c2⟩:=f9j hM hw hi hj;obtain⟨d1,d2⟩:=f2h hM hw (show i<=M.length by omega) hj;show dpQ M w i j=a9p (dpQ M w i j) (b9a (w.getD i a2c) (mq M i j));apply f1u d1 (b5i _ _ d1 c1);rw[c4c d1 c1,d0u a1 b1,(b7u a1).2 h0];grind
   rw[e5];rfl
  ·rw[if_neg (by rw[beq_iff_eq];exact fun q=>h0 (a5z.1 q))];exact(f9k hM hw hi g (Nat.lt_succ_self _)).trans hg) (fun g=>by
  unfold P.b5r;dsimp only;rw[if_neg (by simp)];unfold d6a;rw[hl];have:(fun j=>d4g (fun i=>w.getD i a2c) (fun i=>mq M i j) M.length)=dpQ M w M.length:=rfl;rw[this]) (by omega)
 exact key
abbrev P.c1b (x1:Int×Int×List (List RB)×List RB×Unit) (g2:Int×Int×List (List RB)×List RB×Unit->Option (List RB×Unit)):Option (List RB×Unit):=
 if decide (x1.1<x1.2.1)then(S.b6q (x1.2.2.1,x1.2.2.2.1,())).bind fun y3=>g2 (wrap .i64 (x1.1+1),x1.2.1,x1.2.2.1,y3.1,())else some (x1.2.2.2.1,())
def P.f0d (k:Nat) (x:List (List RB)×List RB×Int×Unit):Option (List RB×Unit):=
 loopP P.c1b k (0,x.2.2.1,x.1,x.2.1,())
open Classical in
def S.c6w (x:((List (List RB))×((List RB)×(Int×Unit)))):(Option ((List RB)×Unit)):=if ∃(M:List (List Q3)) (w:List Q3),b9b M/\x.1=mp B32 M/\x.2.1=w.map (rp B32)/\wOk M w 0/\0<=x.2.2.1/\x.2.2.1<=40 then some ((a7q (mv B32 x.1) x.2.2.1.toNat (x.2.1.map (rv B32))).map (rp B32),())else none
theorem S.f4y (x r) (h:S.c6w x=some r):∃k,P.f0d k x=some r:=by
 obtain⟨m,xs,s,u⟩:=x;unfold S.c6w at h;dsimp only at h;split at h
 case isFalse=>cases h
 rename_i hc;obtain⟨M,w,hM,rfl,rfl,hw,h0,h1⟩:=hc;cases h;rw[b6m (by decide),a5b a0d];obtain⟨s,rfl⟩:=Int.eq_ofNat_of_zero_le h0;refine⟨s+1,?_⟩;unfold P.f0d;dsimp only;have key:=a0g (k:=s+1) (b:=P.c1b) (n:=s) (st:=fun i=>((i:Int),(s:Int),mp B32 M,(a7q M i w).map (rp B32),())) (F:=fun _=>some ((a7q M s w).map (rp B32),())) (fun i g hi hg=>by
  unfold P.c1b;dsimp only at hg ⊢;have e1:(i:Int)<(s:Int):=by omega
  have hk:wOk M (a7q M i w) 41:=f2o (c5f hM i w 0 hw) (by omega);have es:S.b6q (mp B32 M,(a7q M i w).map (rp B32),())=some ((a7q M (i+1) w).map (rp B32),()):=by
   unfold S.b6q;dsimp only;rw[if_pos ⟨M,_,hM,rfl,rfl,hk⟩,b6m (by decide),a5b a0d,c3a]
  rw[if_pos (decide_eq_true e1),es,Option.bind_some,wr (by omega) (by omega)];exact hg) (fun g=>by
  unfold P.c1b;dsimp only;rw[if_neg (by simp)]) (by omega)
 exact key
def P.c4v (k:Nat) (x:RB×RB×Unit):Option (Int×Unit):=
 (S.a0r ((x.1.1,x.1.2.1,x.1.2.2),())).bind fun y0=>(S.a0r ((x.2.1.1,x.2.1.2.1,x.2.1.2.2),())).bind fun y1=>if y0.1 != y1.1 then(S.a0r ((x.1.1,x.1.2.1,x.1.2.2),())).bind fun y2=>(S.a0r ((x.2.1.1,x.2.1.2.1,x.2.1.2.2),())).bind fun y3=>some (wrap .i64 (y2.1 - y3.1),())else(S.a2z (x.1.2.1,x.2.1.2.2,())).bind fun y4=>(S.a2z (x.2.1.2.1,x.1.2.2,())).bind fun y5=>(S.a1h (y4.1,y5.1,())).bind fun y6=>if x.1.1 then some (wrap .i64 (0 - y6.1),())else some (y6.1,())
def S.c4w (x:(RB×(RB×Unit))):(Option (Int×Unit)):=P.c4v 0 x
theorem S.e6d (x r) (h:S.c4w x=some r):∃k,P.c4v k x=some r:=⟨0,h⟩
def P.c2y (k:Nat) (x:RB×Unit):Option (Bool×Unit):=
 (S.a3o (1,())).bind fun y0=>(S.c4w ((x.1.1,x.1.2.1,x.1.2.2),(y0.1.1,y0.1.2.1,y0.1.2.2),())).bind fun y1=>some (y1.1==0,())
def S.a8r (x:(RB×Unit)):(Option (Bool×Unit)):=if rok B32 40000000 x.1=true/\qok (rv B32 x.1)=true then some (c4a (rv B32 x.1),())else none
theorem S.d5w (x r) (h:S.a8r x=some r):∃k,P.c2y k x=some r:=by
 obtain⟨x,u⟩:=x;unfold S.a8r at h;dsimp only at h;split at h
 case isFalse=>cases h
 rename_i hc;obtain⟨hr,hq⟩:=hc;obtain⟨n,p,q,rfl,l1,l2⟩:=a9q hr;rw[b7t a0d]at h hq;rw[d0m]at hq;obtain⟨h0,h1⟩:=hq;dsimp only at h0 h1;cases h;refine⟨0,?_⟩;have hw:S.a3o (1,())=some ((false,(nd B32 1,nd B32 1)),()):=by rfl
 unfold P.c2y c4a;dsimp only;rw[hw,Option.bind_some];dsimp only;unfold S.c4w P.c4v;dsimp only;have hs:∀(n:Bool) (p:Nat) (ys:List Int),S.a0r ((n,(nd B32 p,ys)),())=some (d4s n p,()):=by
  intro n p ys;unfold S.a0r;dsimp only;rw[if_pos (a0j a0d _),a0i a0d]
 have o1:(nd B32 1).length<=40000000:=by rw[e3e a0d];decide
 have em:∀p q,(nd B32 p).length<=40000000->(nd B32 q).length<=40000000->S.a2z (nd B32 p,(nd B32 q,()))=some (nd B32 (p*q),()):=by
  intro p q hp hq;unfold S.a2z;dsimp only;rw[if_pos ⟨a4f a0d _,a4f a0d _,by omega,by omega⟩,a0i a0d,a0i a0d]
 have ec:S.a1h (nd B32 (p*1),(nd B32 (1*q),()))=some (b0u (p*1) (1*q),()):=by
  unfold S.a1h;dsimp only;rw[if_pos ⟨a0j a0d _,a0j a0d _,by rw[Nat.mul_one];omega⟩,a0i a0d,a0i a0d]
 rw[hs,Option.bind_some,hs,Option.bind_some];dsimp only;have s1:d4s false 1=1:=rfl;rw[s1]
 by_cases hp:p=0
 ·subst hp;rw[decide_eq_false (fun z=>by have:=z.2;omega)];rfl
 ·cases n
  ·have s2:d4s false p=1:=by
    unfold d4s;rw[if_neg hp];rfl
   rw[s2,if_neg (by decide),em _ _ l1 o1,Option.bind_some,em _ _ o1 l2,Option.bind_some];dsimp only;rw[ec,Option.bind_some];dsimp only;rw[if_neg (by decide),Option.bind_some];have hz:=a4z (a:=p*1) (b:=1*q);rw[Nat.mul_one,Nat.one_mul]at hz ⊢
   by_cases he:p=q
   ·rw[decide_eq_true ⟨rfl,he⟩,hz.2 he];rfl
   ·rw[decide_eq_false (fun z=>he z.2)];dsimp only;rw[beq_eq_false_iff_ne.2 (fun z=>he (hz.1 z))]
  ·have s2:d4s true p= -1:=by
    unfold d4s;rw[if_neg hp];rfl
   rw[s2,decide_eq_false (fun z=>by cases z.1)];rfl
def S.b4r (x:(ByteArray×(ByteArray×Unit))):(Option ((ByteArray×(ByteArray×Bool))×Unit)):=if x.1.size<4294967281 then some ((⟨(Go.Lib.cut x.1.data.toList x.2.1.data.toList).1.toArray⟩,(⟨(Go.Lib.cut x.1.data.toList x.2.1.data.toList).2.1.toArray⟩,(Go.Lib.cut x.1.data.toList x.2.1.data.toList).2.2)),())else none
def S.a7i (x:(ByteArray×(ByteArray×Unit))):(Option ((ByteArray×Bool)×Unit)):=some ((⟨(Go.Lib.trimPrefix x.1.data.toList x.2.1.data.toList).toArray⟩,Go.Lib.hasPrefix x.1.data.toList x.2.1.data.toList),())
def S.a4a (x:(ByteArray×(Int×(Int×Unit)))):(Option ((Int×Bool)×Unit)):=if x.2.1=10/\x.2.2.1=64/\x.1.size<=281474976710656 then some (match Go.Lib.parseUintB 64 x.1.data.toList with| .ok v=>(((v:Nat):Int),false)| .«syntax» =>(0,true)| .range=>(18446744073709551615,true),())else none
abbrev i_readNat.A:=Int×Int×ByteArray×List Int×Unit
abbrev i_readNat.B:=Option ((List Int×Bool)×Unit)
abbrev P.a6x (g5:ByteArray×List Int×Unit->i_readNat.B) (x8:Int×Int×Int×List Int×Int×ByteArray×Int×Unit) (g9:Int×Int×Int×List Int×Int×ByteArray×Int×Unit->i_readNat.B):i_readNat.B:=
 (fun(a b c e h:Int) (d:List Int) (f:ByteArray)=>if decide (a<b)then g9 (wrap .i64 (a+1),b,wrap .u64 (c*10),d,e,f,h,())else(S.a3h (c,())).bind fun y10=>(S.a2z (d,y10.1,())).bind fun y11=>(S.a3h (e,())).bind fun y12=>(S.a9t (y11.1,y12.1,())).bind fun y13=>if decide (0<=(f.size:Int))then if decide ((f.size:Int)<=(f.size:Int))then if decide (0<=h)then if decide (h<=(f.size:Int))then g5 (ByteArray.extract f h.toNat (Int.toNat (f.size:Int)),y13.1,())else none else none else none else none) x8.1 x8.2.1 x8.2.2.1 x8.2.2.2.2.1 x8.2.2.2.2.2.2.1 x8.2.2.2.1 x8.2.2.2.2.2.1
abbrev P.a9a (k:Nat) (x4:ByteArray×List Int×Unit) (g5:ByteArray×List Int×Unit->i_readNat.B):i_readNat.B:=
 if ! ((ByteArray.toList x4.1)==(ByteArray.toList (bs [])))then if(Int.tmod (x4.1.size:Int) 9)==0 then if decide (9<=(x4.1.size:Int))then(S.a4a (ByteArray.extract x4.1 0 9,10,64,())).bind fun y6=>loopP (P.a6x g5) k (0,9,1,x4.2.1,y6.1.1,x4.1,9,())else none else if decide (0<=(Int.tmod (x4.1.size:Int) 9))then if decide ((Int.tmod (x4.1.size:Int) 9)<=(x4.1.size:Int))then if decide (0<=(Int.tmod (x4.1.size:Int) 9))then(S.a4a (ByteArray.extract x4.1 0 (Int.toNat (Int.tmod (x4.1.size:Int) 9)),10,64,())).bind fun y14=>loopP (P.a6x g5) k (0,Int.tmod (x4.1.size:Int) 9,1,x4.2.1,y14.1.1,x4.1,Int.tmod (x4.1.size:Int) 9,())else none else none else none else some ((x4.2.1,true),())
abbrev P.a9b (k:Nat) (x1:i_readNat.A) (g2:i_readNat.A->i_readNat.B):i_readNat.B:=
 if decide (x1.1<x1.2.1)then if decide (0<=x1.1)then if decide (x1.1<(x1.2.2.1.size:Int))then if decide ((a2i x1.2.2.1 x1.1)<48)then some (([],false),())else if decide (0<=x1.1)then if decide (x1.1<(x1.2.2.1.size:Int))then if decide ((a2i x1.2.2.1 x1.1)>57)then some (([],false),())else g2 (wrap .i64 (x1.1+1),x1.2.1,x1.2.2.1,x1.2.2.2.1,())else none else none else none else none else loopP (P.a9a k) k (x1.2.2.1,x1.2.2.2.1,())
abbrev P.c4x (k:Nat) (x23:i_readNat.A) (g24:i_readNat.A->i_readNat.B):i_readNat.B:=
 (fun(a b:Int) (c:ByteArray) (d:List Int)=>if decide (a<b)then if decide (0<=a)then if decide (a<(c.size:Int))then if decide ((a2i c a)<48)then some (([],false),())else if decide (0<=a)then if decide (a<(c.size:Int))then if decide ((a2i c a)>57)then some (([],false),())else g24 (wrap .i64 (a+1),b,c,d,())else none else none else none else none else loopP (P.a9a k) k (c,d,())) x23.1 x23.2.1 x23.2.2.1 x23.2.2.2.1
def P.d2z (k:Nat) (x:ByteArray×Unit):i_readNat.B:=
 if(ByteArray.toList x.1)==(ByteArray.toList (bs []))then some (([],false),())else if decide ((x.1.size:Int)>200)then some (([],false),())else if decide (0<(x.1.size:Int))then if(a2i x.1 0)==48 then if decide ((x.1.size:Int)>1)then some (([],false),())else loopP (P.a9b k) k (0,(x.1.size:Int),x.1,[],())else loopP (P.c4x k) k (0,(x.1.size:Int),x.1,[],())else none
theorem f2i {p m:Nat} (h:p<10^m):(nd B32 p).length<=m:=by
 rw[a4o a0d];exact Nat.lt_of_lt_of_le h (Nat.pow_le_pow_left (by decide) _)
theorem g4s (g) (t:ByteArray) (p v n:Nat) (hn:n<=9) (hv:v<10^n) (hp:p<10^200) (hnl:n<=t.size) (K:Nat) (hK:n<K):
  loopP (P.a6x g) K ((0:Int),((n:Int),((1:Int),(nd B32 p,((v:Int),(t,((n:Int),())))))))=g (ByteArray.extract t n t.size,(nd B32 (p*10^n+v),())):=by
 have hp9:10^n<=10^9:=Nat.pow_le_pow_right (by decide) hn;have h9:(10:Nat)^9=1000000000:=by decide
 have key:=a0g (k:=K) (b:=P.a6x g) (n:=n) (st:=fun i=>((i:Int),(n:Int),((10^i:Nat):Int),nd B32 p,(v:Int),t,(n:Int),())) (F:=fun i=>g (ByteArray.extract t n t.size,(nd B32 (p*10^n+v),()))) (fun i g' hi hg'=>by
  unfold P.a6x;dsimp only at hg' ⊢;refine Eq.trans ?_ hg';have e1:(i:Int)<(n:Int):=by omega
  have hpi:10^(i+1)<=10^9:=Nat.pow_le_pow_right (by decide) (by omega);rw[Nat.pow_succ]at hpi ⊢;rw[if_pos (decide_eq_true e1),wr (by omega) (by omega),show((10^i:Nat):Int)*10=((10^i*10:Nat):Int) by omega,wu (by omega) (by omega)];rfl) (fun g'=>by
  unfold P.a6x;dsimp only;rw[if_neg (by simp)];unfold S.a3h S.a2z S.a9t;dsimp only;have hl1:=f2i hp;have hl2:=f2i (p:=10^n) (m:=10) (by omega);have hl3:(nd B32 (p*10^n)).length<=209:=f2i (by
   have:p*10^n<10^200*10^9:=Nat.mul_lt_mul_of_lt_of_le hp hp9 (Nat.pow_pos (by decide));rwa [<-Nat.pow_add]at this)
  have hl4:=f2i (p:=v) (m:=9) (by omega);rw[if_pos ⟨by omega,by omega⟩,Option.bind_some,Int.toNat_natCast];dsimp only;rw[if_pos ⟨a4f a0d _,a4f a0d _,by omega,by omega⟩,Option.bind_some,if_pos ⟨by omega,by omega⟩,Option.bind_some,Int.toNat_natCast];dsimp only;rw[a0i a0d,a0i a0d,if_pos ⟨a4f a0d _,a4f a0d _,by omega,by omega⟩,Option.bind_some,a0i a0d,a0i a0d];have c1:(0:Int)<=(t.size:Int):=by omega
  have c2:(0:Int)<=(n:Int):=by omega
  have c3:(n:Int)<=(t.size:Int):=by omega
  rw[if_pos (decide_eq_true c1),if_pos (decide_eq_true (Int.le_refl _)),if_pos (decide_eq_true c2),if_pos (decide_eq_true c3),Int.toNat_natCast,Int.toNat_natCast]) hK
 exact key
theorem rn_loop (K:Nat) (hK:10<=K) (m:Nat):∀(t:ByteArray) (p k:Nat),t.data.toList.length=m->b9q t.data.toList=true->m<=200->p<10^(200 - m)->m<k->
  loopP (P.a9a K) k (t,(nd B32 p,()))=some ((nd B32 (p*10^m+dv t.data.toList),true),()):=by
 induction m using Nat.strongRecOn with
 |ind m ih=>
  intro t p k hm hd hm2 hp hk;obtain⟨k,rfl⟩:∃j,k=j+1:=⟨k - 1,by omega⟩
  rw[a0k];have hs:t.size=t.data.toList.length:=by rw[Array.length_toList];rfl
  have hstep:∀n:Nat,0<n->n<=9->n<=m->Option.bind (S.a4a (ByteArray.extract t 0 n,(10,(64,())))) (fun(y6:((Int×Bool)×Unit))=>(Go.Cm.loopP (P.a6x (loopP (P.a9a K) k)) K ((0:Int),((n:Int),((1:Int),(nd B32 p,(y6.1.1,(t,((n:Int),())))))))))=some ((nd B32 (p*10^m+dv t.data.toList),true),()):=by
   intro n hn0 hn9 hnm;have hx:(ByteArray.extract t 0 n).data.toList=t.data.toList.take n:=by rw[d8w,List.drop_zero]
   have hxl:(t.data.toList.take n).length=n:=by simp;omega
   have hxs:(ByteArray.extract t 0 n).size=n:=by
    have:(ByteArray.extract t 0 n).size=(ByteArray.extract t 0 n).data.toList.length:=by rw[Array.length_toList];rfl
    rw[this,hx,hxl]
   have hdx:=d0l hd n;have hpar:=g3f (t.data.toList.take n) hdx (by intro q;rw[q]at hxl;simp at hxl;omega) (by omega);unfold S.a4a;dsimp only;rw[if_pos ⟨rfl,rfl,by omega⟩,hx,hpar,Option.bind_some];dsimp only;have hv:=f7f hdx;rw[hxl]at hv;have hp200:p<10^200:=Nat.lt_of_lt_of_le hp (Nat.pow_le_pow_right (by decide) (by omega));rw[g4s _ t p _ n hn9 hv hp200 (by omega) K (by omega)];have hd2:(ByteArray.extract t n t.size).data.toList=t.data.toList.drop n:=by
    rw[d8w,List.take_of_length_le (by omega)]
   have hl2:(t.data.toList.drop n).length=m - n:=by simp;omega
   have hb:p*10^n+dv (t.data.toList.take n)<10^(200 - (m - n)):=by
    have h1:(p+1)*10^n<=10^(200 - m)*10^n:=Nat.mul_le_mul_right _ hp;rw[<-Nat.pow_add,show 200 - m+n=200 - (m - n) by omega,Nat.add_mul,Nat.one_mul]at h1;omega
   rw[ih (m - n) (by omega) _ _ k (by rw[hd2,hl2]) (by rw[hd2];exact c3u hd n) (by omega) hb (by omega),hd2];have h3:=c3t (t.data.toList.take n) (t.data.toList.drop n);rw[List.take_append_drop,hl2]at h3;rw[h3,Nat.add_mul,Nat.mul_assoc,<-Nat.pow_add,show n+(m - n)=m by omega,Nat.add_assoc]
  generalize loopP (P.a9a K) k=G at hstep ⊢;unfold P.a9a;dsimp only;have hbs:ByteArray.toList (bs [])=[]:=by rw[ByteArray.toList_eq];rfl
  rw[hbs,ByteArray.toList_eq,hs,hm]
  by_cases h0:m=0
  ·subst h0;have:t.data.toList=[]:=List.eq_nil_of_length_eq_zero hm;rw[this,if_neg (by simp),Nat.pow_zero,Nat.mul_one,show dv []=0 from rfl,Nat.add_zero]
  ·have hne:t.data.toList≠ []:=by
    intro q;rw[q]at hm;simp at hm;omega
   have hmod:Int.tmod (m:Int) 9=((m%9:Nat):Int):=by
    rw[Int.tmod_eq_emod_of_nonneg (by omega)];omega
   rw[if_pos (by simpa using hne),hmod]
   by_cases h9:m%9=0
   ·have c1:(9:Int)<=(m:Int):=by omega
    rw[if_pos (by simp [h9]),if_pos (decide_eq_true c1)];exact hstep 9 (by omega) (by omega) (by omega)
   ·have c1:(0:Int)<=((m%9:Nat):Int):=by omega
    have c2:((m%9:Nat):Int)<=(m:Int):=by omega
    rw[if_neg (by simp;omega),if_pos (decide_eq_true c1),if_pos (decide_eq_true c2),if_pos (decide_eq_true c1),Int.toNat_natCast];exact hstep (m%9) (by omega) (by omega) (by omega)
theorem f9l (b:Nat->(Int×(Int×(ByteArray×((List Int)×Unit))))->((Int×(Int×(ByteArray×((List Int)×Unit))))->Option (((List Int)×Bool)×Unit))->Option (((List Int)×Bool)×Unit)) (hbb:b=P.a9b) (t:ByteArray) (hl:t.data.toList.length<=200) (K:Nat) (hK:300<=K):
  loopP (b K) K ((0:Int),((t.size:Int),(t,([],()))))=some (if b9q t.data.toList=true then(nd B32 (dv t.data.toList),true)else([],false),()):=by
 subst hbb;have hs:t.size=t.data.toList.length:=by rw[Array.length_toList];rfl
 rw[hs];have hloop:=rn_loop K (by omega) t.data.toList.length t 0 K rfl;generalize hL:t.data.toList=l at*;have key:∀d i k:Nat,i+d=l.length->d<k->b9q (l.take i)=true->loopP (P.a9b K) k ((i:Int),((l.length:Int),(t,(([]:List Int),()))))=some (if b9q l=true then(nd B32 (dv l),true)else([],false),()):=by
  intro d
  induction d with
  |zero=>
   intro i k hi hk hd;obtain⟨k,rfl⟩:∃j,k=j+1:=⟨k - 1,by omega⟩
   have:i=l.length:=by omega
   subst this;rw[List.take_length]at hd;rw[a0k];unfold P.a9b;dsimp only;rw[if_neg (by simp),if_pos hd];have:=hloop hd hl (Nat.pow_pos (by decide)) (by omega);rw[a1t a0d,Nat.zero_mul,Nat.zero_add]at this;exact this
  |succ d ih=>
   intro i k hi hk hd;obtain⟨k,rfl⟩:∃j,k=j+1:=⟨k - 1,by omega⟩
   have hil:i<l.length:=by omega
   rw[a0k];unfold P.a9b;dsimp only;have e1:(i:Int)<(l.length:Int):=by omega
   have e2:(0:Int)<=(i:Int):=by omega
   have hb:a2i t (i:Int)=(l[i].toNat:Int):=by
    unfold a2i;rw[hL,a0m l i _ hil]
   have ha2:b9q (l.take (i+1))=(b9q (l.take i)&&isD l[i]):=by
    rw[<-List.take_append_getElem hil,c2h];simp [b9q]
   have ha3:b9q l=true->isD l[i]=true:=fun q=>decide_eq_true (f1n q hil)
   rw[hs,hb,wr (x:=(i:Int)+1) (by omega) (by omega)];simp only[e1,e2,decide_true,if_true]
   by_cases c1:48<=l[i].toNat
   ·rw[if_neg (by simp;omega)]
    by_cases c2:l[i].toNat<=57
    ·have:isD l[i]=true:=decide_eq_true ⟨c1,c2⟩;rw[this,Bool.and_true]at ha2;rw[if_neg (by simp;omega)];exact ih (i+1) k (by omega) (by omega) (by rw[ha2];exact hd)
    ·have:isD l[i]=false:=decide_eq_false (fun q=>c2 q.2);rw[if_pos (decide_eq_true (by omega)),if_neg (fun q=>by rw[ha3 q]at this;cases this)]
   ·have:isD l[i]=false:=decide_eq_false (fun q=>c1 q.1);rw[if_pos (decide_eq_true (by omega)),if_neg (fun q=>by rw[ha3 q]at this;cases this)]
 exact key l.length 0 K (by omega) (by omega) rfl
def S.a9z (x:(ByteArray×Unit)):(Option (((List Int)×Bool)×Unit)):=some (if okN x.1.data.toList=true then(nd B32 (dv x.1.data.toList),true)else([],false),())
theorem S.e6e (x r) (h:S.a9z x=some r):∃k,P.d2z k x=some r:=by
 obtain⟨t,u⟩:=x;unfold S.a9z at h;dsimp only at h;refine⟨300,?_⟩;rw[<-h];unfold P.d2z;dsimp only;have hs:t.size=t.data.toList.length:=by rw[Array.length_toList];rfl
 have hbs:ByteArray.toList (bs [])=[]:=by rw[ByteArray.toList_eq];rfl
 rw[hbs,ByteArray.toList_eq];have hscan:=f9l P.a9b rfl t;have hscan2:=f9l P.c4x rfl t;unfold okN okR
 by_cases h1:t.data.toList=[]
 ·rw[h1,if_pos (by rfl)];rfl
 ·have hpos:0<t.data.toList.length:=List.length_pos_iff.2 h1;rw[if_neg (by simpa using h1),decide_eq_true h1,Bool.true_and,hs]
  by_cases h2:t.data.toList.length<=200
  ·have d2:¬(t.data.toList.length:Int)>200:=by omega
   have d3:(0:Int)<(t.data.toList.length:Int):=by omega
   rw[if_neg (by simpa using d2),if_pos (decide_eq_true d3),decide_eq_true h2,Bool.true_and];have s1:=hscan h2 300 (by omega);have s2:=hscan2 h2 300 (by omega);rw[hs]at s1 s2;have hb:a2i t 0=(t.data.toList[0].toNat:Int):=by
    exact congrArg (fun c:UInt8=>(c.toNat:Int)) (a0m t.data.toList 0 0 hpos)
   have hh:t.data.toList.head? =some t.data.toList[0]:=by
    generalize t.data.toList=l at*;cases l with
    |nil=>simp at h1
    |cons c r=>rfl
   rw[hb,hh]
   by_cases c1:t.data.toList[0]=48
   ·rw[c1,if_pos (by rfl)]
    by_cases h3:t.data.toList.length=1
    ·have d4:¬(t.data.toList.length:Int)>1:=by omega
     rw[if_neg (by simpa using d4),s1,decide_eq_true h3,Bool.true_or,Bool.and_true]
    ·have d4:(t.data.toList.length:Int)>1:=by omega
     rw[if_pos (decide_eq_true d4),decide_eq_false h3,Bool.false_or,decide_eq_false (by simp),Bool.and_false,if_neg (by simp)]
   ·have c2:¬((t.data.toList[0].toNat:Int)=48):=by
     intro q;apply c1;apply UInt8.toNat_inj.1;show _=48;omega
    rw[if_neg (by simpa using c2),s2,decide_eq_true (p:=some t.data.toList[0]≠some 48) (by simpa using c1),Bool.or_true,Bool.and_true]
  ·have d2:(t.data.toList.length:Int)>200:=by omega
   rw[if_pos (decide_eq_true d2),decide_eq_false h2,Bool.false_and,Bool.and_false,if_neg (by simp)]
def P.d3a (k:Nat) (x:ByteArray×Unit):Option ((RB×Bool)×Unit):=
 (S.b4r (x.1,bs [47],())).bind fun y0=>(S.a7i (y0.1.1,bs [45],())).bind fun y1=>(S.a9z (y1.1.1,())).bind fun y2=>if !y2.1.2 then some (((false,[],[]),false),())else if y1.1.2 then if(y2.1.1.length:Int)==0 then some (((false,[],[]),false),())else(S.a3h (1,())).bind fun y3=>if !y0.1.2.2 then some (((y1.1.2,y2.1.1,y3.1),true),())else(S.a9z (y0.1.2.1,())).bind fun y4=>if !y4.1.2 then some (((false,[],[]),false),())else(S.a3h (1,())).bind fun y5=>(S.a1h (y4.1.1,y5.1,())).bind fun y6=>if decide (y6.1<=0)then some (((false,[],[]),false),())else(S.a6b (y2.1.1,y4.1.1,())).bind fun y7=>(S.a3h (1,())).bind fun y8=>(S.a1h (y7.1,y8.1,())).bind fun y9=>if y9.1 != 0 then some (((false,[],[]),false),())else some (((y1.1.2,y2.1.1,y4.1.1),true),())else(S.a3h (1,())).bind fun y10=>if !y0.1.2.2 then some (((y1.1.2,y2.1.1,y10.1),true),())else(S.a9z (y0.1.2.1,())).bind fun y11=>if !y11.1.2 then some (((false,[],[]),false),())else(S.a3h (1,())).bind fun y12=>(S.a1h (y11.1.1,y12.1,())).bind fun y13=>if decide (y13.1<=0)then some (((false,[],[]),false),())else(S.a6b (y2.1.1,y11.1.1,())).bind fun y14=>(S.a3h (1,())).bind fun y15=>(S.a1h (y14.1,y15.1,())).bind fun y16=>if y16.1 != 0 then some (((false,[],[]),false),())else some (((y1.1.2,y2.1.1,y11.1.1),true),())
def S.b6r (x:(ByteArray×Unit)):(Option ((RB×Bool)×Unit)):=if x.1.size<4294967281 then some ((rp B32 (a5x x.1.data.toList).1,(a5x x.1.data.toList).2),())else none
theorem f9m:((false,(([]:List Int),([]:List Int))),false)=(rp B32 noQ.1,noQ.2):=by
 unfold noQ rp;dsimp only;rw[a1t a0d]
theorem e6f:S.a3h (1,())=some (nd B32 1,()):=by
 unfold S.a3h;rfl
theorem f9n (neg:Bool) (c:List UInt8×List UInt8×Bool) (hok:okN c.1=true) (hn:¬(neg=true/\dv c.1=0)):
  (Option.bind (S.a3h ((1:Int),())) (fun(y10:((List Int)×Unit))=>(if((!c.2.2)=true)then(some (((neg,(nd B32 (dv c.1),y10.1)),true),()))
 else(Option.bind (S.a9z ((⟨c.2.1.toArray⟩:ByteArray),())) (fun(y11:(((List Int)×Bool)×Unit))=>(if((!y11.1.2)=true)then(some (((false,(([]:List Int),([]:List Int))),false),()))
 else(Option.bind (S.a3h ((1:Int),())) (fun(y12:((List Int)×Unit))=>(Option.bind (S.a1h (y11.1.1,(y12.1,()))) (fun(y13:(Int×Unit))=>(if((decide (y13.1<=(0:Int)))=true)then(some (((false,(([]:List Int),([]:List Int))),false),()))
 else(Option.bind (S.a6b (nd B32 (dv c.1),(y11.1.1,()))) (fun(y14:((List Int)×Unit))=>(Option.bind (S.a3h ((1:Int),())) (fun(y15:((List Int)×Unit))=>(Option.bind (S.a1h (y14.1,(y15.1,()))) (fun(y16:(Int×Unit))=>(if((y16.1 != (0:Int))=true)then(some (((false,(([]:List Int),([]:List Int))),false),()))
 else(some (((neg,(nd B32 (dv c.1),y11.1.1)),true),()))))))))))))))))))))=some ((rp B32 (a6j neg c).1,(a6j neg c).2),()):=by
 have hbody:a6j neg c=(if c.2.2=true then(if okN c.2.1=true/\1<dv c.2.1/\Nat.gcd (dv c.1) (dv c.2.1)=1 then((neg,(dv c.1,dv c.2.1)),true)else noQ)else((neg,(dv c.1,1)),true)):=if_pos ⟨hok,hn⟩;rw[e6f,Option.bind_some,f9m,hbody];obtain⟨a,b,f⟩:=c;dsimp only at*;cases f
 ·rfl
 ·rw[if_neg (by decide),if_pos rfl];unfold S.a9z;rw[Option.bind_some];dsimp only;cases hb:okN b
  ·have hx:¬((false:Bool)=true/\1<dv b/\Nat.gcd (dv a) (dv b)=1):=fun q=>by cases q.1
   rw[if_neg hx];rfl
  ·have lb:=b6k (B:=B32) (by decide) (c7q hb);have la:=b6k (B:=B32) (by decide) (c7q hok);have e1:S.a1h (nd B32 (dv b),(nd B32 1,()))=some (b0u (dv b) 1,()):=by
    unfold S.a1h;dsimp only;rw[if_pos ⟨a0j a0d _,a0j a0d _,by omega⟩,a0i a0d,a0i a0d]
   have e2:S.a6b (nd B32 (dv a),(nd B32 (dv b),()))=some (nd B32 (Nat.gcd (dv a) (dv b)),()):=by
    unfold S.a6b;dsimp only;rw[if_pos ⟨a0j a0d _,a0j a0d _,by omega,by omega⟩,a0i a0d,a0i a0d]
   show(Option.bind (S.a3h ((1:Int),())) (fun(y12:((List Int)×Unit))=>(Option.bind (S.a1h (nd B32 (dv b),(y12.1,()))) (fun(y13:(Int×Unit))=>(if((decide (y13.1<=(0:Int)))=true)then(some ((rp B32 noQ.1,noQ.2),()))
 else(Option.bind (S.a6b (nd B32 (dv a),(nd B32 (dv b),()))) (fun(y14:((List Int)×Unit))=>(Option.bind (S.a3h ((1:Int),())) (fun(y15:((List Int)×Unit))=>(Option.bind (S.a1h (y14.1,(y15.1,()))) (fun(y16:(Int×Unit))=>(if((y16.1 != (0:Int))=true)then(some ((rp B32 noQ.1,noQ.2),()))
 else(some (((neg,(nd B32 (dv a),nd B32 (dv b))),true),()))))))))))))))=_
   rw[e6f,Option.bind_some];dsimp only;rw[e1,Option.bind_some];dsimp only
   by_cases h1:1<dv b
   ·have hc:¬(b0u (dv b) 1<=0):=by
     have:=(c5w (a:=dv b) (b:=1)).2 h1;omega
    have lg:(nd B32 (Nat.gcd (dv a) (dv b))).length<=200:=Nat.le_trans (a6t a0d (Nat.le_of_dvd (by omega) (Nat.gcd_dvd_right _ _))) lb;have e3:S.a1h (nd B32 (Nat.gcd (dv a) (dv b)),(nd B32 1,()))=some (b0u (Nat.gcd (dv a) (dv b)) 1,()):=by
     unfold S.a1h;dsimp only;rw[if_pos ⟨a0j a0d _,a0j a0d _,by omega⟩,a0i a0d,a0i a0d]
    rw[if_neg (by simpa using hc),e2,Option.bind_some,Option.bind_some];dsimp only;rw[e3,Option.bind_some];dsimp only
    by_cases hg:Nat.gcd (dv a) (dv b)=1
    ·rw[if_neg (by simpa using a4z.2 hg),if_pos ⟨rfl,h1,hg⟩];rfl
    ·rw[if_pos (by simpa using fun q=>hg (a4z.1 q)),if_neg (fun q=>hg q.2.2)]
   ·have hc:b0u (dv b) 1<=0:=by
     have h2:¬(b0u (dv b) 1>0):=fun q=>h1 ((c5w (a:=dv b) (b:=1)).1 q)
     omega
    rw[if_pos (decide_eq_true hc),if_neg (fun q=>h1 q.2.1)]
theorem S.e6g (x r) (h:S.b6r x=some r):∃k,P.d3a k x=some r:=by
 obtain⟨s,u⟩:=x;unfold S.b6r at h;dsimp only at h;split at h
 case isFalse=>cases h
 rename_i hsz;refine⟨0,?_⟩;rw[<-h];unfold P.d3a;dsimp only;have e0:S.b4r (s,(bs [47],()))=some ((⟨(b0y 47 s.data.toList).1.toArray⟩,(⟨(b0y 47 s.data.toList).2.1.toArray⟩,(b0y 47 s.data.toList).2.2)),()):=by
  unfold S.b4r;dsimp only;rw[if_pos hsz,show(bs [47]).data.toList=[47]from rfl,g3h]
 have e1:∀l:List UInt8,S.a7i (⟨l.toArray⟩,(bs [45],()))=some ((⟨(if l.head? =some 45 then l.tail else l).toArray⟩,decide (l.head? =some 45)),()):=by
  intro l;unfold S.a7i Go.Lib.trimPrefix Go.Lib.hasPrefix;dsimp only;rw[show(bs [45]).data.toList=[45]from rfl];cases l with
  |nil=>rfl
  |cons b r=>
   by_cases hb:b=45
   ·subst hb;simp
   ·have hb':¬(45=b):=fun q=>hb q.symm
    have hp:([45].isPrefixOf (b::r))=false:=by
     show((45:UInt8)==b&&([]:List UInt8).isPrefixOf r)=false;rw[show((45:UInt8)==b)=false from beq_eq_false_iff_ne.2 hb',Bool.false_and]
    have hh:¬((b::r).head? =some 45):=by simpa using hb
    rw[hp,if_neg (by decide),if_neg hh,decide_eq_false hh]
 rw[e0,Option.bind_some];dsimp only;rw[e1,Option.bind_some];dsimp only;generalize s.data.toList=l at*;have hcut:∃(neg:Bool) (c:List UInt8×List UInt8×Bool),decide ((b0y 47 l).1.head? =some 45)=neg/\(if(b0y 47 l).1.head? =some 45 then(b0y 47 l).1.tail else(b0y 47 l).1)=c.1/\(b0y 47 l).2.1=c.2.1/\(b0y 47 l).2.2=c.2.2/\a5x l=a6j neg c:=by
  unfold a5x;cases l with
  |nil=>exact⟨false,b0y 47 [],rfl,rfl,rfl,rfl,rfl⟩
  |cons b r=>
   by_cases hb:b=45
   ·subst hb;have hc:b0y 47 (45::r)=(45::(b0y 47 r).1,(b0y 47 r).2.1,(b0y 47 r).2.2):=by rw[c3w,if_neg (by decide)]
    rw[hc];exact⟨true,b0y 47 r,rfl,rfl,rfl,rfl,rfl⟩
   ·have hh:¬((b0y 47 (b::r)).1.head? =some 45):=by
     rw[c3w];split
     ·simp
     ·simpa using hb
    refine⟨false,b0y 47 (b::r),decide_eq_false hh,if_neg hh,rfl,rfl,?_⟩;rw[if_neg (by simpa using hb)]
 obtain⟨neg,c,h1,h2,h3,h4,h5⟩:=hcut;rw[h1,h2,h3,h4,h5];have e2:S.a9z (⟨c.1.toArray⟩,())=some (if okN c.1=true then(nd B32 (dv c.1),true)else([],false),()):=rfl;rw[e2,Option.bind_some];cases hok:okN c.1
 ·have:a6j neg c=noQ:=by
   unfold a6j;rw[if_neg (fun q=>by rw[hok]at q;cases q.1)]
  rw[this,<-f9m];rfl
 ·rw[if_pos rfl];dsimp only;rw[if_neg (show ¬((!true)=true) by decide)];have hz:(((nd B32 (dv c.1)).length:Int)==0)=decide (dv c.1=0):=by
   have:=a9o a0d (a0j a0d (dv c.1));rw[a0i a0d]at this
   by_cases h0:dv c.1=0
   ·rw[this.2 h0,h0];rfl
   ·have hne:=fun q=>h0 (this.1 q)
    rw[decide_eq_false h0];simpa using hne
  cases neg
  ·rw[if_neg (by decide)];exact f9n false c hok (fun q=>by cases q.1)
  ·rw[if_pos rfl,hz]
   by_cases h0:dv c.1=0
   ·have:a6j true c=noQ:=by
     unfold a6j;rw[if_neg (fun q=>q.2 ⟨rfl,h0⟩)]
    rw[if_pos (decide_eq_true h0),this,<-f9m]
   ·rw[if_neg (by simpa using h0)];exact f9n true c hok (fun q=>h0 q.2)
abbrev i_rats.A:=Option ((List RB×Bool)×Unit)
abbrev P.c4y (x1:Int×Int×List ByteArray×List RB×Unit) (g2:Int×Int×List ByteArray×List RB×Unit->i_rats.A):i_rats.A:=
 if decide (x1.1<x1.2.1)then if decide (0<=x1.1)then if decide (x1.1<(x1.2.2.1.length:Int))then(S.b6r (x1.2.2.1.getD x1.1.toNat (bs []),())).bind fun y3=>if !y3.1.2 then some (([],false),())else if decide (((x1.2.2.2.1.length+(List.length [(y3.1.1.1,y3.1.1.2.1,y3.1.1.2.2)]))*56)<=140737488355328)then g2 (wrap .i64 (x1.1+1),x1.2.1,x1.2.2.1,x1.2.2.2.1++[(y3.1.1.1,y3.1.1.2.1,y3.1.1.2.2)],())else none else none else none else some ((x1.2.2.2.1,true),())
def P.f9o (k:Nat) (x:List ByteArray×Unit):i_rats.A:=
 if decide ((x.1.length:Int)>300)then some (([],false),())else loopP P.c4y k (0,(x.1.length:Int),x.1,[],())
open Classical in
def S.e6h (x:((List ByteArray)×Unit)):(Option (((List RB)×Bool)×Unit)):=if okT x.1=true then some (((a1u x.1).1.map (rp B32),(a1u x.1).2),())else none
theorem f0e (s:ByteArray) (h:s.size<=1000000):S.b6r (s,())=some ((rp B32 (a5x s.data.toList).1,(a5x s.data.toList).2),()):=by
 unfold S.b6r;exact if_pos (by dsimp only;omega)
theorem S.f9p (x r) (h:S.e6h x=some r):∃k,P.f9o k x=some r:=by
 obtain⟨ls,u⟩:=x;unfold S.e6h at h;dsimp only at h;split at h
 case isFalse=>cases h
 rename_i hc;cases h;refine⟨ls.length+1,?_⟩;unfold P.f9o a1u;dsimp only
 by_cases hl:(ls.length:Int)>300
 ·rw[if_pos (decide_eq_true hl),if_neg (show ¬(ls.length<=300/\(ls.all fun s=>(a5x s.data.toList).2)=true)from fun z=>by omega)];rfl
 rw[if_neg (by simpa using hl)];have key:=a0g (k:=ls.length+1) (b:=P.c4y) (n:=ls.length) (st:=fun i=>((i:Int),(ls.length:Int),ls,(ls.take i).map (fun s=>rp B32 (a5x s.data.toList).1),())) (F:=fun i=>some (if((ls.drop i).all fun s=>(a5x s.data.toList).2)=true then(ls.map (fun s=>rp B32 (a5x s.data.toList).1),true)else([],false),())) (fun i g hi hg=>by
  unfold P.c4y;dsimp only at hg ⊢;have e1:(i:Int)<(ls.length:Int):=by omega
  have e2:(0:Int)<=(i:Int):=by omega
  simp only[e1,e2,decide_true,if_true];rw[a0m ls i _ hi,f0e _ (f7p hc hi),Option.bind_some,List.drop_eq_getElem_cons hi,List.all_cons];dsimp only;cases hf:(a5x ls[i].data.toList).2
  ·rw[if_pos (by rfl),if_neg (by simp)]
  ·rw[if_neg (by simp),wr (by omega) (by omega),Bool.true_and,<-hg];have e3:((List.map (fun s:ByteArray=>rp B32 (a5x s.data.toList).1) (ls.take i)).length+1)*56<=140737488355328:=by
    rw[List.length_map,List.length_take];omega
   simp only[List.length_cons,List.length_nil,Nat.zero_add];rw[if_pos (decide_eq_true e3),List.take_add_one,List.getElem?_eq_getElem hi,Option.toList_some,List.map_append];rfl) (fun g=>by
  unfold P.c4y;dsimp only;rw[if_neg (by simp),List.take_length,List.drop_length];rfl) (by omega)
 refine key.trans ?_;rw[List.drop_zero]
 by_cases ha:(ls.all fun s=>(a5x s.data.toList).2)=true
 ·rw[if_pos ha,if_pos (show ls.length<=300/\(ls.all fun s=>(a5x s.data.toList).2)=true from⟨by omega,ha⟩),List.map_map];rfl
 ·rw[if_neg ha,if_neg (fun z=>ha z.2)];rfl
abbrev P.c9n (x2:Int×Int×List RB×RB×RB×Unit) (g3:Int×Int×List RB×RB×RB×Unit->Option (RB×Unit)):Option (RB×Unit):=
 if decide (x2.1<x2.2.1)then if decide (0<=x2.1)then if decide (x2.1<(x2.2.2.1.length:Int))then(S.a1c ((x2.2.2.2.1.1,x2.2.2.2.1.2.1,x2.2.2.2.1.2.2),((x2.2.2.1.getD x2.1.toNat (false,[],[])).1,(x2.2.2.1.getD x2.1.toNat (false,[],[])).2.1,(x2.2.2.1.getD x2.1.toNat (false,[],[])).2.2),())).bind fun y4=>g3 (wrap .i64 (x2.1+1),x2.2.1,x2.2.2.1,(y4.1.1,y4.1.2.1,y4.1.2.2),(x2.2.2.2.2.1.1,x2.2.2.2.2.1.2.1,x2.2.2.2.2.1.2.2),())else none else none else some ((x2.2.2.2.1.1,x2.2.2.2.1.2.1,x2.2.2.2.1.2.2),())
def P.i_sum (k:Nat) (x:List RB×Unit):Option (RB×Unit):=
 (S.a3o (0,())).bind fun y0=>loopP P.c9n k (0,(x.1.length:Int),x.1,(y0.1.1,y0.1.2.1,y0.1.2.2),(false,[],[]),())
open Classical in
def S.f4z (x:((List RB)×Unit)):(Option (RB×Unit)):=if g3p B32 x.1 then some (rp B32 (a5y (x.1.map (rv B32))),())else none
theorem f9q (a b:Q3) (ha:c1l B32 40000000 (rp B32 a)=true) (hb:c1l B32 40000000 (rp B32 b)=true):S.a1c (rp B32 a,(rp B32 b,()))=some (rp B32 (a9p a b),()):=by
 unfold S.a1c;dsimp only;rw[if_pos ⟨ha,hb⟩,a2p a0d,a2p a0d]
theorem S.g4t (x r) (h:S.f4z x=some r):∃k,P.i_sum k x=some r:=by
 obtain⟨xs,u⟩:=x;unfold S.f4z at h;dsimp only at h;split at h
 case isFalse=>cases h
 rename_i hc;obtain⟨qs,rfl,hlen,hq,hg⟩:=hc;cases h;refine⟨qs.length+1,?_⟩;unfold P.i_sum;have hz:S.a3o (0,())=some (rp B32 a2c,()):=by rfl
 dsimp only;rw[hz,Option.bind_some,a5b a0d,List.length_map];have key:=a0g (k:=qs.length+1) (b:=P.c9n) (n:=qs.length) (st:=fun i=>((i:Int),(qs.length:Int),qs.map (rp B32),rp B32 (a5y (qs.take i)),(false,(([]:List Int),([]:List Int))),())) (F:=fun i=>some (rp B32 (a5y qs),())) (fun i g hi hg'=>by
  unfold P.c9n;dsimp only at hg' ⊢;have e1:(i:Int)<(qs.length:Int):=by omega
  have e2:(0:Int)<=(i:Int):=by omega
  have e3:(i:Int)<((qs.map (rp B32)).length:Int):=by rw[List.length_map];omega
  rw[if_pos (decide_eq_true e1),if_pos (decide_eq_true e2),if_pos (decide_eq_true e3),a0m (qs.map (rp B32)) i _ (by rw[List.length_map];exact hi),List.getElem_map];have ea:=f9q (a5y (qs.take i)) qs[i] (a2t (by decide) (hg i).1 (hg i).2 (by decide)) (a2t (by decide) (hq _ (List.getElem_mem hi)).1 (hq _ (List.getElem_mem hi)).2 (by decide));rw[b9v hi]at ea;show Option.bind (S.a1c (rp B32 (a5y (qs.take i)),(rp B32 qs[i],()))) _=_;rw[ea,Option.bind_some,wr (by omega) (by omega)];exact hg') (fun g=>by
  unfold P.c9n;dsimp only;rw[if_neg (by simp),List.take_length]) (by omega)
 exact key
def P.d3b (k:Nat) (x:RB×Unit):Option (Bool×Unit):=
 (S.a0r ((x.1.1,x.1.2.1,x.1.2.2),())).bind fun y0=>some (decide (y0.1<0),())
def S.b4s (x:(RB×Unit)):(Option (Bool×Unit)):=if c1l B32 40000000 x.1=true then some (x.1.1,())else none
theorem S.e6i (x r) (h:S.b4s x=some r):∃k,P.d3b k x=some r:=by
 obtain⟨x,u⟩:=x;unfold S.b4s at h;dsimp only at h;split at h
 case isFalse=>cases h
 rename_i hc;obtain⟨hr,hl⟩:=a5p.1 hc;obtain⟨n,p,q,rfl,l1,l2⟩:=a9q hr;rw[b7t a0d]at hl;cases h;refine⟨0,?_⟩;unfold P.d3b S.a0r;dsimp only;rw[if_pos (a0j a0d _),a0i a0d,Option.bind_some];dsimp only;have h2:=hl.2.1;dsimp only at h2;unfold d4s;cases n
 ·by_cases hp:p=0
  ·rw[if_pos hp];rfl
  ·rw[if_neg hp];rfl
 ·rw[if_neg (h2 rfl)];rfl
abbrev P.a1y (x1:Int×Int×Unit×List RB×Unit) (g2:Int×Int×Unit×List RB×Unit->Option (Int×Unit)):Option (Int×Unit):=
 if decide (x1.1<x1.2.1)then if decide (0<=x1.1)then if decide (x1.1<(x1.2.2.2.1.length:Int))then(S.b4s (((x1.2.2.2.1.getD x1.1.toNat (false,[],[])).1,(x1.2.2.2.1.getD x1.1.toNat (false,[],[])).2.1,(x1.2.2.2.1.getD x1.1.toNat (false,[],[])).2.2),())).bind fun y3=>if y3.1 then some (x1.1,())else g2 (wrap .i64 (x1.1+1),x1.2.1,(),x1.2.2.2.1,())else none else none else some ((-1:Int),())
def P.a3p (k:Nat) (x:List RB×Unit×Unit):Option (Int×Unit):=
 loopP P.a1y k (0,(x.1.length:Int),(),x.1,())
open Classical in
def S.a1q (x:((List RB)×(Unit×Unit))):(Option (Int×Unit)):=if e8m B32 x.1 then some (ixM x.1,())else none
theorem S.b0p (x r) (h:S.a1q x=some r):∃k,P.a3p k x=some r:=by
 obtain⟨xs,u,u'⟩:=x;unfold S.a1q at h;dsimp only at h;split at h
 case isFalse=>cases h
 rename_i hc;obtain⟨qs,n,rfl,hg⟩:=hc;cases h;have hlen:=c9h hg;refine⟨qs.length+1,?_⟩;unfold P.a3p;dsimp only;have hm:∀i (hi:i<qs.length),S.b4s (rp B32 qs[i],())=some (qs[i].1,()):=by
  intro i hi;unfold S.b4s;dsimp only;rw[if_pos (f1q (by decide) hg hi)];rfl
 have key:=a0g (k:=qs.length+1) (b:=P.a1y) (n:=qs.length) (st:=fun i=>((i:Int),(qs.length:Int),(),qs.map (rp B32),())) (F:=fun i=>some (if ixM ((qs.drop i).map (rp B32))<0 then -1 else ixM ((qs.drop i).map (rp B32))+i,())) (fun i g hi hg'=>by
  unfold P.a1y;dsimp only at hg' ⊢;have e1:(i:Int)<(qs.length:Int):=by omega
  have e2:(0:Int)<=(i:Int):=by omega
  have e3:(i:Int)<((qs.map (rp B32)).length:Int):=by rw[List.length_map];omega
  rw[if_pos (decide_eq_true e1),if_pos (decide_eq_true e2),if_pos (decide_eq_true e3),a0m (qs.map (rp B32)) i _ (by rw[List.length_map];exact hi),List.getElem_map];show Option.bind (S.b4s (rp B32 qs[i],())) _=_;rw[hm i hi,Option.bind_some,List.drop_eq_getElem_cons hi,List.map_cons,d8x];dsimp only;rw[show(rp B32 qs[i]).1=qs[i].1 from rfl];cases hf:qs[i].1
  ·simp only[Bool.false_eq_true,if_false];rw[wr (by omega) (by omega)];refine hg'.trans ?_;congr 2;split
   ·rfl
   ·rw[if_neg (by omega)];omega
  ·simp) (fun g=>by
  unfold P.a1y;dsimp only;rw[if_neg (by simp),List.drop_length];rfl) (by omega)
 rw[List.length_map];refine key.trans ?_;rw[List.drop_zero];congr 2;have hr: -1<=ixM (qs.map (rp B32)):=by
  generalize qs.map (rp B32)=zs
  induction zs with
  |nil=>decide
  |cons z zs ih=>
   rw[d8x];split
   ·omega
   ·split<;>omega
 split<;>omega
def P.a2x (k:Nat) (x:List RB×Unit×Unit):Option (Bool×Unit):=
 (S.a1q (x.1,(),())).bind fun y0=>some (decide (y0.1>=0),())
open Classical in
def S.a0t (x:((List RB)×(Unit×Unit))):(Option (Bool×Unit)):=if e8m B32 x.1 then some (x.1.any fun r=>r.1,())else none
theorem S.a8s (x r) (h:S.a0t x=some r):∃k,P.a2x k x=some r:=by
 obtain⟨xs,u,u'⟩:=x;unfold S.a0t at h;dsimp only at h;split at h
 case isFalse=>cases h
 rename_i hc;cases h;refine⟨0,?_⟩;unfold P.a2x S.a1q;dsimp only;rw[if_pos hc,Option.bind_some,<-ixM_any]
def P.d3c (k:Nat) (x:RB×Unit):Option (Bool×Unit):=
 (S.a0r ((x.1.1,x.1.2.1,x.1.2.2),())).bind fun y0=>some (decide (y0.1<=0),())
def S.b4t (x:(RB×Unit)):(Option (Bool×Unit)):=if rok B32 40000000 x.1=true then some (!e7i (rv B32 x.1),())else none
theorem S.e6j (x r) (h:S.b4t x=some r):∃k,P.d3c k x=some r:=by
 obtain⟨y,u⟩:=x;unfold S.b4t at h;dsimp only at h;split at h
 case isFalse=>cases h
 rename_i hc;cases h;obtain⟨n,p,q,rfl,_,_⟩:=a9q hc;refine⟨0,?_⟩;unfold P.d3c;dsimp only;have hs:S.a0r ((n,(nd B32 p,nd B32 q)),())=some (d4s n p,()):=by
  unfold S.a0r;dsimp only;rw[if_pos (a0j a0d _),a0i a0d]
 rw[hs,Option.bind_some,b7t a0d];dsimp only;rw[<-f7t]
abbrev P.a1w (x1:Int×Int×Unit×List RB×Unit) (g2:Int×Int×Unit×List RB×Unit->Option (Int×Unit)):Option (Int×Unit):=
 if decide (x1.1<x1.2.1)then if decide (0<=x1.1)then if decide (x1.1<(x1.2.2.2.1.length:Int))then(S.b4t (((x1.2.2.2.1.getD x1.1.toNat (false,[],[])).1,(x1.2.2.2.1.getD x1.1.toNat (false,[],[])).2.1,(x1.2.2.2.1.getD x1.1.toNat (false,[],[])).2.2),())).bind fun y3=>if y3.1 then some (x1.1,())else g2 (wrap .i64 (x1.1+1),x1.2.1,(),x1.2.2.2.1,())else none else none else some ((-1:Int),())
def P.a3i (k:Nat) (x:List RB×Unit×Unit):Option (Int×Unit):=
 loopP P.a1w k (0,(x.1.length:Int),(),x.1,())
open Classical in
def S.a1i (x:((List RB)×(Unit×Unit))):(Option (Int×Unit)):=if e8m B32 x.1 then some (ixF (fun r=> !e7i r) (x.1.map (rv B32)),())else none
theorem S.b0a (x r) (h:S.a1i x=some r):∃k,P.a3i k x=some r:=by
 obtain⟨xs,u,u'⟩:=x;unfold S.a1i at h;dsimp only at h;split at h
 case isFalse=>cases h
 rename_i hc;cases h;obtain⟨qs,n,rfl,hg⟩:=hc;have hlen:=c9h hg;refine⟨qs.length+1,?_⟩;unfold P.a3i;dsimp only;have hm:∀i (hi:i<qs.length),S.b4t (rp B32 qs[i],())=some (!e7i qs[i],()):=by
  intro i hi;unfold S.b4t;dsimp only;rw[if_pos (a5p.1 (f1q (by decide) hg hi)).1,a2p a0d]
 have key:=a0g (k:=qs.length+1) (b:=P.a1w) (n:=qs.length) (st:=fun i=>((i:Int),(qs.length:Int),(),qs.map (rp B32),())) (F:=fun i=>some (if ixF (fun r=> !e7i r) (qs.drop i)<0 then -1 else ixF (fun r=> !e7i r) (qs.drop i)+i,())) (fun i g hi hg'=>by
  unfold P.a1w;dsimp only at hg' ⊢;have e1:(i:Int)<(qs.length:Int):=by omega
  have e2:(0:Int)<=(i:Int):=by omega
  have e3:(i:Int)<((qs.map (rp B32)).length:Int):=by rw[List.length_map];omega
  rw[if_pos (decide_eq_true e1),if_pos (decide_eq_true e2),if_pos (decide_eq_true e3),a0m (qs.map (rp B32)) i _ (by rw[List.length_map];exact hi),List.getElem_map];show Option.bind (S.b4t (rp B32 qs[i],())) _=_;rw[hm i hi,Option.bind_some,List.drop_eq_getElem_cons hi,d8z];dsimp only;cases hf: !e7i qs[i]
  ·simp only[Bool.false_eq_true,if_false];rw[wr (by omega) (by omega)];refine hg'.trans ?_;congr 2;have:=ixF_ge (fun r=> !e7i r) (qs.drop (i+1));split
   ·rfl
   ·rw[if_neg (by omega)];omega
  ·simp) (fun g=>by
  unfold P.a1w;dsimp only;rw[if_neg (by simp),List.drop_length];rfl) (by omega)
 rw[List.length_map,a5b a0d];refine key.trans ?_;rw[List.drop_zero];congr 2;have hr:=ixF_ge (fun r=> !e7i r) qs;split<;>omega
def P.a2v (k:Nat) (x:List RB×Unit×Unit):Option (Bool×Unit):=
 (S.a1i (x.1,(),())).bind fun y0=>some (decide (y0.1>=0),())
open Classical in
def S.a2w (x:((List RB)×(Unit×Unit))):(Option (Bool×Unit)):=if e8m B32 x.1 then some (!f7s (x.1.map (rv B32)),())else none
theorem S.a8f (x r) (h:S.a2w x=some r):∃k,P.a2v k x=some r:=by
 obtain⟨xs,u,u'⟩:=x;unfold S.a2w at h;dsimp only at h;split at h
 case isFalse=>cases h
 rename_i hc;cases h;refine⟨0,?_⟩;unfold P.a2v S.a1i;dsimp only;rw[if_pos hc,Option.bind_some,<-f3r,<-ixF_any]
def P.c2z (k:Nat) (x:List ByteArray×Unit):Option ((List RB×Bool)×Unit):=
 (S.e6h (x.1,())).bind fun y0=>if !y0.1.2 then some (([],false),())else(S.a0t (y0.1.1,(),())).bind fun y1=>if y1.1 then some (([],false),())else(S.f4z (y0.1.1,())).bind fun y2=>(S.a8r ((y2.1.1,y2.1.2.1,y2.1.2.2),())).bind fun y3=>if !y3.1 then some (([],false),())else some ((y0.1.1,true),())
def S.a5u (x:((List ByteArray)×Unit)):(Option (((List RB)×Bool)×Unit)):=if okT x.1=true then some (((b5z x.1).1.map (rp B32),(b5z x.1).2),())else none
theorem S.d5x (x r) (h:S.a5u x=some r):∃k,P.c2z k x=some r:=by
 obtain⟨ls,u⟩:=x;unfold S.a5u at h;dsimp only at h;split at h
 case isFalse=>cases h
 rename_i hc;cases h;refine⟨0,?_⟩;unfold P.c2z S.e6h;dsimp only;rw[if_pos hc,Option.bind_some];dsimp only;unfold b5z;have hg:=d6x (ls:=ls);have hL:=c2i (B:=B32) (ls:=ls);cases hf:(a1u ls).2
 ·rfl
 have hg':=hg hf;have hL':=hL hf;rw[if_neg (by decide)];have ea:S.a0t ((a1u ls).1.map (rp B32),(),())=some ((a1u ls).1.any fun r=>r.1,()):=by
  unfold S.a0t;dsimp only;rw[if_pos hL',any_rp]
 have es:S.f4z ((a1u ls).1.map (rp B32),())=some (rp B32 (a5y (a1u ls).1),()):=by
  unfold S.f4z;dsimp only;rw[if_pos (f7z hL'),a5b a0d]
 have eo:S.a8r (rp B32 (a5y (a1u ls).1),())=some (c4a (a5y (a1u ls).1),()):=by
  unfold S.a8r;dsimp only;rw[a2p a0d,if_pos ⟨f1s (by decide) hg',low_qok (f1r hg').1⟩]
 rw[ea,Option.bind_some];dsimp only;unfold isW;cases hm:((a1u ls).1.any fun r=>r.1)
 ·rw[if_neg (by decide),es,Option.bind_some];show Option.bind (S.a8r (rp B32 (a5y (a1u ls).1),())) _=_;rw[eo,Option.bind_some];cases ho:c4a (a5y (a1u ls).1)
  ·rfl
  ·simp [hf]
 ·rfl
abbrev i_chainOf.A:=Int×Int×List (List ByteArray)×List (List ByteArray)×List (List RB)×Unit
abbrev i_chainOf.B:=Option ((List (List RB)×Bool)×Unit)
abbrev P.b5s (x1:i_chainOf.A) (g2:i_chainOf.A->i_chainOf.B):i_chainOf.B:=
 if decide (x1.1<x1.2.1)then if decide (0<=x1.1)then if decide (x1.1<(x1.2.2.1.length:Int))then(S.a5u (x1.2.2.1.getD x1.1.toNat [],())).bind fun y3=>if !y3.1.2 then some (([],false),())else if(y3.1.1.length:Int) != (x1.2.2.2.1.length:Int)then some (([],false),())else if decide (((x1.2.2.2.2.1.length+(List.length [y3.1.1]))*24)<=140737488355328)then g2 (wrap .i64 (x1.1+1),x1.2.1,x1.2.2.1,x1.2.2.2.1,x1.2.2.2.2.1++[y3.1.1],())else none else none else none else some ((x1.2.2.2.2.1,true),())
def P.d3d (k:Nat) (x:List (List ByteArray)×Unit):i_chainOf.B:=
 if decide ((x.1.length:Int)<1)then some (([],false),())else if decide ((x.1.length:Int)>12)then some (([],false),())else loopP P.b5s k (0,(x.1.length:Int),x.1,x.1,[],())
def S.b6s (x:((List (List ByteArray))×Unit)):(Option (((List (List RB))×Bool)×Unit)):=if x.1.all okT=true then some (((chQ x.1).1.map (fun r=>r.map (rp B32)),(chQ x.1).2),())else none
theorem S.e6k (x r) (h:S.b6s x=some r):∃k,P.d3d k x=some r:=by
 obtain⟨rows,u⟩:=x;unfold S.b6s at h;dsimp only at h;split at h
 case isFalse=>cases h
 rename_i hc;cases h;refine⟨rows.length+1,?_⟩;unfold P.d3d chQ;dsimp only
 by_cases h1:1<=rows.length
 case neg=>
  rw[if_pos (decide_eq_true (show(rows.length:Int)<1 by omega)),decide_eq_false h1];rfl
 rw[if_neg (by simpa using(show ¬(rows.length:Int)<1 by omega)),decide_eq_true h1]
 by_cases h2:rows.length<=12
 case neg=>
  rw[if_pos (decide_eq_true (show(rows.length:Int)>12 by omega)),decide_eq_false h2];rfl
 rw[if_neg (by simpa using(show ¬(rows.length:Int)>12 by omega)),decide_eq_true h2];simp only[Bool.true_and];have key:=a0g (k:=rows.length+1) (b:=P.b5s) (n:=rows.length) (st:=fun i=>((i:Int),(rows.length:Int),rows,rows,(rows.take i).map (fun r=>(a1u r).1.map (rp B32)),())) (F:=fun i=>some (if((rows.drop i).all fun r=>decide (r.length=rows.length)&&(b5z r).2)=true then(rows.map (fun r=>(a1u r).1.map (rp B32)),true)else([],false),())) (fun i g hi hg'=>by
  have e1:(i:Int)<(rows.length:Int):=by omega
  have e2:(0:Int)<=(i:Int):=by omega
  have hr:okT rows[i]=true:=List.all_eq_true.1 hc _ (List.getElem_mem hi);have e4:(((rows.take i).map (fun r=>(a1u r).1.map (rp B32))).length+1)*24<=140737488355328:=by
   rw[List.length_map,List.length_take];omega
  unfold P.b5s;dsimp only at hg' ⊢;simp only[e1,e2,decide_true,if_true];rw[a0m rows i _ hi,List.drop_eq_getElem_cons hi,List.all_cons];have ew:S.a5u (rows[i],())=some (((b5z rows[i]).1.map (rp B32),(b5z rows[i]).2),()):=by
   unfold S.a5u;exact if_pos hr
  rw[ew,Option.bind_some];dsimp only;cases hw:(b5z rows[i]).2
  ·rw[if_pos (by decide),Bool.and_false,Bool.false_and,if_neg (by decide)]
  obtain⟨w1,w2,w3⟩:=d8y hw;have w4:=(b7s w1).1;rw[if_neg (by decide),w3,List.length_map,w4,Bool.and_true]
  by_cases hl:rows[i].length=rows.length
  case neg=>
   rw[if_pos (by simp;omega),decide_eq_false hl,Bool.false_and,if_neg (by decide)]
  rw[if_neg (by simp;omega),decide_eq_true hl,Bool.true_and];simp only[List.length_cons,List.length_nil,Nat.zero_add];rw[if_pos (decide_eq_true e4),wr (by omega) (by omega),<-hg',List.take_add_one,List.getElem?_eq_getElem hi,Option.toList_some,List.map_append];rfl) (fun g=>by
  unfold P.b5s;dsimp only;rw[if_neg (by simp),List.take_length,List.drop_length];rfl) (by omega)
 rw[List.drop_zero]at key;refine Eq.trans key ?_
 by_cases ha:(rows.all fun r=>decide (r.length=rows.length)&&(b5z r).2)=true
 ·rw[if_pos ha,if_pos ha,List.map_map];rfl
 ·rw[if_neg ha,if_neg ha];rfl
def P.a7j (k:Nat) (x:List (List ByteArray)×List ByteArray×Unit):Option ((List (List RB)×List RB×Bool)×Unit):=
 (S.b6s (x.1,())).bind fun y0=>(S.a5u (x.2.1,())).bind fun y1=>if y0.1.2 then if y1.1.2 then some ((y0.1.1,y1.1.1,(y1.1.1.length:Int)==(y0.1.1.length:Int)),())else some ((y0.1.1,y1.1.1,false),())else some ((y0.1.1,y1.1.1,false),())
def S.a7k (x:((List (List ByteArray))×((List ByteArray)×Unit))):(Option (((List (List RB))×((List RB)×Bool))×Unit)):=P.a7j 0 x
theorem S.c1q (x r) (h:S.a7k x=some r):∃k,P.a7j k x=some r:=⟨0,h⟩
abbrev P.c1c (x1:Int×Int×List Bool×List Int×Unit) (g2:Int×Int×List Bool×List Int×Unit->Option (List Int×Unit)):Option (List Int×Unit):=
 (fun(a b:Int) (c:List Bool) (d:List Int)=>if decide (a<b)then if decide (0<=a)then if decide (a<(c.length:Int))then if c.getD a.toNat false then if decide (((d.length+(List.length [a]))*8)<=140737488355328)then g2 (wrap .i64 (a+1),b,c,d++[a],())else none else g2 (wrap .i64 (a+1),b,c,d,())else none else none else some (d,())) x1.1 x1.2.1 x1.2.2.1 x1.2.2.2.1
def P.f0f (k:Nat) (x:List Bool×Unit):Option (List Int×Unit):=
 loopP P.c1c k (0,(x.1.length:Int),x.1,[],())
def S.c6x (x:((List Bool)×Unit)):(Option ((List Int)×Unit)):=if x.1.length<=1000000 then some (a5w 0 x.1,())else none
theorem S.f5a (x r) (h:S.c6x x=some r):∃k,P.f0f k x=some r:=by
 obtain⟨sn,u⟩:=x;unfold S.c6x at h;dsimp only at h;split at h
 case isFalse=>cases h
 rename_i hc;cases h;refine⟨sn.length+1,?_⟩;unfold P.f0f;dsimp only;have key:=a0g (k:=sn.length+1) (b:=P.c1c) (n:=sn.length) (st:=fun i=>((i:Int),(sn.length:Int),sn,a5w 0 (sn.take i),())) (F:=fun i=>some (a5w 0 sn,())) (fun i g hi hg=>by
  unfold P.c1c;dsimp only at hg ⊢;have e1:(i:Int)<(sn.length:Int):=by omega
  have e2:(0:Int)<=(i:Int):=by omega
  have e3:=c4f 0 (sn.take i);rw[List.length_take]at e3;have e4:((a5w 0 (sn.take i)).length+1)*8<=140737488355328:=by omega
  simp only[e1,e2,decide_true,if_true,List.length_cons,List.length_nil,Nat.zero_add,e4];rw[a0m sn i _ hi,wr (by omega) (by omega)];rw[<-List.take_append_getElem hi,c4g]at hg;cases hb:sn[i]
  ·rw[hb,if_neg (by decide),List.append_nil]at hg;rw[if_neg (by decide)];exact hg
  ·rw[hb,if_pos rfl]at hg;rw[if_pos rfl,<-hg];congr 1;simp;omega) (fun g=>by
  unfold P.c1c;dsimp only;rw[if_neg (by simp),List.take_length]) (by omega)
 exact key
abbrev P.a2h (x2:(Int×((List Int)×Unit))) (g3:(Int×((List Int)×Unit))->Option ((List Int)×Unit)):Option ((List Int)×Unit):=
 (if((decide (x2.1<((List.length x2.2.1):Int)))=true)then(if((decide ((0:Int)<=((List.length x2.2.1):Int)))=true)then(if((decide ((((List.length x2.2.1):Int)+(0:Int))<=((List.length x2.2.1):Int)))=true)then(if((decide ((0:Int)<=x2.1))=true)then(if((decide (x2.1<=((List.length x2.2.1):Int)))=true)then(if((decide ((0:Int)<=x2.1))=true)then(if((decide ((x2.1+(0:Int))<=((List.length x2.2.1):Int)))=true)then(if((decide ((0:Int)<=x2.1))=true)then(g3 ((IntKind.wrap .i64 (x2.1+(((Min.min (List.length (seen x2.2.1 (0:Nat) ((Int.toNat x2.1) - (0:Nat)))) ((Int.toNat ((List.length x2.2.1):Int)) - (Int.toNat x2.1))):Nat):Int))),((splice x2.2.1 (List.take ((Int.toNat ((List.length x2.2.1):Int)) - (Int.toNat x2.1)) (seen x2.2.1 (0:Nat) ((Int.toNat x2.1) - (0:Nat)))) ((0:Nat)+(Int.toNat x2.1))),())))
 else none)
 else none)
 else none)
 else none)
 else none)
 else none)
 else none)
 else(some (x2.2.1,())))
def P.a4k (k:Nat) (x:((List Int)×(Int×Unit))):(Option ((List Int)×Unit)):=
 (if((decide (x.2.1<(0:Int)))=true)then none
 else(Option.bind (S.a3e ((IntKind.wrap .u64 ((List.length x.1):Int)),((IntKind.wrap .u64 x.2.1),()))) (fun(y0:((Int×Int)×Unit))=>(if((decide (y0.1.1>(0:Int)))=true)then none
 else(if((decide (y0.1.2>(9223372036854775807:Int)))=true)then none
 else(if((decide ((0:Int)<=(IntKind.wrap .i64 y0.1.2)))=true)then(if((decide ((IntKind.wrap .i64 y0.1.2)<=(IntKind.wrap .i64 y0.1.2)))=true)then(if((decide (((IntKind.wrap .i64 y0.1.2)*(8:Int))<=(281474976710656:Int)))=true)then(loopP (X:=(Int×((List Int)×Unit))) (R:=((List Int)×Unit)) (P.a2h) k ((((Min.min (List.length x.1) (List.length (List.replicate (Int.toNat (IntKind.wrap .i64 y0.1.2)) (0:Int)))):Nat):Int),((splice (List.replicate (Int.toNat (IntKind.wrap .i64 y0.1.2)) (0:Int)) (List.take (List.length (List.replicate (Int.toNat (IntKind.wrap .i64 y0.1.2)) (0:Int))) x.1) (0:Nat)),())))
 else none)
 else none)
 else none))))))
def PP.a6y (k:Nat) (x:((List Int)×(Int×Unit))):(Option ((List Int)×Unit)):=
 (Decidable.rec (motive:=fun _=>(Option ((List Int)×Unit))) (fun _=>(Option.bind (S.a3e ((IntKind.wrap .u64 ((List.length x.1):Int)),((IntKind.wrap .u64 x.2.1),()))) (fun(y0:((Int×Int)×Unit))=>(Decidable.rec (motive:=fun _=>(Option ((List Int)×Unit))) (fun _=>(Decidable.rec (motive:=fun _=>(Option ((List Int)×Unit))) (fun _=>(Decidable.rec (motive:=fun _=>(Option ((List Int)×Unit))) (fun _=>none) (fun _=>(Decidable.rec (motive:=fun _=>(Option ((List Int)×Unit))) (fun _=>none) (fun _=>(Decidable.rec (motive:=fun _=>(Option ((List Int)×Unit))) (fun _=>none) (fun _=>(loopP (X:=(Int×((List Int)×Unit))) (R:=((List Int)×Unit)) (P.a2h) k ((((Min.min (List.length x.1) (List.length (List.replicate (Int.toNat (IntKind.wrap .i64 y0.1.2)) (0:Int)))):Nat):Int),((splice (List.replicate (Int.toNat (IntKind.wrap .i64 y0.1.2)) (0:Int)) (List.take (List.length (List.replicate (Int.toNat (IntKind.wrap .i64 y0.1.2)) (0:Int))) x.1) (0:Nat)),())))) (instDecidableEqBool (decide (((IntKind.wrap .i64 y0.1.2)*(8:Int))<=(281474976710656:Int))) true))) (instDecidableEqBool (decide ((IntKind.wrap .i64 y0.1.2)<=(IntKind.wrap .i64 y0.1.2))) true))) (instDecidableEqBool (decide ((0:Int)<=(IntKind.wrap .i64 y0.1.2))) true))) (fun _=>none) (instDecidableEqBool (decide (y0.1.2>(9223372036854775807:Int))) true))) (fun _=>none) (instDecidableEqBool (decide (y0.1.1>(0:Int))) true))))) (fun _=>none) (instDecidableEqBool (decide (x.2.1<(0:Int))) true))
theorem PP.b2i (k:Nat) (x:((List Int)×(Int×Unit))):PP.a6y k x=P.a4k k x:=rfl
theorem e0n:∀n:Fin 21,S.a3e (1,((n.val:Int),()))=some ((0,(n.val:Int)),()):=by decide
def S.a1k (x:((List Int)×(Int×Unit))):(Option ((List Int)×Unit)):=if x.1.length=1/\0<=x.2.1/\x.2.1<=20 then some (List.replicate x.2.1.toNat (x.1.getD 0 0),())else none
theorem S.b2y (x r) (h:S.a1k x=some r):∃k,P.a4k k x=some r:=by
 obtain⟨xs,m,u⟩:=x;unfold S.a1k at h;dsimp only at h;split at h
 case isFalse=>cases h
 rename_i hc;cases h;obtain⟨hx,h1,h2⟩:=hc;obtain⟨a,rfl⟩:∃a,xs=[a]:=by
  match xs,hx with
  | [a],_=>exact⟨a,rfl⟩
 obtain⟨M,rfl⟩:∃M:Nat,m=(M:Int):=⟨m.toNat,by omega⟩
 rw[Int.toNat_natCast];refine⟨M+2,?_⟩;unfold P.a4k;dsimp only;have hmul:=e0n ⟨M,by omega⟩;dsimp only at hmul;have e0:IntKind.wrap .u64 (M:Int)=(M:Int):=IntWalk.u64_in _ (by omega);rw[if_neg (by simp),e0];show Option.bind (S.a3e (1,((M:Int),()))) _=_;rw[hmul,Option.bind_some];dsimp only;rw[if_neg (show ¬((decide ((0:Int)>0))=true) by simp),if_neg (by simpa using(show ¬(M:Int)>9223372036854775807 by omega)),wr (by omega) (by omega),if_pos (decide_eq_true (show(0:Int)<=(M:Int) by omega)),if_pos (by simp),if_pos (decide_eq_true (show(M:Int)*8<=281474976710656 by omega)),Int.toNat_natCast];simp only[List.length_replicate,List.length_cons,List.length_nil,Nat.zero_add];have key:∀(d j k:Nat),j+d=M->1<=j->d<k->loopP P.a2h k ((j:Int),List.replicate j a++List.replicate d (0:Int),())=some (List.replicate M a,()):=by
  intro d
  induction d using Nat.strongRecOn with
  |ind d ih=>
   intro j k hj h1 hk;cases k with
   |zero=>omega
   |succ k=>
    rw[a0k];unfold P.a2h;have hlen:(List.replicate j a++List.replicate d (0:Int)).length=M:=by simp;omega
    dsimp only;rw[hlen]
    by_cases hd:d=0
    ·subst hd;rw[if_neg (by simpa using(show ¬(j:Int)<(M:Int) by omega))];rw[show j=M by omega];simp
    ·have c1:(j:Int)<(M:Int):=by omega
     have c2:(0:Int)<=(M:Int):=by omega
     have c3:(M:Int)+0<=(M:Int):=by omega
     have c4:(0:Int)<=(j:Int):=by omega
     have c5:(j:Int)<=(M:Int):=by omega
     have c6:(j:Int)+0<=(M:Int):=by omega
     simp only[c1,c2,c3,c4,c5,c6,decide_true,if_true];have hs:seen (List.replicate j a++List.replicate d (0:Int)) 0 ((j:Int).toNat - 0)=List.replicate j a:=by
      unfold seen;rw[Int.toNat_natCast,Nat.sub_zero,List.drop_zero,List.take_left' (by simp)]
     rw[hs,List.length_replicate,Int.toNat_natCast,Int.toNat_natCast];have hsp:splice (List.replicate j a++List.replicate d (0:Int)) (List.take (M - j) (List.replicate j a)) (0+j)=List.replicate (j+min j d) a++List.replicate (d - min j d) (0:Int):=by
      unfold splice;rw[Nat.zero_add,List.take_left' (by simp),List.take_replicate,List.length_replicate,show M - j=d by omega,List.drop_append];simp only[List.length_replicate];rw[List.drop_of_length_le (by simp),List.nil_append,List.drop_replicate,<-List.replicate_append_replicate,show j+min d j - j=min d j by omega,Nat.min_comm d j]
     rw[hsp,show M - j=d by omega,wr (by omega) (by omega)];have:=ih (d - min j d) (by omega) (j+min j d) k (by omega) (by omega) (by omega);rw[<-this];congr 2
 match M,h2 with
 |0,_=>
  rfl
 |M+1,h2=>
  have:=key M 1 (M+1+2) (by omega) (by omega) (by omega);have a1:min 1 (M+1)=1:=by omega
  have a2:splice (List.replicate (M+1) (0:Int)) (List.take (M+1) [a]) 0=List.replicate 1 a++List.replicate M (0:Int):=by
   unfold splice;simp [List.replicate_succ]
  rw[a1,a2];exact this
abbrev i_reach.A:=Int×Int×List RB×List Bool×List Int×List (List RB)×Unit
abbrev i_reach.B:=List Int×List (List RB)×List Bool×Unit
abbrev i_reach.C:=Option (List Bool×Unit)
abbrev P.b6t (g2:i_reach.B->i_reach.C) (x4:i_reach.A) (g5:i_reach.A->i_reach.C):i_reach.C:=
 (fun(a b:Int) (c:List RB) (d:List Bool) (e:List Int) (f:List (List RB))=>if decide (a<b)then if decide (0<=a)then if decide (a<(c.length:Int))then(S.a0r (((c.getD a.toNat (false,[],[])).1,(c.getD a.toNat (false,[],[])).2.1,(c.getD a.toNat (false,[],[])).2.2),())).bind fun y6=>if decide (y6.1>0)then if decide (0<=a)then if decide (a<(d.length:Int))then if ! (d.getD (0+a.toNat) false)then if decide (0<=a)then if decide (a<(d.length:Int))then if decide (((e.length+(List.length [a]))*8)<=140737488355328)then g5 (wrap .i64 (a+1),b,c,d.set (0+a.toNat) true,e++[a],f,())else none else none else none else g5 (wrap .i64 (a+1),b,c,d,e,f,())else none else none else g5 (wrap .i64 (a+1),b,c,d,e,f,())else none else none else if decide (0<=(e.length:Int))then if decide (((e.length:Int)+0)<=(e.length:Int))then if decide (1<=(e.length:Int))then g2 (seen e 1 ((Int.toNat (e.length:Int)) - 1),f,d,())else none else none else none) x4.1 x4.2.1 x4.2.2.1 x4.2.2.2.1 x4.2.2.2.2.1 x4.2.2.2.2.2.1
abbrev P.c6y (k:Nat) (x1:i_reach.B) (g2:i_reach.B->i_reach.C):i_reach.C:=
 if decide ((x1.1.length:Int)>0)then if decide (0<(x1.1.length:Int))then if decide (0<=(x1.1.getD 0 0))then if decide ((x1.1.getD 0 0)<(x1.2.1.length:Int))then loopP (P.b6t g2) k (0,(List.length (x1.2.1.getD (Int.toNat (x1.1.getD 0 0)) []):Int),x1.2.1.getD (Int.toNat (x1.1.getD 0 0)) [],x1.2.2.1,x1.1,x1.2.1,())else none else none else none else some (x1.2.2.1,())
def P.f0g (k:Nat) (x:List (List RB)×Int×Unit):i_reach.C:=
 if decide (0<=(x.1.length:Int))then if decide ((x.1.length:Int)<=(x.1.length:Int))then if decide (((x.1.length:Int)*1)<=281474976710656)then if decide (0<=x.2.1)then if decide (x.2.1<(List.length (List.replicate (Int.toNat (x.1.length:Int)) false):Int))then loopP (P.c6y k) k ([x.2.1],x.1,List.set (List.replicate (Int.toNat (x.1.length:Int)) false) (0+x.2.1.toNat) true,())else none else none else none else none else none
theorem sign_rp (q:Q3):S.a0r (((rp B32 q).1,(rp B32 q).2.1,(rp B32 q).2.2),())=some (d4s q.1 q.2.1,()):=by
 unfold S.a0r rp;dsimp only;rw[if_pos (a0j (by decide) _),a0i (by decide)]
theorem f9r {M:List (List Q3)} (hM:isM M) {i:Nat} (hi:i<M.length) {sn:List Bool} {td:List Nat} (hb:Bok M.length (sn,td)) (hm:td.length+sn.count false<=1000000)
  (g) {K:Nat} (hK:M.length<K):
  loopP (P.b6t g) K ((0:Int),(M.length:Int),(M.getD i []).map (rp B32),sn,zs (i::td),mp B32 M,())=g (zs (b4y (adj M i) M.length (sn,td)).2,mp B32 M,(b4y (adj M i) M.length (sn,td)).1,()):=by
 have hrow:=b6a hM hi;have hn:=hM.1;have key:=a0g (k:=K) (b:=P.b6t g) (n:=M.length) (st:=fun j=>((j:Int),(M.length:Int),(M.getD i []).map (rp B32),((List.range j).foldl (b0k (adj M i)) (sn,td)).1,zs (i::((List.range j).foldl (b0k (adj M i)) (sn,td)).2),mp B32 M,())) (F:=fun _=>g (zs (b4y (adj M i) M.length (sn,td)).2,mp B32 M,(b4y (adj M i) M.length (sn,td)).1,())) (fun j g' hj hg=>by
  unfold P.b6t;dsimp only at hg ⊢;obtain⟨b1,b2⟩:=b7v (a:=adj M i) hb j (by omega);rw[b4h]at hg;generalize (List.range j).foldl (b0k (adj M i)) (sn,td)=s at b1 b2 hg ⊢;have b3:s.2.length<=td.length+sn.count false:=by
   dsimp only at b2;omega
  have e1:(j:Int)<(M.length:Int):=by omega
  have e2:(0:Int)<=(j:Int):=by omega
  have e3:(((M.getD i []).map (rp B32)).length:Int)=(M.length:Int):=by rw[List.length_map,hrow.1]
  have e4:(zs (i::s.2)).length=s.2.length+1:=by simp [zs]
  have e5:(s.2.length+1+1)*8<=140737488355328:=by omega
  have e6:(s.1.length:Int)=(M.length:Int):=by rw[b1.len]
  rw[Int.toNat_natCast,c2k B32 (by rw[hrow.1];exact hj),sign_rp,Option.bind_some];simp only[e1,e2,e3,e4,e5,e6,decide_true,if_true,List.length_cons,List.length_nil,Nat.zero_add];rw[g3m,g3o hM hi hj,wr (by omega) (by omega)];unfold b0k at hg;cases ha:adj M i j
  ·rw[ha,if_neg (by simp)]at hg;rw[if_neg (by decide)];exact hg
  ·rw[if_pos rfl];cases hs:s.1.getD j false
   ·rw[ha,hs,if_pos ⟨rfl,rfl⟩]at hg;rw[if_pos (by decide),<-hg];simp [zs]
   ·rw[ha,hs,if_neg (by simp)]at hg;rw[if_neg (by decide)];exact hg) (fun g'=>by
  unfold P.b6t;dsimp only
  change _=g (zs (b4y (adj M i) M.length (sn,td)).2,mp B32 M,(b4y (adj M i) M.length (sn,td)).1,())
  rw[show(List.range M.length).foldl (b0k (adj M i)) (sn,td)=b4y (adj M i) M.length (sn,td)from rfl];generalize b4y (adj M i) M.length (sn,td)=s;have e4:(zs (i::s.2)).length=s.2.length+1:=by simp [zs]
  have e5:(0:Int)<=((s.2.length+1:Nat):Int):=by omega
  have e6:((s.2.length+1:Nat):Int)+0<=((s.2.length+1:Nat):Int):=by omega
  have e7:(1:Int)<=((s.2.length+1:Nat):Int):=by omega
  rw[if_neg (by simp)];simp only[e4,e5,e6,e7,decide_true,if_true,Int.toNat_natCast];have e8:seen (zs (i::s.2)) 1 (s.2.length+1 - 1)=zs s.2:=by
   show(zs s.2).take (s.2.length+1 - 1)=zs s.2;exact List.take_of_length_le (by rw[c4h];omega)
  rw[e8]) hK
 exact key
theorem f9s {M:List (List Q3)} (hM:isM M) {K:Nat} (hK:M.length<K):∀(f k:Nat) (sn:List Bool) (td:List Nat),Bok M.length (sn,td)->td.length+sn.count false<=f->f<k->f<=1000000->loopP (P.c6y K) k (zs td,mp B32 M,sn,())=some (bfs (adj M) M.length f sn td,()):=by
 intro f
 induction f with
 |zero=>
  intro k sn td hb hm hk hf;cases k with
  |zero=>omega
  |succ k=>
   have:td=[]:=List.eq_nil_of_length_eq_zero (by omega);subst this;rw[a0k];rfl
 |succ f ih=>
  intro k sn td hb hm hk hf;cases k with
  |zero=>omega
  |succ k=>
   rw[a0k];cases td with
   |nil=>rfl
   |cons i r=>
    have hi:i<M.length:=hb.lt i (List.mem_cons_self ..);have hb':Bok M.length (sn,r):=⟨hb.len,fun t ht=>hb.lt t (List.mem_cons_of_mem _ ht)⟩
    have hm':r.length+sn.count false<=f:=by
     rw[List.length_cons]at hm;omega
    unfold P.c6y;dsimp only;have e1:((zs (i::r)).length:Int)>0:=by rw[c4h,List.length_cons];omega
    have e2:(zs (i::r)).getD 0 0=(i:Int):=rfl;have e3:(0:Int)<=(i:Int):=by omega
    have e4:(i:Int)<((mp B32 M).length:Int):=by rw[a8a];omega
    rw[e2];simp only[e1,e3,e4,decide_true,if_true,Int.toNat_natCast];rw[e3p hi,List.length_map,(b6a hM hi).1,f9r hM hi hb' (by omega) _ hK,bfs];obtain⟨c1,c2⟩:=b7v (a:=adj M i) hb' M.length (Nat.le_refl _);exact ih k _ _ c1 (by
     have:(b4y (adj M i) M.length (sn,r)).2.length+(b4y (adj M i) M.length (sn,r)).1.count false=r.length+sn.count false:=c2;omega) (by omega) (by omega)
open Classical in
def S.c6z (x:((List (List RB))×(Int×Unit))):(Option ((List Bool)×Unit)):=if(∃M,isM M/\x.1=mp B32 M)/\0<=x.2.1/\x.2.1<(x.1.length:Int)then some (b3a (adj (mv B32 x.1)) x.1.length x.2.1.toNat,())else none
theorem S.f5b (x r) (h:S.c6z x=some r):∃k,P.f0g k x=some r:=by
 obtain⟨m,s,u⟩:=x;unfold S.c6z at h;dsimp only at h;split at h
 case isFalse=>cases h
 rename_i hc;obtain⟨⟨M,hM,rfl⟩,h0,h1⟩:=hc;cases h;obtain⟨s,rfl⟩:=Int.eq_ofNat_of_zero_le h0;rw[b6m (by decide),a8a]at*;have hs:s<M.length:=by omega
 have hn:=hM.1;refine⟨M.length+1,?_⟩;unfold P.f0g;dsimp only;have e1:(0:Int)<=(M.length:Int):=by omega
 have e2:(M.length:Int)*1<=281474976710656:=by omega
 have e3:((List.replicate M.length false).length:Int)=(M.length:Int):=by simp
 rw[a8a];simp only[e1,e2,e3,h0,h1,Int.le_refl,decide_true,if_true,Int.toNat_natCast,Nat.zero_add];obtain⟨c1,c2⟩:=c9i hs;exact f9s hM (K:=M.length+1) (by omega) M.length (M.length+1) _ [s] c1 (by omega) (by omega) (by omega)
abbrev P.b5t (x1:Int×Int×List (List Bool)×List (List RB)×Unit) (g2:Int×Int×List (List Bool)×List (List RB)×Unit->Option (List (List Bool)×Unit)):Option (List (List Bool)×Unit):=
 if decide (x1.1<x1.2.1)then(S.c6z (x1.2.2.2.1,x1.1,())).bind fun y3=>if decide (((x1.2.2.1.length+(List.length [y3.1]))*24)<=140737488355328)then g2 (wrap .i64 (x1.1+1),x1.2.1,x1.2.2.1++[y3.1],x1.2.2.2.1,())else none else some (x1.2.2.1,())
def P.d3e (k:Nat) (x:List (List RB)×Unit):Option (List (List Bool)×Unit):=
 loopP P.b5t k (0,(x.1.length:Int),[],x.1,())
def c4z (M:List (List Q3)):List (List Bool):=tab M.length fun i=>b3a (adj M) M.length i
theorem reach_i {M:List (List Q3)} (hM:isM M) {i:Nat} (hi:i<M.length):S.c6z (mp B32 M,(i:Int),())=some (b3a (adj M) M.length i,()):=by
 unfold S.c6z;dsimp only;rw[if_pos ⟨⟨M,hM,rfl⟩,by omega,by rw[a8a];omega⟩,b6m (by decide),a8a,Int.toNat_natCast]
open Classical in
def S.b6u (x:((List (List RB))×Unit)):(Option ((List (List Bool))×Unit)):=if ∃M,isM M/\x.1=mp B32 M then some (c4z (mv B32 x.1),())else none
theorem S.e6l (x r) (h:S.b6u x=some r):∃k,P.d3e k x=some r:=by
 obtain⟨m,u⟩:=x;unfold S.b6u at h;dsimp only at h;split at h
 case isFalse=>cases h
 rename_i hc;obtain⟨M,hM,rfl⟩:=hc;cases h;rw[b6m (by decide)];have hn:=hM.1;refine⟨M.length+1,?_⟩;unfold P.d3e;dsimp only;rw[a8a];have key:=a0g (k:=M.length+1) (b:=P.b5t) (n:=M.length) (st:=fun i=>((i:Int),(M.length:Int),tab i (fun i=>b3a (adj M) M.length i),mp B32 M,())) (F:=fun i=>some (c4z M,())) (fun i g hi hg=>by
  unfold P.b5t;dsimp only at hg ⊢;have e1:(i:Int)<(M.length:Int):=by omega
  have e2:(i+1)*24<=140737488355328:=by omega
  rw[reach_i hM hi,Option.bind_some];simp only[e1,e2,a1v,decide_true,if_true,List.length_cons,List.length_nil,Nat.zero_add];rw[wr (by omega) (by omega),<-hg,c0w];rfl) (fun g=>by
  unfold P.b5t;dsimp only;rw[if_neg (by simp)];rfl) (by omega)
 exact key
abbrev i_classes.A:=Int×Int×List (List Bool)×Int×List Int×List Bool×Bool×Int×Int×List (List RB)×Unit
abbrev i_classes.B:=Int×Int×List Int×List (List RB)×List (List Bool)×List Bool×Unit
abbrev i_classes.C:=Option ((List Int×List Bool)×Unit)
abbrev P.b2j (g4:i_classes.B->i_classes.C) (x6:i_classes.A) (g7:i_classes.A->i_classes.C):i_classes.C:=
 (fun(a b d i j:Int) (c:List (List Bool)) (e:List Int) (f:List Bool) (h:Bool) (l:List (List RB))=>if decide (a<b)then if decide (0<=d)then if decide (d<(c.length:Int))then if decide (0<=a)then if decide (a<(List.length (c.getD d.toNat []):Int))then if List.getD (c.getD d.toNat []) a.toNat false then if decide (0<=a)then if decide (a<(c.length:Int))then if decide (0<=d)then if decide (d<(List.length (c.getD a.toNat []):Int))then if List.getD (c.getD a.toNat []) d.toNat false then if decide (0<=a)then if decide (a<(e.length:Int))then if h then if decide (0<=d)then if decide (d<(c.length:Int))then if decide (0<=a)then if decide (a<(List.length (c.getD d.toNat []):Int))then if ! (List.getD (c.getD d.toNat []) a.toNat false)then g7 (wrap .i64 (a+1),b,c,d,e.set (0+a.toNat) (f.length:Int),f,true,i,j,l,())else if decide (0<=a)then if decide (a<(c.length:Int))then if decide (0<=d)then if decide (d<(List.length (c.getD a.toNat []):Int))then g7 (wrap .i64 (a+1),b,c,d,e.set (0+a.toNat) (f.length:Int),f,List.getD (c.getD a.toNat []) d.toNat false,i,j,l,())else none else none else none else none else none else none else none else none else g7 (wrap .i64 (a+1),b,c,d,e.set (0+a.toNat) (f.length:Int),f,false,i,j,l,())else none else none else if h then if decide (0<=d)then if decide (d<(c.length:Int))then if decide (0<=a)then if decide (a<(List.length (c.getD d.toNat []):Int))then if ! (List.getD (c.getD d.toNat []) a.toNat false)then g7 (wrap .i64 (a+1),b,c,d,e,f,true,i,j,l,())else if decide (0<=a)then if decide (a<(c.length:Int))then if decide (0<=d)then if decide (d<(List.length (c.getD a.toNat []):Int))then g7 (wrap .i64 (a+1),b,c,d,e,f,List.getD (c.getD a.toNat []) d.toNat false,i,j,l,())else none else none else none else none else none else none else none else none else g7 (wrap .i64 (a+1),b,c,d,e,f,false,i,j,l,())else none else none else none else none else if h then if decide (0<=d)then if decide (d<(c.length:Int))then if decide (0<=a)then if decide (a<(List.length (c.getD d.toNat []):Int))then if ! (List.getD (c.getD d.toNat []) a.toNat false)then g7 (wrap .i64 (a+1),b,c,d,e,f,true,i,j,l,())else if decide (0<=a)then if decide (a<(c.length:Int))then if decide (0<=d)then if decide (d<(List.length (c.getD a.toNat []):Int))then g7 (wrap .i64 (a+1),b,c,d,e,f,List.getD (c.getD a.toNat []) d.toNat false,i,j,l,())else none else none else none else none else none else none else none else none else g7 (wrap .i64 (a+1),b,c,d,e,f,false,i,j,l,())else none else none else none else none else if decide (((f.length+(List.length [h]))*1)<=140737488355328)then g4 (wrap .i64 (i+1),j,e,l,c,f++[h],())else none) x6.1 x6.2.1 x6.2.2.2.1 x6.2.2.2.2.2.2.2.1 x6.2.2.2.2.2.2.2.2.1 x6.2.2.1 x6.2.2.2.2.1 x6.2.2.2.2.2.1 x6.2.2.2.2.2.2.1 x6.2.2.2.2.2.2.2.2.2.1
abbrev P.b5u (k:Nat) (x3:i_classes.B) (g4:i_classes.B->i_classes.C):i_classes.C:=
 if decide (x3.1<x3.2.1)then if decide (0<=x3.1)then if decide (x3.1<(x3.2.2.1.length:Int))then if decide ((x3.2.2.1.getD (0+x3.1.toNat) 0)>=0)then g4 (wrap .i64 (x3.1+1),x3.2.1,x3.2.2.1,x3.2.2.2.1,x3.2.2.2.2.1,x3.2.2.2.2.2.1,())else loopP (P.b2j g4) k (0,(x3.2.2.2.1.length:Int),x3.2.2.2.2.1,x3.1,x3.2.2.1,x3.2.2.2.2.2.1,true,x3.1,x3.2.1,x3.2.2.2.1,())else none else none else some ((x3.2.2.1,x3.2.2.2.2.2.1),())
def P.d3f (k:Nat) (x:List (List RB)×Unit):i_classes.C:=
 (S.b6u (x.1,())).bind fun y0=>(S.a1k ([(-1:Int)],(x.1.length:Int),())).bind fun y1=>loopP (P.b5u k) k (0,(x.1.length:Int),y1.1,x.1,y0.1,[],())
theorem f2j {M:List (List Q3)} {i j:Nat} (hi:i<M.length):((c4z M).getD i []).getD j false=rcB M i j:=by
 unfold c4z rcB;rw[c9k _ _ hi]
theorem f9t {M:List (List Q3)} :(c4z M).length=M.length:=by
 unfold c4z;rw[a1v]
theorem e6m {M:List (List Q3)} {i:Nat} (hi:i<M.length):((c4z M).getD i []).length=M.length:=by
 unfold c4z;rw[c9k _ _ hi,c6b hi]
theorem f9u {M:List (List Q3)} {i:Nat} (hi:i<M.length) (hn:M.length<=12) (f:Nat->Int) (cl:List Bool) (hcl:cl.length<=12)
  (g) {K:Nat} (hK:M.length<K) (p:List (List RB)):
  loopP (P.b2j g) K ((0:Int),(M.length:Int),c4z M,(i:Int),tab M.length f,cl,true,(i:Int),(M.length:Int),p,())=g (((i+1:Nat):Int),(M.length:Int),tab M.length (fun j=>if(rcB M i j&&rcB M j i)=true then(cl.length:Int)else f j),p,c4z M,cl++[(List.range M.length).all fun j=> !rcB M i j||rcB M j i],()):=by
 have key:=a0g (k:=K) (b:=P.b2j g) (n:=M.length) (st:=fun j=>((j:Int),(M.length:Int),c4z M,(i:Int),upT M.length f (fun j=>rcB M i j&&rcB M j i) (cl.length:Int) j,cl,(List.range j).all (fun j=> !rcB M i j||rcB M j i),(i:Int),(M.length:Int),p,())) (F:=fun _=>g (((i+1:Nat):Int),(M.length:Int),tab M.length (fun j=>if(rcB M i j&&rcB M j i)=true then(cl.length:Int)else f j),p,c4z M,cl++[(List.range M.length).all fun j=> !rcB M i j||rcB M j i],())) (fun j g' hj hg=>by
  unfold P.b2j;dsimp only at hg ⊢;have e1:(j:Int)<(M.length:Int):=by omega
  have e2:(0:Int)<=(j:Int):=by omega
  have e3:(0:Int)<=(i:Int):=by omega
  have e4:(i:Int)<(M.length:Int):=by omega
  have e5:∀k,(upT M.length f (fun j=>rcB M i j&&rcB M j i) (cl.length:Int) k).length=M.length:=fun k=>a1v _ _
  simp only[f9t,Int.toNat_natCast,e6m hi,e6m hj,f2j hi,f2j hj,e1,e2,e3,e4,e5,decide_true,if_true,Nat.zero_add];rw[wr (by omega) (by omega)];rw[f1w]at hg;cases h1:rcB M i j
  ·rw[<-upT_no (by rw[h1];rfl),h1,Bool.not_false,Bool.true_or,Bool.and_true]at hg;cases hs:(List.range j).all fun j=> !rcB M i j||rcB M j i
   ·rw[hs]at hg;exact hg
   ·rw[hs]at hg;exact hg
  ·cases h2:rcB M j i
   ·rw[<-upT_no (by rw[h1,h2];rfl),h1,h2,Bool.not_true,Bool.false_or,Bool.and_false]at hg;cases hs:(List.range j).all fun j=> !rcB M i j||rcB M j i
    ·exact hg
    ·exact hg
   ·rw[<-upT_yes (by rw[h1,h2];rfl),h1,h2,Bool.not_true,Bool.false_or,Bool.and_true]at hg;cases hs:(List.range j).all fun j=> !rcB M i j||rcB M j i
    ·rw[hs]at hg;exact hg
    ·rw[hs]at hg;exact hg) (fun g'=>by
  unfold P.b2j;dsimp only;have e1:(cl.length+1)*1<=140737488355328:=by omega
  rw[if_neg (by simp),upT_all];simp only[List.length_cons,List.length_nil,Nat.zero_add,e1,decide_true,if_true];rw[wr (by omega) (by omega)];rfl) hK
 refine Eq.trans ?_ key;unfold upT;congr 2
open Classical in
def S.b6v (x:((List (List RB))×Unit)):(Option (((List Int)×(List Bool))×Unit)):=if ∃M,isM M/\x.1=mp B32 M then some (b4x (mv B32 x.1),())else none
theorem S.e6n (x r) (h:S.b6v x=some r):∃k,P.d3f k x=some r:=by
 obtain⟨m,u⟩:=x;unfold S.b6v at h;dsimp only at h;split at h
 case isFalse=>cases h
 rename_i hc;obtain⟨M,hM,rfl⟩:=hc;cases h;rw[b6m (by decide)];have hn:=hM.1;refine⟨M.length+1,?_⟩;unfold P.d3f;dsimp only;have er:S.b6u (mp B32 M,())=some (c4z M,()):=by
  unfold S.b6u;dsimp only;rw[if_pos ⟨M,hM,rfl⟩,b6m (by decide)]
 have ep:S.a1k ([-1],(M.length:Int),())=some (List.replicate M.length (-1),()):=by
  unfold S.a1k;dsimp only;rw[if_pos ⟨rfl,by omega,by omega⟩,Int.toNat_natCast];rfl
 rw[er,a8a,Option.bind_some,ep,Option.bind_some];have key:=a0g (k:=M.length+1) (b:=P.b5u (M.length+1)) (n:=M.length) (st:=fun i=>((i:Int),(M.length:Int),((List.range i).foldl (a6v (rcB M) M.length) (List.replicate M.length (-1),[])).1,mp B32 M,c4z M,((List.range i).foldl (a6v (rcB M) M.length) (List.replicate M.length (-1),[])).2,())) (F:=fun _=>some (b4x M,())) (fun i g hi hg=>by
  unfold P.b5u;dsimp only at hg ⊢;obtain⟨l1,l2⟩:=c0x (rcB M) M.length i;rw[b4h]at hg;generalize (List.range i).foldl (a6v (rcB M) M.length) (List.replicate M.length (-1),[])=s at l1 l2 hg ⊢;have e1:(i:Int)<(M.length:Int):=by omega
  have e2:(0:Int)<=(i:Int):=by omega
  have e3:(i:Int)<(s.1.length:Int):=by omega
  have e4:s.1.getD i 0=s.1.getD i (-1):=by
   rw[List.getD_eq_getElem?_getD,List.getD_eq_getElem?_getD,List.getElem?_eq_getElem (by omega)];rfl
  simp only[e1,e2,e3,decide_true,if_true,Int.toNat_natCast,Nat.zero_add,e4,a8a];unfold a6v at hg
  by_cases h0:0<=s.1.getD i (-1)
  ·rw[if_pos h0]at hg;rw[if_pos (decide_eq_true h0),wr (by omega) (by omega)];exact hg
  ·rw[if_neg h0]at hg;rw[if_neg (by simpa using h0)];have hs:s.1=tab M.length fun v=>s.1.getD v (-1):=by
    conv=>lhs;rw[f7y s.1 (-1),l1]
   rw[hs];refine Eq.trans (f9u hi hn (fun v=>s.1.getD v (-1)) s.2 (by omega) g (by omega) _) ?_;exact hg) (fun g=>by
  unfold P.b5u;dsimp only;rw[if_neg (by simp)];rfl) (by omega)
 exact key
abbrev P.b8k (x1:Int×Int×List RB×List RB×RB×Unit) (g2:Int×Int×List RB×List RB×RB×Unit->Option (List RB×Unit)):Option (List RB×Unit):=
 (fun(a b:Int) (c d:List RB) (e:RB)=>if decide (a<b)then if decide (0<=a)then if decide (a<(c.length:Int))then(S.a3a (((c.getD a.toNat (false,[],[])).1,(c.getD a.toNat (false,[],[])).2.1,(c.getD a.toNat (false,[],[])).2.2),(e.1,e.2.1,e.2.2),())).bind fun y3=>if decide (((d.length+(List.length [(y3.1.1,y3.1.2.1,y3.1.2.2)]))*56)<=140737488355328)then g2 (wrap .i64 (a+1),b,c,d++[(y3.1.1,y3.1.2.1,y3.1.2.2)],(e.1,e.2.1,e.2.2),())else none else none else none else some (d,())) x1.1 x1.2.1 x1.2.2.1 x1.2.2.2.1 x1.2.2.2.2.1
def P.e0o (k:Nat) (x:List RB×RB×Unit):Option (List RB×Unit):=
 loopP P.b8k k (0,(x.1.length:Int),x.1,[],(x.2.1.1,x.2.1.2.1,x.2.1.2.2),())
def d3g (qs:List Q3) (q:Q3):List Q3:=qs.map fun r=>a2s r q
theorem over_i {x y:Q3} (hx:low x) (bx:below 350000000 x) (hy:low y) (bY:below 350000000 y) (h0:y.2.1≠0):S.a3a (((rp B32 x).1,(rp B32 x).2.1,(rp B32 x).2.2),((rp B32 y).1,(rp B32 y).2.1,(rp B32 y).2.2),())=some (rp B32 (a2s x y),()):=ri_over hx bx hy bY h0 (Nat.le_refl _) (Nat.le_refl _)
open Classical in
def S.b8l (x:((List RB)×(RB×Unit))):(Option ((List RB)×Unit)):=if ∃(qs:List Q3) (q:Q3),x.1=qs.map (rp B32)/\x.2.1=rp B32 q/\qs.length<=1000000/\(∀r∈qs,low r/\below 350000000 r)/\low q/\below 350000000 q/\q.2.1≠0 then some ((d3g (x.1.map (rv B32)) (rv B32 x.2.1)).map (rp B32),())else none
theorem S.f0h (x r) (h:S.b8l x=some r):∃k,P.e0o k x=some r:=by
 obtain⟨xs,y,u⟩:=x;unfold S.b8l at h;dsimp only at h;split at h
 case isFalse=>cases h
 rename_i hc;obtain⟨qs,q,rfl,rfl,hl,hq,h1,h2,h3⟩:=hc;cases h;rw[a5b a0d,a2p a0d];refine⟨qs.length+1,?_⟩;unfold P.e0o;dsimp only;rw[List.length_map];have key:=a0g (k:=qs.length+1) (b:=P.b8k) (n:=qs.length) (st:=fun i=>((i:Int),(qs.length:Int),qs.map (rp B32),(d3g (qs.take i) q).map (rp B32),rp B32 q,())) (F:=fun _=>some ((d3g qs q).map (rp B32),())) (fun i g hi hg=>by
  unfold P.b8k;dsimp only at hg ⊢;have e1:(i:Int)<(qs.length:Int):=by omega
  have e2:(0:Int)<=(i:Int):=by omega
  have e3:(i+1)*56<=140737488355328:=by omega
  have e4:((d3g (qs.take i) q).map (rp B32)).length=i:=by
   unfold d3g;simp;omega
  simp only[e1,e2,e4,List.length_map,decide_true,if_true];rw[a0m (qs.map (rp B32)) i _ (by rw[List.length_map];exact hi),List.getElem_map,over_i (hq _ (List.getElem_mem hi)).1 (hq _ (List.getElem_mem hi)).2 h1 h2 h3,Option.bind_some];simp only[List.length_cons,List.length_nil,Nat.zero_add,e3,decide_true,if_true];rw[wr (by omega) (by omega),<-hg];have e5:(d3g (qs.take (i+1)) q).map (rp B32)=(d3g (qs.take i) q).map (rp B32)++[rp B32 (a2s qs[i] q)]:=by
   unfold d3g;rw[<-List.take_append_getElem hi,List.map_append,List.map_append];rfl
  rw[e5];rfl) (fun g=>by
  unfold P.b8k;dsimp only;rw[if_neg (by simp),List.take_length]) (by omega)
 exact key
abbrev P.c5a (x2:Int×Int×List RB×RB×RB×Unit) (g3:Int×Int×List RB×RB×RB×Unit->Option (RB×List RB×Unit)):Option (RB×List RB×Unit):=
 (fun(a b:Int) (c:List RB) (d e:RB)=>if decide (a<b)then if decide (0<=a)then if decide (a<(c.length:Int))then(S.a1c ((d.1,d.2.1,d.2.2),((c.getD (0+a.toNat) (false,[],[])).1,(c.getD (0+a.toNat) (false,[],[])).2.1,(c.getD (0+a.toNat) (false,[],[])).2.2),())).bind fun y4=>g3 (wrap .i64 (a+1),b,c,(y4.1.1,y4.1.2.1,y4.1.2.2),(e.1,e.2.1,e.2.2),())else none else none else some ((d.1,d.2.1,d.2.2),c,())) x2.1 x2.2.1 x2.2.2.1 x2.2.2.2.1 x2.2.2.2.2.1
def P.f9v (k:Nat) (x:List RB×Unit):Option (RB×List RB×Unit):=
 (S.a3o (0,())).bind fun y0=>loopP P.c5a k (0,(x.1.length:Int),x.1,(y0.1.1,y0.1.2.1,y0.1.2.2),(false,[],[]),())
open Classical in
def S.d3h (x:((List RB)×Unit)):(Option (RB×((List RB)×Unit))):=if g3p B32 x.1 then some (rp B32 (a5y (x.1.map (rv B32))),(x.1,()))else none
theorem f5c (a b:Q3) (ha:c1l B32 40000000 (rp B32 a)=true) (hb:c1l B32 40000000 (rp B32 b)=true):S.a1c (rp B32 a,(rp B32 b,()))=some (rp B32 (a9p a b),()):=by
 unfold S.a1c;dsimp only;rw[if_pos ⟨ha,hb⟩,a2p a0d,a2p a0d]
theorem S.f9w (x r) (h:S.d3h x=some r):∃k,P.f9v k x=some r:=by
 obtain⟨xs,u⟩:=x;unfold S.d3h at h;dsimp only at h;split at h
 case isFalse=>cases h
 rename_i hc;obtain⟨qs,rfl,hlen,hq,hg⟩:=hc;cases h;refine⟨qs.length+1,?_⟩;unfold P.f9v;have hz:S.a3o (0,())=some (rp B32 a2c,()):=by rfl
 dsimp only;rw[hz,Option.bind_some,a5b a0d,List.length_map];have key:=a0g (k:=qs.length+1) (b:=P.c5a) (n:=qs.length) (st:=fun i=>((i:Int),(qs.length:Int),qs.map (rp B32),rp B32 (a5y (qs.take i)),(false,(([]:List Int),([]:List Int))),())) (F:=fun i=>some (rp B32 (a5y qs),(qs.map (rp B32),()))) (fun i g hi hg'=>by
  unfold P.c5a;dsimp only at hg' ⊢;have e1:(i:Int)<(qs.length:Int):=by omega
  have e2:(0:Int)<=(i:Int):=by omega
  have e3:(i:Int)<((qs.map (rp B32)).length:Int):=by rw[List.length_map];omega
  rw[if_pos (decide_eq_true e1),if_pos (decide_eq_true e2),if_pos (decide_eq_true e3),Nat.zero_add,a0m (qs.map (rp B32)) i _ (by rw[List.length_map];exact hi),List.getElem_map];have ea:=f5c (a5y (qs.take i)) qs[i] (a2t (by decide) (hg i).1 (hg i).2 (by decide)) (a2t (by decide) (hq _ (List.getElem_mem hi)).1 (hq _ (List.getElem_mem hi)).2 (by decide));rw[b9v hi]at ea;show Option.bind (S.a1c (rp B32 (a5y (qs.take i)),(rp B32 qs[i],()))) _=_;rw[ea,Option.bind_some,wr (by omega) (by omega)];exact hg') (fun g=>by
  unfold P.c5a;dsimp only;rw[if_neg (by simp),List.take_length]) (by omega)
 exact key
abbrev i_restOf.A:=Int×Int×List (List RB×Nat)×Int×Int×Int×Int×RB×Unit
abbrev i_restOf.B:=Int×Int×RB×List RB×List (List RB×Nat)×Int×Unit
abbrev i_restOf.C:=Int×Int×List (List RB×Nat)×Int×RB×Unit
abbrev i_restOf.D:=Option (List RB×List (List RB×Nat)×Unit)
abbrev i_restOf.E:=Int×List (List RB×Nat)×List RB×Unit
abbrev P.b2k (g8:i_restOf.C->i_restOf.D) (x14:i_restOf.A) (g15:i_restOf.A->i_restOf.D):i_restOf.D:=
 (fun(a b d e f h:Int) (c:List (List RB×Nat)) (i:RB)=>if decide (a<b)then if decide (0<=d)then if decide (d<(List.length (hd0 c):Int))then if decide (0<=d)then if decide (d<(List.length (hd0 c):Int))then if decide (0<=a)then if decide (a<(((List.getD (hd0 c) (0+d.toNat) (0,0)).2:Nat):Int))then if decide (0<=d)then if decide (d<(List.length (hd0 c):Int))then if decide (0<=e)then if decide (e<(((List.getD (hd0 c) (0+d.toNat) (0,0)).2:Nat):Int))then if decide (0<=e)then if decide (e<(List.length (hd0 c):Int))then if decide (0<=a)then if decide (a<(((List.getD (hd0 c) (0+e.toNat) (0,0)).2:Nat):Int))then(S.a3s (((List.getD (List.getD (in0 c) (List.getD (hd0 c) (0+d.toNat) (0,0)).1 []) (0+e.toNat) (false,[],[])).1,(List.getD (List.getD (in0 c) (List.getD (hd0 c) (0+d.toNat) (0,0)).1 []) (0+e.toNat) (false,[],[])).2.1,(List.getD (List.getD (in0 c) (List.getD (hd0 c) (0+d.toNat) (0,0)).1 []) (0+e.toNat) (false,[],[])).2.2),((List.getD (List.getD (in0 c) (List.getD (hd0 c) (0+e.toNat) (0,0)).1 []) (0+a.toNat) (false,[],[])).1,(List.getD (List.getD (in0 c) (List.getD (hd0 c) (0+e.toNat) (0,0)).1 []) (0+a.toNat) (false,[],[])).2.1,(List.getD (List.getD (in0 c) (List.getD (hd0 c) (0+e.toNat) (0,0)).1 []) (0+a.toNat) (false,[],[])).2.2),())).bind fun y16=>(S.a1c (((List.getD (List.getD (in0 c) (List.getD (hd0 c) (0+d.toNat) (0,0)).1 []) (0+a.toNat) (false,[],[])).1,(List.getD (List.getD (in0 c) (List.getD (hd0 c) (0+d.toNat) (0,0)).1 []) (0+a.toNat) (false,[],[])).2.1,(List.getD (List.getD (in0 c) (List.getD (hd0 c) (0+d.toNat) (0,0)).1 []) (0+a.toNat) (false,[],[])).2.2),(y16.1.1,y16.1.2.1,y16.1.2.2),())).bind fun y17=>if decide (0<=a)then if decide (a<(((List.getD (hd0 c) (0+d.toNat) (0,0)).2:Nat):Int))then if dup (List.map (fun(y18:Nat×Nat)=>y18.1) (hd0 c))then none else g15 (wrap .i64 (a+1),b,nrm (hd0 c) (List.set (in0 c) (List.getD (hd0 c) (0+d.toNat) (0,0)).1 (List.set (List.getD (in0 c) (List.getD (hd0 c) (0+d.toNat) (0,0)).1 []) (0+a.toNat) (y17.1.1,y17.1.2.1,y17.1.2.2))),d,e,f,h,(i.1,i.2.1,i.2.2),())else none else none else none else none else none else none else none else none else none else none else none else none else none else none else none else none else if dup (List.map (fun(y19:Nat×Nat)=>y19.1) (hd0 c))then none else g8 (wrap .i64 (f+1),h,nrm (hd0 c) (in0 c),e,(i.1,i.2.1,i.2.2),())) x14.1 x14.2.1 x14.2.2.2.1 x14.2.2.2.2.1 x14.2.2.2.2.2.1 x14.2.2.2.2.2.2.1 x14.2.2.1 x14.2.2.2.2.2.2.2.1
abbrev P.b4u (k:Nat) (g3:Int×List (List RB×Nat)×Unit->i_restOf.D) (x7:i_restOf.C) (g8:i_restOf.C->i_restOf.D):i_restOf.D:=
 (fun(a b d:Int) (c:List (List RB×Nat)) (e:RB)=>if decide (a<b)then if decide (0<=a)then if decide (a<(List.length (hd0 c):Int))then if decide (0<=a)then if decide (a<(List.length (hd0 c):Int))then if decide (0<=d)then if decide (d<(((List.getD (hd0 c) (0+a.toNat) (0,0)).2:Nat):Int))then(S.a3a (((List.getD (List.getD (in0 c) (List.getD (hd0 c) (0+a.toNat) (0,0)).1 []) (0+d.toNat) (false,[],[])).1,(List.getD (List.getD (in0 c) (List.getD (hd0 c) (0+a.toNat) (0,0)).1 []) (0+d.toNat) (false,[],[])).2.1,(List.getD (List.getD (in0 c) (List.getD (hd0 c) (0+a.toNat) (0,0)).1 []) (0+d.toNat) (false,[],[])).2.2),(e.1,e.2.1,e.2.2),())).bind fun y9=>if decide (0<=d)then if decide (d<(((List.getD (hd0 c) (0+a.toNat) (0,0)).2:Nat):Int))then if decide (0<=a)then if decide (a<(List.length (hd0 c):Int))then if decide (0<=d)then if decide (d<(((List.getD (hd0 c) (0+a.toNat) (0,0)).2:Nat):Int))then(S.a0r (((List.getD (List.getD (List.set (in0 c) (List.getD (hd0 c) (0+a.toNat) (0,0)).1 (List.set (List.getD (in0 c) (List.getD (hd0 c) (0+a.toNat) (0,0)).1 []) (0+d.toNat) (y9.1.1,y9.1.2.1,y9.1.2.2))) (List.getD (hd0 c) (0+a.toNat) (0,0)).1 []) (0+d.toNat) (false,[],[])).1,(List.getD (List.getD (List.set (in0 c) (List.getD (hd0 c) (0+a.toNat) (0,0)).1 (List.set (List.getD (in0 c) (List.getD (hd0 c) (0+a.toNat) (0,0)).1 []) (0+d.toNat) (y9.1.1,y9.1.2.1,y9.1.2.2))) (List.getD (hd0 c) (0+a.toNat) (0,0)).1 []) (0+d.toNat) (false,[],[])).2.1,(List.getD (List.getD (List.set (in0 c) (List.getD (hd0 c) (0+a.toNat) (0,0)).1 (List.set (List.getD (in0 c) (List.getD (hd0 c) (0+a.toNat) (0,0)).1 []) (0+d.toNat) (y9.1.1,y9.1.2.1,y9.1.2.2))) (List.getD (hd0 c) (0+a.toNat) (0,0)).1 []) (0+d.toNat) (false,[],[])).2.2),())).bind fun y10=>if y10.1==0 then if dup (List.map (fun(y11:Nat×Nat)=>y11.1) (hd0 c))then none else g8 (wrap .i64 (a+1),b,nrm (hd0 c) (List.set (in0 c) (List.getD (hd0 c) (0+a.toNat) (0,0)).1 (List.set (List.getD (in0 c) (List.getD (hd0 c) (0+a.toNat) (0,0)).1 []) (0+d.toNat) (y9.1.1,y9.1.2.1,y9.1.2.2))),d,(e.1,e.2.1,e.2.2),())else if dup (List.map (fun(y12:Nat×Nat)=>y12.1) (hd0 c))then none else loopP (P.b2k g8) k (0,d,nrm (hd0 c) (List.set (in0 c) (List.getD (hd0 c) (0+a.toNat) (0,0)).1 (List.set (List.getD (in0 c) (List.getD (hd0 c) (0+a.toNat) (0,0)).1 []) (0+d.toNat) (y9.1.1,y9.1.2.1,y9.1.2.2))),a,d,a,b,(e.1,e.2.1,e.2.2),())else none else none else none else none else none else none else none else none else none else none else none else none else if dup (List.map (fun(y20:Nat×Nat)=>y20.1) (hd0 c))then none else g3 (wrap .i64 (d - 1),nrm (hd0 c) (in0 c),())) x7.1 x7.2.1 x7.2.2.2.1 x7.2.2.1 x7.2.2.2.2.1
abbrev P.b2l (g25:i_restOf.E->i_restOf.D) (x29:i_restOf.B) (g30:i_restOf.B->i_restOf.D):i_restOf.D:=
 (fun(a b f:Int) (c:RB) (d:List RB) (e:List (List RB×Nat))=>if decide (a<b)then if decide (0<=a)then if decide (a<(d.length:Int))then if decide (0<=a)then if decide (a<(List.length (hd0 e):Int))then if decide (0<=f)then if decide (f<(((List.getD (hd0 e) (0+a.toNat) (0,0)).2:Nat):Int))then(S.a3s (((d.getD (0+a.toNat) (false,[],[])).1,(d.getD (0+a.toNat) (false,[],[])).2.1,(d.getD (0+a.toNat) (false,[],[])).2.2),((List.getD (List.getD (in0 e) (List.getD (hd0 e) (0+a.toNat) (0,0)).1 []) (0+f.toNat) (false,[],[])).1,(List.getD (List.getD (in0 e) (List.getD (hd0 e) (0+a.toNat) (0,0)).1 []) (0+f.toNat) (false,[],[])).2.1,(List.getD (List.getD (in0 e) (List.getD (hd0 e) (0+a.toNat) (0,0)).1 []) (0+f.toNat) (false,[],[])).2.2),())).bind fun y31=>(S.a1c ((c.1,c.2.1,c.2.2),(y31.1.1,y31.1.2.1,y31.1.2.2),())).bind fun y32=>if dup (List.map (fun(y33:Nat×Nat)=>y33.1) (hd0 e))then none else g30 (wrap .i64 (a+1),b,(y32.1.1,y32.1.2.1,y32.1.2.2),d,nrm (hd0 e) (in0 e),f,())else none else none else none else none else none else none else if decide (((d.length+(List.length [(c.1,c.2.1,c.2.2)]))*56)<=140737488355328)then if dup (List.map (fun(y34:Nat×Nat)=>y34.1) (hd0 e))then none else g25 (wrap .i64 (f+1),nrm (hd0 e) (in0 e),d++[(c.1,c.2.1,c.2.2)],())else none) x29.1 x29.2.1 x29.2.2.2.2.2.1 x29.2.2.1 x29.2.2.2.1 x29.2.2.2.2.1
abbrev P.a9c (k:Nat) (x24:i_restOf.E) (g25:i_restOf.E->i_restOf.D):i_restOf.D:=
 if decide (x24.1<(List.length (hd0 x24.2.1):Int))then(S.a3o (0,())).bind fun y26=>if dup (List.map (fun(y27:Nat×Nat)=>y27.1) (hd0 x24.2.1))then none else loopP (P.b2l g25) k (0,x24.1,(y26.1.1,y26.1.2.1,y26.1.2.2),x24.2.2.1,nrm (hd0 x24.2.1) (in0 x24.2.1),x24.1,())else(S.d3h (x24.2.2.1,())).bind fun y35=>(S.b8l (splice x24.2.2.1 y35.2.1 0,(y35.1.1,y35.1.2.1,y35.1.2.2),())).bind fun y36=>if dup (List.map (fun(y37:Nat×Nat)=>y37.1) (hd0 x24.2.1))then none else some (y36.1,nrm (hd0 x24.2.1) (in0 x24.2.1),())
abbrev P.b4v (k:Nat) (x2:Int×List (List RB×Nat)×Unit) (g3:Int×List (List RB×Nat)×Unit->i_restOf.D):i_restOf.D:=
 (fun(a:Int) (b:List (List RB×Nat))=>if decide (a>0)then if decide (0<=a)then if decide (a<(List.length (hd0 b):Int))then if decide (0<=a)then if decide ((a+((0:Nat):Int))<=(List.length (List.getD (in0 b) (List.getD (hd0 b) (0+a.toNat) (0,0)).1 []):Int))then if decide (0<=a)then(S.d3h (seen (List.getD (in0 b) (List.getD (hd0 b) (0+a.toNat) (0,0)).1 []) (0+0) (a.toNat - 0),())).bind fun y4=>if dup (List.map (fun(y5:Nat×Nat)=>y5.1) (hd0 b))then none else loopP (P.b4u k g3) k (0,a,nrm (hd0 b) (List.set (in0 b) (List.getD (hd0 b) (0+a.toNat) (0,0)).1 (splice (List.getD (in0 b) (List.getD (hd0 b) (0+a.toNat) (0,0)).1 []) y4.2.1 (0+0))),a,(y4.1.1,y4.1.2.1,y4.1.2.2),())else none else none else none else none else none else(S.a3o (1,())).bind fun y21=>if dup (List.map (fun(y22:Nat×Nat)=>y22.1) (hd0 b))then none else loopP (P.a9c k) k (1,nrm (hd0 b) (in0 b),[(y21.1.1,y21.1.2.1,y21.1.2.2)],())) x2.1 x2.2.1
def P.e0p (k:Nat) (x:List (List RB×Nat)×Unit):i_restOf.D:=
 if dup (List.map (fun(y0:Nat×Nat)=>y0.1) (hd0 x.1))then none else loopP (P.b4v k) k (wrap .i64 ((List.length (hd0 x.1):Int) - 1),nrm (hd0 x.1) (in0 x.1),())
theorem c1d {q:Q3} (h:okq q):c1l B32 40000000 (rp B32 q)=true:=a2t (by decide) h.1 h.2 (by decide)
def d5y (a:Nat->Nat->Q3) (k i j:Nat):Nat->Nat->Q3:=fun x y=>if x<i\/(x=i/\(y=k\/y<j))then gS a k x y else a x y
theorem mulo_i {a b:Q3} (ha:okq a) (hb:okq b):S.a3s (((rp B32 a).1,(rp B32 a).2.1,(rp B32 a).2.2),((rp B32 b).1,(rp B32 b).2.1,(rp B32 b).2.2),())=some (rp B32 (b9a a b),()):=by
 show S.a3s (rp B32 a,rp B32 b,())=_;unfold S.a3s;dsimp only;rw[if_pos ⟨c1d ha,c1d hb⟩,a2p a0d,a2p a0d]
theorem addo_i {a b:Q3} (ha:okq a) (hb:okq b):S.a1c (((rp B32 a).1,(rp B32 a).2.1,(rp B32 a).2.2),((rp B32 b).1,(rp B32 b).2.1,(rp B32 b).2.2),())=some (rp B32 (a9p a b),()):=by
 show S.a1c (rp B32 a,rp B32 b,())=_;unfold S.a1c;dsimp only;rw[if_pos ⟨c1d ha,c1d hb⟩,a2p a0d,a2p a0d]
theorem overo_i {a b:Q3} (ha:okq a) (hb:okq b) (h0:b.2.1≠0):S.a3a (((rp B32 a).1,(rp B32 a).2.1,(rp B32 a).2.2),((rp B32 b).1,(rp B32 b).2.1,(rp B32 b).2.2),())=some (rp B32 (a2s a b),()):=by
 show S.a3a (rp B32 a,rp B32 b,())=_;unfold S.a3a;dsimp only;rw[if_pos ⟨c1d ha,c1d hb,by rw[a2p a0d];exact h0⟩,a2p a0d,a2p a0d]
theorem f9x {a:Nat->Nat->Q3} {n k:Nat} (h:rOk a n k) {i:Nat} (hi:i<k) (hf:(a2s (a i k) (b5b a k)).2.1≠0) (out:Bool×(List Int×List Int)) (g) {K:Nat} (hK:n<K):
  loopP (P.b2k g) K ((0:Int),(k:Int),om B32 n n (d5y a k i 0),(i:Int),(k:Int),(i:Int),(k:Int),out,())=g (((i+1:Nat):Int),(k:Int),om B32 n n (d5y a k i k),(k:Int),out,()):=by
 obtain⟨kn,n12,hnum,hF,hO,hP,hM⟩:=h;have key:=a0g (k:=K) (b:=P.b2k g) (n:=k) (st:=fun j=>((j:Int),(k:Int),om B32 n n (d5y a k i j),(i:Int),(k:Int),(i:Int),(k:Int),out,())) (F:=fun _=>g (((i+1:Nat):Int),(k:Int),om B32 n n (d5y a k i k),(k:Int),out,())) (fun j g' hj hg=>by
  unfold P.b2k;dsimp only at hg ⊢;have e1:(j:Int)<(k:Int):=by omega
  have e2:(0:Int)<=(j:Int):=by omega
  have e3:(0:Int)<=(i:Int):=by omega
  have e4:(i:Int)<(n:Int):=by omega
  have e5:(0:Int)<=(k:Int):=by omega
  have e6:(k:Int)<(n:Int):=by omega
  have e7:(j:Int)<(n:Int):=by omega
  have v1:d5y a k i j i k=a2s (a i k) (b5b a k):=by
   unfold d5y gS;rw[if_pos (Or.inr ⟨rfl,Or.inl rfl⟩),if_pos hi,if_pos rfl]
  have v2:d5y a k i j k j=a k j:=by
   unfold d5y;rw[if_neg (by omega)]
  have v3:d5y a k i j i j=a i j:=by
   unfold d5y;rw[if_neg (by omega)]
  have v4:gS a k i j=a9p (a i j) (b9a (a2s (a i k) (b5b a k)) (a k j)):=by
   unfold gS;rw[if_pos hi,if_neg (by omega),if_pos ⟨hj,hf⟩]
  have v5:g5j (d5y a k i j) i j (a9p (a i j) (b9a (a2s (a i k) (b5b a k)) (a k j)))=d5y a k i (j+1):=by
   funext x y;unfold g5j
   by_cases q:x=i/\y=j
   ·rw[if_pos q,q.1,q.2];unfold d5y;rw[if_pos (Or.inr ⟨rfl,Or.inr (by omega)⟩),v4]
   ·rw[if_neg q];unfold d5y
    by_cases w:x<i\/(x=i/\(y=k\/y<j))
    ·rw[if_pos w,if_pos (by omega)]
    ·rw[if_neg w,if_neg (by omega)]
  simp only[a0v,a4w,Int.toNat_natCast,Nat.zero_add,c1r (show i<n by omega),c1r kn,c5g (show i<n by omega),c5g kn,b6y kn,b6y (show j<n by omega),a2e,e1,e2,e3,e4,e5,e6,e7,decide_true,if_true,Bool.false_eq_true,if_false,v1,v2,v3];rw[mulo_i (hF i hi) (hnum k (Nat.le_refl _) j (by omega)),Option.bind_some];dsimp only;rw[addo_i (hnum i (by omega) j (by omega)) (hM i hi j hj),Option.bind_some];dsimp only;rw[wr (by omega) (by omega),show((rp B32 (a9p (a i j) (b9a (a2s (a i k) (b5b a k)) (a k j)))).1,(rp B32 (a9p (a i j) (b9a (a2s (a i k) (b5b a k)) (a k j)))).2.1,(rp B32 (a9p (a i j) (b9a (a2s (a i k) (b5b a k)) (a k j)))).2.2)=rp B32 (a9p (a i j) (b9a (a2s (a i k) (b5b a k)) (a k j)))from rfl,e0u (show i<n by omega),v5];exact hg) (fun g'=>by
  unfold P.b2k;dsimp only;rw[if_neg (by simp),a2e,a2u,wr (by omega) (by omega)];rfl) (by omega)
 exact key
theorem g4u (q:Q3):S.a0r (((rp B32 q).1,(rp B32 q).2.1,(rp B32 q).2.2),())=some (d4s q.1 q.2.1,()):=by
 unfold S.a0r rp;dsimp only;rw[if_pos (a0j (by decide) _),a0i (by decide)]
def c5b (a:Nat->Nat->Q3) (k i:Nat):Nat->Nat->Q3:=fun x y=>if x<i then gS a k x y else a x y
theorem set_at {α:Type} {xs:List α} {i:Nat} (h:i<xs.length) (v d:α):(xs.set i v).getD i d=v:=by
 rw[List.getD_eq_getElem?_getD,List.getElem?_eq_getElem (by rw[List.length_set];exact h)];simp
theorem iro_mid {a:Nat->Nat->Q3} {n k:Nat} (h:rOk a n k) (g) {K:Nat} (hK:n<K):
  loopP (P.b4u K g) K ((0:Int),(k:Int),om B32 n n (c5b a k 0),(k:Int),rp B32 (b5b a k),())=g ((k:Int) - 1,om B32 n n (gS a k),()):=by
 have h':=h;obtain⟨kn,n12,hnum,hF,hO,hP,hM⟩:=h;have key:=a0g (k:=K) (b:=P.b4u K g) (n:=k) (st:=fun i=>((i:Int),(k:Int),om B32 n n (c5b a k i),(k:Int),rp B32 (b5b a k),())) (F:=fun _=>g ((k:Int) - 1,om B32 n n (gS a k),())) (fun i g' hi hg=>by
  unfold P.b4u;dsimp only at hg ⊢;have e1:(i:Int)<(k:Int):=by omega
  have e3:(0:Int)<=(i:Int):=by omega
  have e4:(i:Int)<(n:Int):=by omega
  have e5:(0:Int)<=(k:Int):=by omega
  have e6:(k:Int)<(n:Int):=by omega
  have v1:c5b a k i i k=a i k:=by
   unfold c5b;rw[if_neg (by omega)]
  have v5:g5j (c5b a k i) i k (a2s (a i k) (b5b a k))=d5y a k i 0:=by
   funext x y;unfold g5j
   by_cases q:x=i/\y=k
   ·rw[if_pos q,q.1,q.2];unfold d5y gS;rw[if_pos (Or.inr ⟨rfl,Or.inl rfl⟩),if_pos hi,if_pos rfl]
   ·rw[if_neg q];unfold d5y c5b
    by_cases w:x<i
    ·rw[if_pos w,if_pos (Or.inl w)]
    ·rw[if_neg w,if_neg (by omega)]
  simp only[a0v,a4w,Int.toNat_natCast,Nat.zero_add,c1r (show i<n by omega),c5g (show i<n by omega),b6y kn,a2e,e1,e3,e4,e5,e6,decide_true,if_true,Bool.false_eq_true,if_false,v1];rw[overo_i (hnum i (by omega) k (Nat.le_refl _)) hO.1 hO.2,Option.bind_some];dsimp only;have w1:∀v:List (Bool×(List Int×List Int)),((in0 (om B32 n n (c5b a k i))).set i v).getD i []=v:=fun v=>set_at (by rw[c0r,a4w];omega) _ _
  have w2:∀v d:Bool×(List Int×List Int),(((tab n (c5b a k i i)).map (rp B32)).set k v).getD k d=v:=fun v d=>set_at (by rw[List.length_map,a1v];omega) _ _
  rw[show((rp B32 (a2s (a i k) (b5b a k))).1,(rp B32 (a2s (a i k) (b5b a k))).2.1,(rp B32 (a2s (a i k) (b5b a k))).2.2)=rp B32 (a2s (a i k) (b5b a k))from rfl];simp only[w1,w2];rw[g4u,Option.bind_some];dsimp only;rw[e0u (show i<n by omega),v5,wr (x:=(i:Int)+1) (by omega) (by omega)]
  by_cases hf:(a2s (a i k) (b5b a k)).2.1=0
  ·rw[if_pos (by rw[beq_iff_eq,a5z];exact hf),<-hg];have:om B32 n n (d5y a k i 0)=om B32 n n (c5b a k (i+1)):=b8n fun x hx y hy=>by
    unfold d5y c5b
    by_cases w:x<i
    ·rw[if_pos (Or.inl w),if_pos (by omega)]
    ·by_cases w2:x=i
     ·subst w2
      by_cases w3:y=k
      ·rw[if_pos (Or.inr ⟨rfl,Or.inl w3⟩),if_pos (by omega)]
      ·rw[if_neg (by omega),if_pos (by omega)];unfold gS;rw[if_pos hi,if_neg w3,if_neg (fun q=>q.2 hf)]
     ·rw[if_neg (by omega),if_neg (by omega)]
   rw[this];rfl
  ·rw[if_neg (by rw[beq_iff_eq,a5z];exact hf),f9x h' hi hf _ _ hK,<-hg];have:om B32 n n (d5y a k i k)=om B32 n n (c5b a k (i+1)):=b8n fun x hx y hy=>by
    unfold d5y c5b
    by_cases w:x<i
    ·rw[if_pos (Or.inl w),if_pos (by omega)]
    ·by_cases w2:x=i
     ·subst w2
      by_cases w3:y=k\/y<k
      ·rw[if_pos (Or.inr ⟨rfl,w3⟩),if_pos (by omega)]
      ·rw[if_neg (by omega),if_pos (by omega)];unfold gS;rw[if_pos hi,if_neg (by omega),if_neg (by omega)]
     ·rw[if_neg (by omega),if_neg (by omega)]
   rw[this]) (fun g'=>by
  unfold P.b4u;dsimp only;rw[if_neg (by simp),a2e,a2u,wr (by omega) (by omega),if_neg (by decide)];have:om B32 n n (c5b a k k)=om B32 n n (gS a k):=b8n fun x hx y hy=>by
   unfold c5b;split
   ·rfl
   ·unfold gS;rw[if_neg (by assumption)]
  rw[this]) (by omega)
 exact key
theorem summ_i {f:Nat->Q3} {k:Nat} (hk:k<=12) (h:∀j,j<k->okq (f j)) (hs:∀j,j<=k->okq (a5y (tab j f))):S.d3h ((tab k f).map (rp B32),())=some (rp B32 (a5y (tab k f)),((tab k f).map (rp B32),())):=by
 unfold S.d3h;dsimp only
 rw[if_pos ⟨tab k f,rfl,by rw[a1v];omega,fun q hq=>by
  obtain⟨j,hj,rfl⟩:=b7w.1 hq;exact h j hj,fun j=>by
  rw[e0v];exact hs _ (Nat.min_le_right ..)⟩,a5b a0d]
theorem iro_red {a:Nat->Nat->Q3} {n:Nat} (hr:∀k,0<k->k<n->rOk (gM n a (n - 1 - k)) n k) {K:Nat} (hK:n<K):∀(k F:Nat),k<n->k<F->
  loopP (P.b4v K) F ((k:Int),om B32 n n (gM n a (n - 1 - k)),())=loopP (P.a9c K) K ((1:Int),om B32 n n (gM n a (n - 1)),[rp B32 c3z],()):=by
 intro k
 induction k with
 |zero=>
  intro F hk hF;obtain⟨F,rfl⟩:∃j,F=j+1:=⟨F - 1,by omega⟩
  rw[a0k];unfold P.b4v;dsimp only;have hz:S.a3o (1,())=some (rp B32 c3z,()):=by rfl
  rw[if_neg (by simp),hz,Option.bind_some,a2e,a2u,if_neg (by decide)];rfl
 |succ k ih=>
  intro F hk hF;obtain⟨F,rfl⟩:∃j,F=j+1:=⟨F - 1,by omega⟩
  rw[a0k];have h:=hr (k+1) (by omega) hk;have ih':=ih F (by omega) (by omega);have e0:n - 1 - k=(n - 1 - (k+1))+1:=by omega
  rw[e0]at ih';have e00:gM n a ((n - 1 - (k+1))+1)=gS (gM n a (n - 1 - (k+1))) (k+1):=by
   rw[gM,show n - 1 - (n - 1 - (k+1))=k+1 by omega]
  rw[e00]at ih';generalize gM n a (n - 1 - (k+1))=b at*;generalize loopP (P.b4v K) F=g at ih' ⊢;unfold P.b4v;dsimp only;have e1:((k+1:Nat):Int)>0:=by omega
  have e2:(0:Int)<=((k+1:Nat):Int):=by omega
  have e3:((k+1:Nat):Int)<(n:Int):=by omega
  have e4:((k+1:Nat):Int)+((0:Nat):Int)<=(n:Int):=by omega
  have hse:seen ((tab n (b (k+1))).map (rp B32)) (0+0) (k+1 - 0)=(tab (k+1) (b (k+1))).map (rp B32):=by
   show List.take (k+1) (List.drop 0 _)=_;rw[List.drop_zero,<-List.map_take,e0v,Nat.min_eq_left (by omega)]
  simp only[a0v,a4w,Int.toNat_natCast,Nat.zero_add,c1r hk,c5g hk,List.length_map,a1v,e1,e2,e3,e4,decide_true,if_true];rw[show seen ((tab n (b (k+1))).map (rp B32)) 0 (k+1 - 0)=(tab (k+1) (b (k+1))).map (rp B32)from hse,summ_i (by have:=h.n12;omega) (fun j hj=>h.num _ (Nat.le_refl _) j (by omega)) h.par,Option.bind_some];dsimp only;have hsp:splice ((tab n (b (k+1))).map (rp B32)) ((tab (k+1) (b (k+1))).map (rp B32)) 0=(tab n (b (k+1))).map (rp B32):=by
   have:(tab (k+1) (b (k+1))).map (rp B32)=((tab n (b (k+1))).map (rp B32)).take (k+1):=by rw[<-List.map_take,e0v,Nat.min_eq_left (by omega)]
   rw[this];unfold splice;rw[List.take_zero,List.nil_append,List.length_take,List.length_map,a1v,Nat.min_eq_left (by omega),Nat.zero_add,List.take_append_drop]
  rw[a2e,hsp,om_back hk,if_neg (by decide)];have:=iro_mid h g hK;rw[show((k+1:Nat):Int) - 1=(k:Int) by omega,ih']at this;exact this
theorem iro_dot {G:Nat->Nat->Q3} {w:Nat->Q3} {n k:Nat} (kn:k<n) (n12:n<=12) (hw:∀i,i<k->okq (w i)) (hG:∀i,i<k->okq (G i k)) (hm:∀i,i<k->okq (b9a (w i) (G i k))) (hd:∀i,i<=k->okq (d4g w (fun i=>G i k) i)) (g) {K:Nat} (hK:n<K):
  loopP (P.b2l g) K ((0:Int),(k:Int),rp B32 a2c,(tab k w).map (rp B32),om B32 n n G,(k:Int),())=g (((k+1:Nat):Int),om B32 n n G,(tab k w).map (rp B32)++[rp B32 (d4g w (fun i=>G i k) k)],()):=by
 have key:=a0g (k:=K) (b:=P.b2l g) (n:=k) (st:=fun i=>((i:Int),(k:Int),rp B32 (d4g w (fun i=>G i k) i),(tab k w).map (rp B32),om B32 n n G,(k:Int),())) (F:=fun _=>g (((k+1:Nat):Int),om B32 n n G,(tab k w).map (rp B32)++[rp B32 (d4g w (fun i=>G i k) k)],())) (fun i g' hi hg=>by
  unfold P.b2l;dsimp only at hg ⊢;have e1:(i:Int)<(k:Int):=by omega
  have e3:(0:Int)<=(i:Int):=by omega
  have e4:(i:Int)<(n:Int):=by omega
  have e5:(0:Int)<=(k:Int):=by omega
  have e6:(k:Int)<(n:Int):=by omega
  simp only[a0v,a4w,List.length_map,a1v,Int.toNat_natCast,Nat.zero_add,c1r (show i<n by omega),c5g (show i<n by omega),b6y kn,b6y hi,a2e,a2u,e1,e3,e4,e5,e6,decide_true,if_true,Bool.false_eq_true,if_false];rw[mulo_i (hw i hi) (hG i hi),Option.bind_some];dsimp only;rw[addo_i (hd i (by omega)) (hm i hi),Option.bind_some,wr (by omega) (by omega)];exact hg) (fun g'=>by
  unfold P.b2l;dsimp only;have e1:(k+1)*56<=140737488355328:=by omega
  rw[if_neg (by simp),a2e,a2u,wr (by omega) (by omega)];simp only[List.length_map,a1v,List.length_cons,List.length_nil,Nat.zero_add,e1,decide_true,if_true,Bool.false_eq_true,if_false];rfl) (by omega)
 exact key
def redQ (a:Nat->Nat->Q3) (n:Nat):List Q3:=d3g (tab n (wF (gM n a (n - 1)) (n - 1))) (a5y (tab n (wF (gM n a (n - 1)) (n - 1))))
theorem iro_w {a:Nat->Nat->Q3} {n:Nat} (h:redOk a n) {K:Nat} (hK:n<K):∀(m k F:Nat),k+1+m=n->m<F->
  loopP (P.a9c K) F (((k+1:Nat):Int),om B32 n n (gM n a (n - 1)),(tab (k+1) (wF (gM n a (n - 1)) k)).map (rp B32),())=some ((redQ a n).map (rp B32),om B32 n n (gM n a (n - 1)),()):=by
 intro m
 induction m with
 |zero=>
  intro k F hk hF;obtain⟨F,rfl⟩:∃j,F=j+1:=⟨F - 1,by omega⟩
  rw[a0k];have hn:=h.n12;have h0:=h.s0;have hw:=h.w (n - 1) (by omega);have hs:=h.s;unfold redQ;have e:k=n - 1:=by omega
  subst e;have e2:n - 1+1=n:=by omega
  rw[e2];generalize wF (gM n a (n - 1)) (n - 1)=f at*;unfold P.a9c;dsimp only;have e3:¬(n:Int)<(n:Int):=by omega
  simp only[a0v,a4w,e3,decide_false,Bool.false_eq_true,if_false];rw[summ_i hn (fun j hj=>hw j (by omega)) hs,Option.bind_some];dsimp only;have hsp:splice ((tab n f).map (rp B32)) ((tab n f).map (rp B32)) 0=(tab n f).map (rp B32):=by
   unfold splice;simp
  rw[hsp];have ec:S.b8l ((tab n f).map (rp B32),((rp B32 (a5y (tab n f))).1,(rp B32 (a5y (tab n f))).2.1,(rp B32 (a5y (tab n f))).2.2),())=some ((d3g (tab n f) (a5y (tab n f))).map (rp B32),()):=by
   show S.b8l ((tab n f).map (rp B32),rp B32 (a5y (tab n f)),())=_;unfold S.b8l;dsimp only
   rw[if_pos ⟨tab n f,_,rfl,rfl,by rw[a1v];omega,fun q hq=>by
    obtain⟨j,hj,rfl⟩:=b7w.1 hq;exact hw j (by omega),(hs n (Nat.le_refl _)).1,(hs n (Nat.le_refl _)).2,h0⟩,a5b a0d,a2p a0d]
  rw[ec,Option.bind_some,a2e,a2u,if_neg (by decide)]
 |succ m ih=>
  intro k F hk hF;obtain⟨F,rfl⟩:∃j,F=j+1:=⟨F - 1,by omega⟩
  rw[a0k];have ih':=ih (k+1) F (by omega) (by omega);have hn:=h.n12;have hw:=h.w k (by omega);have hg:=h.g (k+1) (by omega);have hm:=h.m k (by omega);have hd:=h.d k (by omega);have et:tab (k+1+1) (wF (gM n a (n - 1)) (k+1))=tab (k+1) (wF (gM n a (n - 1)) k)++[d4g (wF (gM n a (n - 1)) k) (fun i=>gM n a (n - 1) i (k+1)) (k+1)]:=by
   rw[c0w,wF];dsimp only;rw[if_pos rfl];congr 1;apply a1p;intro i hi;rw[if_neg (by omega)]
  rw[et,List.map_append]at ih';generalize wF (gM n a (n - 1)) k=f at*;generalize gM n a (n - 1)=G at*;generalize loopP (P.a9c K) F=g' at ih' ⊢;unfold P.a9c;dsimp only;have e1:((k+1:Nat):Int)<(n:Int):=by omega
  have hz:S.a3o (0,())=some (rp B32 a2c,()):=by rfl
  simp only[a0v,a4w,e1,decide_true,if_true];rw[hz,Option.bind_some,a2e,a2u,if_neg (by decide)];have:=iro_dot (G:=G) (w:=f) (n:=n) (k:=k+1) (by omega) hn (fun i hi=>hw i (by omega)) hg hm hd g' hK;exact this.trans ih'
open Classical in
def S.c1e (x:((List ((List RB)×Nat))×Unit)):(Option ((List RB)×((List ((List RB)×Nat))×Unit))):=
 if h:∃(a:Nat->Nat->Q3) (n:Nat),x.1=om B32 n n a/\redOk a n then some ((redQ h.choose h.choose_spec.choose).map (rp B32),om B32 h.choose_spec.choose h.choose_spec.choose (gM h.choose_spec.choose h.choose (h.choose_spec.choose - 1)),())else none
theorem S.f0i (x r) (h:S.c1e x=some r):∃k,P.e0p k x=some r:=by
 obtain⟨m,u⟩:=x;unfold S.c1e at h;dsimp only at h;split at h
 case isFalse=>cases h
 rename_i hc;have hs:=hc.choose_spec.choose_spec;cases h;generalize hc.choose_spec.choose=n at*;generalize hc.choose=a at*;obtain⟨rfl,hr⟩:=hs;have n0:=hr.n0;have hn:=hr.n12;refine⟨n+1,?_⟩;unfold P.e0p;dsimp only;rw[a2e,a2u,a0v,a4w,wr (by omega) (by omega),if_neg (by decide),show(n:Int) - 1=((n - 1:Nat):Int) by omega];have h1:=iro_red hr.red (K:=n+1) (by omega) (n - 1) (n+1) (by omega) (by omega);have h2:=iro_w hr (K:=n+1) (by omega) (n - 1) 0 (n+1) (by omega) (by omega);rw[Nat.sub_self]at h1;exact h1.trans h2
theorem rest_i {a:Nat->Nat->Q3} {n:Nat} (h:redOk a n):S.c1e (om B32 n n a,())=some ((redQ a n).map (rp B32),(om B32 n n (gM n a (n - 1)),())):=by
 unfold S.c1e;have hc:∃(b:Nat->Nat->Q3) (m:Nat),(om B32 n n a,()).1=om B32 m m b/\redOk b m:=⟨a,n,rfl,h⟩
 rw[dif_pos hc];obtain⟨e,_⟩:=hc.choose_spec.choose_spec;dsimp only at e;generalize hc.choose_spec.choose=m at*;generalize hc.choose=b at*;obtain⟨e1,e2⟩:=om_inj a0d e;subst e1;have hab:∀i,i<n->∀j,j<n->b i j=a i j:=fun i hi j hj=>((e2 i hi).2 j hj).symm
 have h0:=h.n0;have hg:=f2s hab (n - 1);have hw:tab n (wF (gM n b (n - 1)) (n - 1))=tab n (wF (gM n a (n - 1)) (n - 1)):=a1p fun i hi=>e0w hg (n - 1) (by omega) i
 unfold redQ;rw[hw,b8n hg]
abbrev i_rest.A:=Int×Int×List Int×List RB×List (List RB)×Int×List (List RB×Nat)×Int×Int×List Int×List Int×Unit
abbrev i_rest.B:=Int×Int×List Int×List Int×List (List RB)×List (List RB×Nat)×Unit
abbrev i_rest.C:=Int×Int×List Int×List Int×List Int×List (List RB)×Unit
abbrev i_rest.D:=Option ((List RB×Bool)×Unit)
abbrev P.c0j (g7:i_rest.B->i_rest.D) (x10:i_rest.A) (g11:i_rest.A->i_rest.D):i_rest.D:=
 (fun(a b f i j:Int) (c l m:List Int) (d:List RB) (e:List (List RB)) (h:List (List RB×Nat))=>if decide (a<b)then if decide (0<=a)then if decide (a<(c.length:Int))then if decide (0<=f)then if decide (f<(e.length:Int))then if decide (0<=(c.getD a.toNat 0))then if decide ((c.getD a.toNat 0)<(List.length (e.getD f.toNat []):Int))then if decide (((d.length+(List.length [((List.getD (e.getD f.toNat []) (Int.toNat (c.getD a.toNat 0)) (false,[],[])).1,(List.getD (e.getD f.toNat []) (Int.toNat (c.getD a.toNat 0)) (false,[],[])).2.1,(List.getD (e.getD f.toNat []) (Int.toNat (c.getD a.toNat 0)) (false,[],[])).2.2)]))*56)<=140737488355328)then if dup (List.map (fun(y12:Nat×Nat)=>y12.1) (hd0 h))then none else g11 (wrap .i64 (a+1),b,c,d++[((List.getD (e.getD f.toNat []) (Int.toNat (c.getD a.toNat 0)) (false,[],[])).1,(List.getD (e.getD f.toNat []) (Int.toNat (c.getD a.toNat 0)) (false,[],[])).2.1,(List.getD (e.getD f.toNat []) (Int.toNat (c.getD a.toNat 0)) (false,[],[])).2.2)],e,f,nrm (hd0 h) (in0 h),i,j,l,m,())else none else none else none else none else none else none else none else if decide ((((List.length (hd0 h))+(List.length (hd0 [(d,d.length)])))*24)<=140737488355328)then if dup (List.map (fun(y13:Nat×Nat)=>y13.1) (b0t (List.length (in0 h)) (hd0 h) (hd0 [(d,d.length)])))then none else g7 (wrap .i64 (i+1),j,l,m,e,nrm (b0t (List.length (in0 h)) (hd0 h) (hd0 [(d,d.length)])) ((in0 h)++[d]),())else none) x10.1 x10.2.1 x10.2.2.2.2.2.1 x10.2.2.2.2.2.2.2.1 x10.2.2.2.2.2.2.2.2.1 x10.2.2.1 x10.2.2.2.2.2.2.2.2.2.1 x10.2.2.2.2.2.2.2.2.2.2.1 x10.2.2.2.1 x10.2.2.2.2.1 x10.2.2.2.2.2.2.1
abbrev P.c1f (x19:Int×Int×List RB×List RB×List Int×Unit) (g20:Int×Int×List RB×List RB×List Int×Unit->i_rest.D):i_rest.D:=
 (fun(a b:Int) (c d:List RB) (e:List Int)=>if decide (a<b)then if decide (0<=a)then if decide (a<(c.length:Int))then if decide (0<=a)then if decide (a<(e.length:Int))then if decide (0<=(e.getD a.toNat 0))then if decide ((e.getD a.toNat 0)<(d.length:Int))then g20 (wrap .i64 (a+1),b,c,d.set (0+(Int.toNat (e.getD a.toNat 0))) ((c.getD a.toNat (false,[],[])).1,(c.getD a.toNat (false,[],[])).2.1,(c.getD a.toNat (false,[],[])).2.2),e,())else none else none else none else none else none else none else some ((d,true),())) x19.1 x19.2.1 x19.2.2.1 x19.2.2.2.1 x19.2.2.2.2.1
abbrev P.b6w (k:Nat) (x6:i_rest.B) (g7:i_rest.B->i_rest.D):i_rest.D:=
 if decide (x6.1<x6.2.1)then if decide (0<=x6.1)then if decide (x6.1<(x6.2.2.1.length:Int))then if dup (List.map (fun(y8:Nat×Nat)=>y8.1) (hd0 x6.2.2.2.2.2.1))then none else loopP (P.c0j g7) k (0,(x6.2.2.2.1.length:Int),x6.2.2.2.1,[],x6.2.2.2.2.1,x6.2.2.1.getD x6.1.toNat 0,nrm (hd0 x6.2.2.2.2.2.1) (in0 x6.2.2.2.2.2.1),x6.1,x6.2.1,x6.2.2.1,x6.2.2.2.1,())else none else none else(S.a3o (0,())).bind fun y14=>(S.a0o ([(y14.1.1,y14.1.2.1,y14.1.2.2)],(x6.2.2.2.2.1.length:Int),())).bind fun y15=>if dup (List.map (fun(y16:Nat×Nat)=>y16.1) (hd0 x6.2.2.2.2.2.1))then none else(S.c1e (nrm (hd0 x6.2.2.2.2.2.1) (in0 x6.2.2.2.2.2.1),())).bind fun y17=>loopP P.c1f k (0,(y17.1.length:Int),y17.1,y15.1,x6.2.2.2.1,())
abbrev P.c0k (k:Nat) (x3:i_rest.C) (g4:i_rest.C->i_rest.D):i_rest.D:=
 (fun(a b:Int) (c d e:List Int) (f:List (List RB))=>if decide (a<b)then if decide (0<=a)then if decide (a<(c.length:Int))then if decide (0<(d.length:Int))then if(c.getD a.toNat 0)==(d.getD 0 0)then if decide (((e.length+(List.length [a]))*8)<=140737488355328)then g4 (wrap .i64 (a+1),b,c,d,e++[a],f,())else none else g4 (wrap .i64 (a+1),b,c,d,e,f,())else none else none else none else loopP (P.b6w k) k (0,(e.length:Int),e,e,f,nrm (hd0 ([]:List (List RB×Nat))) (in0 ([]:List (List RB×Nat))),())) x3.1 x3.2.1 x3.2.2.1 x3.2.2.2.1 x3.2.2.2.2.1 x3.2.2.2.2.2.1
def P.f9y (k:Nat) (x:List (List RB)×Unit):i_rest.D:=
 (S.b6v (x.1,())).bind fun y0=>(S.c6x (y0.1.2,())).bind fun y1=>if(y1.1.length:Int) != 1 then some (([],false),())else loopP (P.c0k k) k (0,(y0.1.1.length:Int),y0.1.1,y1.1,[],x.1,())
theorem f5d {M:List (List Q3)} (h:isM M) {k:Int} {K:Nat} (hK:12<K):
  loopP (P.c0k K) K ((0:Int),(M.length:Int),(b4x M).1,[k],([]:List Int),mp B32 M,())=loopP (P.b6w K) K ((0:Int),((fl (clC M k) M.length).length:Int),zs (fl (clC M k) M.length),zs (fl (clC M k) M.length),mp B32 M,([]:List (List (Bool×(List Int×List Int))×Nat)),()):=by
 have hn:=h.1;have hl:(b4x M).1.length=M.length:=(c0x (rcB M) M.length M.length).1;have key:=a0g (k:=K) (b:=P.c0k K) (n:=M.length) (st:=fun i=>((i:Int),(M.length:Int),(b4x M).1,[k],zs (fl (clC M k) i),mp B32 M,())) (F:=fun _=>loopP (P.b6w K) K ((0:Int),((fl (clC M k) M.length).length:Int),zs (fl (clC M k) M.length),zs (fl (clC M k) M.length),mp B32 M,([]:List (List (Bool×(List Int×List Int))×Nat)),())) (fun i g hi hg=>by
  unfold P.c0k;dsimp only at hg ⊢;have e1:(i:Int)<(M.length:Int):=by omega
  have e2:(0:Int)<=(i:Int):=by omega
  have e3:=fl_le (clC M k) i;have e4:((fl (clC M k) i).length+1)*8<=140737488355328:=by omega
  have e5:(0:Int)<((1:Nat):Int):=by decide
  simp only[hl,c4h,e1,e2,e4,e5,List.length_cons,List.length_nil,Nat.zero_add,decide_true,if_true,Int.toNat_natCast];rw[show([k]:List Int).getD 0 0=k from rfl,clC_at hi,wr (by omega) (by omega)];rw[c6c]at hg;cases hc:clC M k i
  ·rw[hc,if_neg (by decide),List.append_nil]at hg;rw[if_neg (by decide)];exact hg
  ·rw[hc,if_pos rfl,e3q]at hg;rw[if_pos rfl];exact hg) (fun g=>by
  unfold P.c0k;dsimp only;rw[if_neg (by simp),c4h];rfl) (by omega)
 exact key
theorem irs_row {M:List (List Q3)} (h:isM M) {c:Nat->Bool} {a:Nat} (ha:a<(fl c M.length).length) (g) {K:Nat} (hK:12<K):
  loopP (P.c0j g) K ((0:Int),((fl c M.length).length:Int),zs (fl c M.length),([]:List (Bool×(List Int×List Int))),mp B32 M,(((fl c M.length).getD a 0:Nat):Int),om B32 a (fl c M.length).length (d3s M c),(a:Int),((fl c M.length).length:Int),zs (fl c M.length),zs (fl c M.length),())=g (((a+1:Nat):Int),((fl c M.length).length:Int),zs (fl c M.length),zs (fl c M.length),mp B32 M,om B32 (a+1) (fl c M.length).length (d3s M c),()):=by
 have hn:=h.1;have hm:=fl_le c M.length;obtain⟨f1,f2⟩:=c4i ha;have key:=a0g (k:=K) (b:=P.c0j g) (n:=(fl c M.length).length) (st:=fun b=>((b:Int),((fl c M.length).length:Int),zs (fl c M.length),(tab b (d3s M c a)).map (rp B32),mp B32 M,(((fl c M.length).getD a 0:Nat):Int),om B32 a (fl c M.length).length (d3s M c),(a:Int),((fl c M.length).length:Int),zs (fl c M.length),zs (fl c M.length),())) (F:=fun _=>g (((a+1:Nat):Int),((fl c M.length).length:Int),zs (fl c M.length),zs (fl c M.length),mp B32 M,om B32 (a+1) (fl c M.length).length (d3s M c),())) (fun b g' hb hg=>by
  unfold P.c0j;dsimp only at hg ⊢;obtain⟨q1,q2⟩:=c4i hb;have e1:(b:Int)<((fl c M.length).length:Int):=by omega
  have e2:(0:Int)<=(b:Int):=by omega
  have e3:(0:Int)<=(((fl c M.length).getD a 0:Nat):Int):=by omega
  have e4:(((fl c M.length).getD a 0:Nat):Int)<(M.length:Int):=by omega
  have e5:(0:Int)<=(((fl c M.length).getD b 0:Nat):Int):=by omega
  have e6:(((fl c M.length).getD b 0:Nat):Int)<(M.length:Int):=by omega
  have e7:(b+1)*56<=140737488355328:=by omega
  have e8:((mp B32 M).getD ((fl c M.length).getD a 0) []).getD ((fl c M.length).getD b 0) (false,(([]:List Int),([]:List Int)))=rp B32 (d3s M c a b):=g0z h f1 q1;simp only[c4h,d0y,Int.toNat_natCast,a8a,g1a h f1,List.length_map,a1v,List.length_cons,List.length_nil,Nat.zero_add,a2e,a2u,e1,e2,e3,e4,e5,e6,e7,e8,decide_true,if_true,Bool.false_eq_true,if_false];rw[wr (by omega) (by omega)];rw[<-c5h]at hg;exact hg) (fun g'=>by
  unfold P.c0j;dsimp only;have e1:(a+1)*24<=140737488355328:=by omega
  have e2:= @om_app B32 a (fl c M.length).length (d3s M c);rw[if_neg (by simp),wr (by omega) (by omega)];simp only[a0v,a4w,List.length_map,a1v,List.length_cons,List.length_nil,Nat.zero_add,e1,e2.1,e2.2,decide_true,if_true,Bool.false_eq_true,if_false];rfl) (by omega)
 exact key
theorem irs_rep {n:Nat} (h:n<=12):S.a0o ([((rp B32 a2c).1,(rp B32 a2c).2.1,(rp B32 a2c).2.2)],(n:Int),())=some (List.replicate n (rp B32 a2c),()):=by
 unfold S.a0o;dsimp only;rw[if_pos ⟨rfl,by omega,by omega⟩,Int.toNat_natCast];rfl
open Classical in
def S.d7l (x:((List (List RB))×Unit)):(Option (((List RB)×Bool)×Unit)):=if ∃M,b9b M/\x.1=mp B32 M then some (((b2m (mv B32 x.1)).1.map (rp B32),(b2m (mv B32 x.1)).2),())else none
theorem S.f9z (x r) (h:S.d7l x=some r):∃k,P.f9y k x=some r:=by
 obtain⟨m,u⟩:=x;unfold S.d7l at h;dsimp only at h;split at h
 case isFalse=>cases h
 rename_i hc;obtain⟨M,hM,rfl⟩:=hc;cases h;rw[b6m (by decide)];have hI:=hM.2.1;have hn:=hI.1;have hl:=c0x (rcB M) M.length M.length;refine⟨13,?_⟩;unfold P.f9y;dsimp only;have ec:S.b6v (mp B32 M,())=some (b4x M,()):=by
  unfold S.b6v;dsimp only;rw[if_pos ⟨M,hI,rfl⟩,b6m (by decide)]
 have es:S.c6x ((b4x M).2,())=some (a5w 0 (b4x M).2,()):=by
  unfold S.c6x;dsimp only;rw[if_pos (by have:=hl.2;unfold b4x clsQ;omega)]
 rw[ec,Option.bind_some,es,Option.bind_some];dsimp only
 by_cases h1:(a5w 0 (b4x M).2).length=1
 case neg=>
  rw[if_pos (by simpa using(show ¬((a5w 0 (b4x M).2).length:Int)=1 by omega)),c7e h1];rfl
 rw[if_neg (by simpa using(show((a5w 0 (b4x M).2).length:Int)=1 by omega))];obtain⟨k,hk⟩:=f0p h1;rw[d3t hk,hk];have hcl:(b4x M).1.length=M.length:=hl.1;rw[hcl,f5d hI (by decide)];obtain⟨m0,m12,mi,_⟩:=f2q hM hk;obtain⟨D,hD⟩:=f2r hM (clC M k);have hro:=g5l m0 m12 rfl hD mi;have key:=a0g (k:=13) (b:=P.b6w 13) (n:=(fl (clC M k) M.length).length) (st:=fun a=>((a:Int),((fl (clC M k) M.length).length:Int),zs (fl (clC M k) M.length),zs (fl (clC M k) M.length),mp B32 M,om B32 a (fl (clC M k) M.length).length (d3s M (clC M k)),())) (F:=fun _=>some (((tab M.length (b2z M (clC M k))).map (rp B32),true),())) (fun a g ha hg=>by
  unfold P.b6w;dsimp only at hg ⊢;have e1:(a:Int)<((fl (clC M k) M.length).length:Int):=by omega
  have e2:(0:Int)<=(a:Int):=by omega
  simp only[c4h,d0y,Int.toNat_natCast,a2e,a2u,e1,e2,decide_true,if_true,Bool.false_eq_true,if_false];rw[irs_row hI ha g (by decide)];exact hg) (fun g=>by
  unfold P.b6w;dsimp only;have hz:S.a3o (0,())=some (rp B32 a2c,()):=by rfl
  rw[if_neg (by simp),hz,Option.bind_some];dsimp only;rw[a8a,irs_rep hn,Option.bind_some];simp only[a2e,a2u,Bool.false_eq_true,if_false];rw[rest_i hro,Option.bind_some];dsimp only;have er:redQ (d3s M (clC M k)) (fl (clC M k) M.length).length=tab (fl (clC M k) M.length).length fun a=>a2s (wC M (clC M k) a) (a5y (tab (fl (clC M k) M.length).length (wC M (clC M k)))):=by
   unfold redQ d3g;rw[b9y];rfl
  rw[er,List.length_map,a1v,tab_rep,show(tab M.length fun _=>rp B32 a2c)=(f5t M.length (clC M k) (fun a=>a2s (wC M (clC M k) a) (a5y (tab (fl (clC M k) M.length).length (wC M (clC M k))))) (fun _=>a2c) 0).map (rp B32) by rw[g1c,b9y]];have key2:=a0g (k:=13) (b:=P.c1f) (n:=(fl (clC M k) M.length).length) (st:=fun a=>((a:Int),((fl (clC M k) M.length).length:Int),(tab (fl (clC M k) M.length).length fun a=>a2s (wC M (clC M k) a) (a5y (tab (fl (clC M k) M.length).length (wC M (clC M k))))).map (rp B32),(f5t M.length (clC M k) (fun a=>a2s (wC M (clC M k) a) (a5y (tab (fl (clC M k) M.length).length (wC M (clC M k))))) (fun _=>a2c) a).map (rp B32),zs (fl (clC M k) M.length),())) (F:=fun _=>some (((tab M.length (b2z M (clC M k))).map (rp B32),true),())) (fun a g' ha hg=>by
   unfold P.c1f;dsimp only at hg ⊢;obtain⟨q1,q2⟩:=c4i ha;have e1:(a:Int)<((fl (clC M k) M.length).length:Int):=by omega
   have e2:(0:Int)<=(a:Int):=by omega
   have e5:(0:Int)<=(((fl (clC M k) M.length).getD a 0:Nat):Int):=by omega
   have e6:(((fl (clC M k) M.length).getD a 0:Nat):Int)<(M.length:Int):=by omega
   simp only[c4h,d0y,Int.toNat_natCast,List.length_map,a1v,puts_len,b6y ha,Nat.zero_add,e1,e2,e5,e6,decide_true,if_true];rw[wr (by omega) (by omega)];rw[<-puts_set ha]at hg;exact hg) (fun g'=>by
   unfold P.c1f;dsimp only;rw[if_neg (by simp),puts_all];rfl) (by omega)
  exact key2) (by omega)
 exact key
def P.b3o (k:Nat) (x:List (List ByteArray)×List ByteArray×Int×Unit):Option ((ByteArray×Bool)×Unit):=
 (S.a7k (x.1,x.2.1,())).bind fun y0=>if !y0.1.2.2 then some ((bs [],false),())else(S.i_in (x.2.2.1,0,40,())).bind fun y1=>if !y1.1 then some ((bs [],false),())else(S.d7l (y0.1.1,())).bind fun y2=>if !y2.1.2 then some ((bs [],false),())else(S.c6w (y0.1.1,y0.1.2.1,x.2.2.1,())).bind fun y3=>(S.b3z (y3.1,y2.1.1,())).bind fun y4=>(S.d1h ((y4.1.1,y4.1.2.1,y4.1.2.2),())).bind fun y5=>some ((y5.1.1,y5.1.2),())
def S.a7l (x:((List (List ByteArray))×((List ByteArray)×(Int×Unit)))):(Option ((ByteArray×Bool)×Unit)):=P.b3o 0 x
theorem S.c8w (x r) (h:S.a7l x=some r):∃k,P.b3o k x=some r:=⟨0,h⟩
def P.a3t (k:Nat) (x:List (List ByteArray)×List ByteArray×Int×Unit):Option (Bool×Unit):=
 (S.b9e (x.1,1000000,())).bind fun y0=>if decide (y0.1<0)then some (true,())else(S.a5m (x.2.1,y0.1,())).bind fun y1=>if decide (y1.1<0)then some (true,())else(S.b1w (x.1,false,())).bind fun y2=>(S.a2l (x.2.1,false,())).bind fun y3=>(S.a9r (List.map (fun(y4:List ByteArray×Nat)=>List.map (fun(y5:ByteArray)=>y5) (List.take y4.2 y4.1)) (List.take y2.1.2 y2.1.1),List.take y3.1.2 y3.1.1,x.2.2.1,())).bind fun y6=>(S.b1w (x.1,false,())).bind fun y7=>(S.a2l (x.2.1,false,())).bind fun y8=>(S.a7l (List.map (fun(y9:List ByteArray×Nat)=>List.map (fun(y10:ByteArray)=>y10) (List.take y9.2 y9.1)) (List.take y7.1.2 y7.1.1),List.take y8.1.2 y8.1.1,x.2.2.1,())).bind fun y11=>if ! ((ByteArray.toList y11.1.1)==(ByteArray.toList y6.1.1))then some (false,())else if ! (y11.1.2==y6.1.2)then some (false,())else(S.b1w (x.1,false,())).bind fun y12=>(S.a9j ((y7.1.1,y7.1.2),(y12.1.1,y12.1.2),())).bind fun y13=>if !y13.1 then some (false,())else(S.a2l (x.2.1,false,())).bind fun y14=>(S.a4y ((y8.1.1,y8.1.2),(y14.1.1,y14.1.2),())).bind fun y15=>if !y15.1 then some (false,())else(S.b1w (x.1,true,())).bind fun y16=>(S.a2l (x.2.1,true,())).bind fun y17=>(S.a7l (List.map (fun(y18:List ByteArray×Nat)=>List.map (fun(y19:ByteArray)=>y19) (List.take y18.2 y18.1)) (List.take y16.1.2 y16.1.1),List.take y17.1.2 y17.1.1,x.2.2.1,())).bind fun y20=>if ! ((ByteArray.toList y20.1.1)==(ByteArray.toList y6.1.1))then some (false,())else if ! (y20.1.2==y6.1.2)then some (false,())else some (true,())
def S.a7s (x:((List (List ByteArray))×((List ByteArray)×(Int×Unit)))):(Option (Bool×Unit)):=P.a3t 0 x
theorem S.b8m (x r) (h:S.a7s x=some r):∃k,P.a3t k x=some r:=⟨0,h⟩
end Go.Cm
end
