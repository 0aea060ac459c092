import Derived.Test.YtdpljomfkoojnaaGreatDoorPlReverseChainc
set_option linter.unusedVariables false
set_option maxRecDepth 100000
noncomputable section
namespace Go.Cm
open IntKind (wrap)
def P.d0w (k:Nat) (x:RB×RB×Unit):Option (RB×Unit):=
 (S.a0u ((x.1.1,x.1.2.1,x.1.2.2),())).bind fun y0=>if y0.1==0 then some ((x.2.1.1,x.2.1.2.1,x.2.1.2.2),())else(S.a0u ((x.2.1.1,x.2.1.2.1,x.2.1.2.2),())).bind fun y1=>if y1.1==0 then some ((x.1.1,x.1.2.1,x.1.2.2),())else(S.a1k (x.1.2.2,x.2.1.2.2,())).bind fun y2=>if y2.1 != 0 then(S.a2s (x.1.2.1,x.2.1.2.2,())).bind fun y3=>(S.a2s (x.2.1.2.1,x.1.2.2,())).bind fun y4=>(S.a2s (x.1.2.2,x.2.1.2.2,())).bind fun y5=>if x.1.1==x.2.1.1 then(S.b0b (y3.1,y4.1,())).bind fun y6=>(S.a5m (x.1.1,y6.1,y5.1,())).bind fun y7=>some ((y7.1.1,y7.1.2.1,y7.1.2.2),())else(S.a1k (y3.1,y4.1,())).bind fun y8=>if decide (y8.1>=0)then(S.b0d (y3.1,y4.1,())).bind fun y9=>(S.a5m (x.1.1,y9.1,y5.1,())).bind fun y10=>some ((y10.1.1,y10.1.2.1,y10.1.2.2),())else(S.b0d (y4.1,y3.1,())).bind fun y11=>(S.a5m (x.2.1.1,y11.1,y5.1,())).bind fun y12=>some ((y12.1.1,y12.1.2.1,y12.1.2.2),())else if x.1.1==x.2.1.1 then(S.b0b (x.1.2.1,x.2.1.2.1,())).bind fun y13=>(S.a5m (x.1.1,y13.1,x.1.2.2,())).bind fun y14=>some ((y14.1.1,y14.1.2.1,y14.1.2.2),())else(S.a1k (x.1.2.1,x.2.1.2.1,())).bind fun y15=>if decide (y15.1>=0)then(S.b0d (x.1.2.1,x.2.1.2.1,())).bind fun y16=>(S.a5m (x.1.1,y16.1,x.1.2.2,())).bind fun y17=>some ((y17.1.1,y17.1.2.1,y17.1.2.2),())else(S.b0d (x.2.1.2.1,x.1.2.1,())).bind fun y18=>(S.a5m (x.2.1.1,y18.1,x.1.2.2,())).bind fun y19=>some ((y19.1.1,y19.1.2.1,y19.1.2.2),())
theorem f8b (p q:Nat) (hp:(nd B32 p).length<=100000000) (hq:(nd B32 q).length<=100000000):S.a2s (nd B32 p,(nd B32 q,()))=some (nd B32 (p*q),()):=by
 unfold S.a2s;dsimp only;rw[if_pos ⟨a3z a0e _,a3z a0e _,by omega,by omega⟩,a0i a0e,a0i a0e]
theorem g7i (p q:Nat) (hp:(nd B32 p).length<=100000000) (hq:(nd B32 q).length<=100000000):S.b0b (nd B32 p,(nd B32 q,()))=some (nd B32 (p+q),()):=by
 unfold S.b0b;dsimp only;rw[if_pos ⟨a3z a0e _,a3z a0e _,by omega,by omega⟩,a0i a0e,a0i a0e]
theorem f2n (p q:Nat) (hp:(nd B32 p).length<=100000000) (h:q<=p):S.b0d (nd B32 p,(nd B32 q,()))=some (nd B32 (p - q),()):=by
 unfold S.b0d;dsimp only;rw[a0i a0e,a0i a0e,if_pos ⟨a3z a0e _,a3z a0e _,a6n a0e h,h,by omega⟩]
theorem f8c (p q:Nat) (hp:(nd B32 p).length<=100000000):S.a1k (nd B32 p,(nd B32 q,()))=some (b1d p q,()):=by
 unfold S.a1k;dsimp only;rw[if_pos ⟨a0m a0e _,a0m a0e _,by omega⟩,a0i a0e,a0i a0e]
theorem d7f (n:Bool) (p q:Nat) (hp:(nd B32 p).length<=100000000) (hq:(nd B32 q).length<=100000000) (h0:q≠0):S.a5m (n,(nd B32 p,(nd B32 q,())))=some (rp B32 (c1f n p q),()):=by
 unfold S.a5m;dsimp only;rw[if_pos ⟨a0m a0e _,a0m a0e _,f5a a0e h0,by omega,by omega⟩,a0i a0e,a0i a0e]
theorem f8d (n:Bool) (p:Nat) (bs:List Int):S.a0u ((n,(nd B32 p,bs)),())=some (d7n n p,()):=by
 unfold S.a0u;dsimp only;rw[if_pos (a0m a0e _),a0i a0e]
def S.a3m (x:(RB×(RB×Unit))):(Option (RB×Unit)):=if c4b B32 40000000 x.1=true/\c4b B32 40000000 x.2.1=true then some (rp B32 (b6j (rv B32 x.1) (rv B32 x.2.1)),())else none
theorem S.e3w (x r) (h:S.a3m x=some r):∃k,P.d0w k x=some r:=by
 obtain⟨x,y,u⟩:=x;unfold S.a3m at h;dsimp only at h;split at h
 case isFalse=>cases h
 rename_i hc;obtain⟨hx,hy⟩:=hc;cases h;rw[a8f]at hx hy;obtain⟨hx,lx⟩:=hx;obtain⟨hy,ly⟩:=hy;obtain⟨n1,p1,q1,rfl,x1,x2⟩:=b2p hx;obtain⟨n2,p2,q2,rfl,y1,y2⟩:=b2p hy;rw[b9v a0e]at lx ly ⊢;rw[b9v a0e];have hq1:q1≠0:=by have:0<q1:=lx.1;omega
 have hq2:q2≠0:=by have:0<q2:=ly.1;omega
 refine⟨0,?_⟩;unfold P.d0w;dsimp only;rw[f8d,Option.bind_some];dsimp only
 by_cases h1:p1=0
 ·rw[if_pos (by simpa using a7s.2 h1),d5l _ _ lx ly h1];rfl
 ·rw[if_neg (by simpa using fun q=>h1 (a7s.1 q)),f8d,Option.bind_some];dsimp only
  by_cases h2:p2=0
  ·rw[if_pos (by simpa using a7s.2 h2),d1m _ _ lx ly h2];rfl
  ·rw[if_neg (by simpa using fun q=>h2 (a7s.1 q)),f8c q1 q2 (by omega),Option.bind_some];dsimp only;have m1:=a4w a0e p1 q2;have m2:=a4w a0e p2 q1;have m3:=a4w a0e q1 q2
   by_cases hq:q1=q2
   ·rw[if_neg (by simpa using a4v.2 hq),f9d _ _ lx hq];dsimp only;have a1:=c6l a0e p1 p2;have a2:=b4h a0e p1 p2;have a3:=b4h a0e p2 p1
    by_cases hn:n1=n2
    ·rw[if_pos (by simpa using hn),if_pos hn,g7i p1 p2 (by omega) (by omega),Option.bind_some,d7f n1 _ q1 (by omega) (by omega) hq1,Option.bind_some]
    ·rw[if_neg (by simpa using hn),if_neg hn,f8c p1 p2 (by omega),Option.bind_some];dsimp only;have hlt:=c2j (a:=p1) (b:=p2)
     by_cases hle:p2<=p1
     ·have hge:b1d p1 p2>=0:=by omega
      rw[if_pos (decide_eq_true hge),if_pos hle,f2n p1 p2 (by omega) hle,Option.bind_some,d7f n1 _ q1 (by omega) (by omega) hq1,Option.bind_some]
     ·have hge:¬b1d p1 p2>=0:=by omega
      rw[if_neg (by simpa using hge),if_neg hle,f2n p2 p1 (by omega) (by omega),Option.bind_some,d7f n2 _ q1 (by omega) (by omega) hq1,Option.bind_some]
   ·have hq0:q1*q2≠0:=Nat.mul_ne_zero hq1 hq2;rw[if_pos (by simpa using fun q=>hq (a4v.1 q)),f8b p1 q2 (by omega) (by omega),Option.bind_some,f8b p2 q1 (by omega) (by omega),Option.bind_some,f8b q1 q2 (by omega) (by omega),Option.bind_some];dsimp only;unfold b6j;dsimp only;have a1:=c6l a0e (p1*q2) (p2*q1);have a2:=b4h a0e (p1*q2) (p2*q1);have a3:=b4h a0e (p2*q1) (p1*q2)
    by_cases hn:n1=n2
    ·rw[if_pos (by simpa using hn),if_pos hn,g7i _ _ (by omega) (by omega),Option.bind_some,d7f n1 _ _ (by omega) (by omega) hq0,Option.bind_some]
    ·rw[if_neg (by simpa using hn),if_neg hn,f8c _ _ (by omega),Option.bind_some];dsimp only;have hlt:=c2j (a:=p1*q2) (b:=p2*q1)
     by_cases hle:p2*q1<=p1*q2
     ·have hge:b1d (p1*q2) (p2*q1)>=0:=by
       rcases Int.lt_or_le (b1d (p1*q2) (p2*q1)) 0 with g|g
       ·have:=hlt.1 g;omega
       ·exact g
      rw[if_pos (decide_eq_true hge),if_pos hle,f2n _ _ (by omega) hle,Option.bind_some,d7f n1 _ _ (by omega) (by omega) hq0,Option.bind_some]
     ·have hge:¬b1d (p1*q2) (p2*q1)>=0:=by
       have:=hlt.2 (Nat.lt_of_not_le hle);omega
      rw[if_neg (by simpa using hge),if_neg hle,f2n _ _ (by omega) (Nat.le_of_lt (Nat.lt_of_not_le hle)),Option.bind_some,d7f n2 _ _ (by omega) (by omega) hq0,Option.bind_some]
abbrev P.c9r (x2:Int×Int×List RB×RB×RB×Unit) (g3:Int×Int×List RB×RB×RB×Unit->Option (RB×Unit)):Option (RB×Unit):=
 if decide (x2.1<x2.2.1)then if decide (0<=x2.1)then if decide (x2.1<(x2.2.2.1.length:Int))then(S.a3m ((x2.2.2.2.1.1,x2.2.2.2.1.2.1,x2.2.2.2.1.2.2),((x2.2.2.1.getD x2.1.toNat (false,[],[])).1,(x2.2.2.1.getD x2.1.toNat (false,[],[])).2.1,(x2.2.2.1.getD x2.1.toNat (false,[],[])).2.2),())).bind fun y4=>g3 (wrap .i64 (x2.1+1),x2.2.1,x2.2.2.1,(y4.1.1,y4.1.2.1,y4.1.2.2),(x2.2.2.2.2.1.1,x2.2.2.2.2.1.2.1,x2.2.2.2.2.1.2.2),())else none else none else some ((x2.2.2.2.1.1,x2.2.2.2.1.2.1,x2.2.2.2.1.2.2),())
def P.g9k (k:Nat) (x:List RB×Unit):Option (RB×Unit):=
 (S.a4q (0,())).bind fun y0=>loopP P.c9r k (0,(x.1.length:Int),x.1,(y0.1.1,y0.1.2.1,y0.1.2.2),(false,[],[]),())
open Classical in
def S.f4l (x:((List RB)×Unit)):(Option (RB×Unit)):=if g4r B32 x.1 then some (rp B32 (a8g (x.1.map (rv B32))),())else none
theorem f8e (a b:Q3) (ha:c4b B32 40000000 (rp B32 a)=true) (hb:c4b B32 40000000 (rp B32 b)=true):S.a3m (rp B32 a,(rp B32 b,()))=some (rp B32 (b6j a b),()):=by
 unfold S.a3m;dsimp only;rw[if_pos ⟨ha,hb⟩,a4t a0e,a4t a0e]
theorem S.g3w (x r) (h:S.f4l x=some r):∃k,P.g9k k x=some r:=by
 obtain⟨xs,u⟩:=x;unfold S.f4l at h;dsimp only at h;split at h
 case isFalse=>cases h
 rename_i hc;obtain⟨qs,rfl,hlen,hq,hg⟩:=hc;cases h;refine⟨qs.length+1,?_⟩;unfold P.g9k;have hz:S.a4q (0,())=some (rp B32 a3f,()):=by rfl
 dsimp only;rw[hz,Option.bind_some,b3i a0e,List.length_map];have key:=a0f (k:=qs.length+1) (b:=P.c9r) (n:=qs.length) (st:=fun i=>((i:Int),(qs.length:Int),qs.map (rp B32),rp B32 (a8g (qs.take i)),(false,(([]:List Int),([]:List Int))),())) (F:=fun i=>some (rp B32 (a8g qs),())) (fun i g hi hg'=>by
  unfold P.c9r;dsimp only at hg' ⊢;have e1:(i:Int)<(qs.length:Int):=by omega
  have e2:(0:Int)<=(i:Int):=by omega
  have e3:(i:Int)<((qs.map (rp B32)).length:Int):=by rw[List.length_map];omega
  rw[if_pos (decide_eq_true e1),if_pos (decide_eq_true e2),if_pos (decide_eq_true e3),a0n (qs.map (rp B32)) i _ (by rw[List.length_map];exact hi),List.getElem_map];have ea:=f8e (a8g (qs.take i)) qs[i] (a4m (by decide) (hg i).1 (hg i).2 (by decide)) (a4m (by decide) (hq _ (List.getElem_mem hi)).1 (hq _ (List.getElem_mem hi)).2 (by decide));rw[d1p hi]at ea;show Option.bind (S.a3m (rp B32 (a8g (qs.take i)),(rp B32 qs[i],()))) _=_;rw[ea,Option.bind_some,wr (by omega) (by omega)];exact hg') (fun g=>by
  unfold P.c9r;dsimp only;rw[if_neg (by simp),List.take_length]) (by omega)
 exact key
def P.d0x (k:Nat) (x:RB×Unit):Option (Bool×Unit):=
 (S.a0u ((x.1.1,x.1.2.1,x.1.2.2),())).bind fun y0=>some (decide (y0.1<0),())
def S.b4s (x:(RB×Unit)):(Option (Bool×Unit)):=if c4b B32 40000000 x.1=true then some (x.1.1,())else none
theorem S.e3x (x r) (h:S.b4s x=some r):∃k,P.d0x k x=some r:=by
 obtain⟨x,u⟩:=x;unfold S.b4s at h;dsimp only at h;split at h
 case isFalse=>cases h
 rename_i hc;obtain⟨hr,hl⟩:=a8f.1 hc;obtain⟨n,p,q,rfl,l1,l2⟩:=b2p hr;rw[b9v a0e]at hl;cases h;refine⟨0,?_⟩;unfold P.d0x S.a0u;dsimp only;rw[if_pos (a0m a0e _),a0i a0e,Option.bind_some];dsimp only;have h2:=hl.2.1;dsimp only at h2;unfold d7n;cases n
 ·by_cases hp:p=0
  ·rw[if_pos hp];rfl
  ·rw[if_neg hp];rfl
 ·rw[if_neg (h2 rfl)];rfl
abbrev P.a1v (x1:Int×Int×Unit×List RB×Unit) (g2:Int×Int×Unit×List RB×Unit->Option (Int×Unit)):Option (Int×Unit):=
 if decide (x1.1<x1.2.1)then if decide (0<=x1.1)then if decide (x1.1<(x1.2.2.2.1.length:Int))then(S.b4s (((x1.2.2.2.1.getD x1.1.toNat (false,[],[])).1,(x1.2.2.2.1.getD x1.1.toNat (false,[],[])).2.1,(x1.2.2.2.1.getD x1.1.toNat (false,[],[])).2.2),())).bind fun y3=>if y3.1 then some (x1.1,())else g2 (wrap .i64 (x1.1+1),x1.2.1,(),x1.2.2.2.1,())else none else none else some ((-1:Int),())
def P.a3i (k:Nat) (x:List RB×Unit×Unit):Option (Int×Unit):=
 loopP P.a1v k (0,(x.1.length:Int),(),x.1,())
open Classical in
def S.a1p (x:((List RB)×(Unit×Unit))):(Option (Int×Unit)):=if e9s B32 x.1 then some (ixM x.1,())else none
theorem S.b0p (x r) (h:S.a1p x=some r):∃k,P.a3i k x=some r:=by
 obtain⟨xs,u,u'⟩:=x;unfold S.a1p at h;dsimp only at h;split at h
 case isFalse=>cases h
 rename_i hc;obtain⟨qs,n,rfl,hg⟩:=hc;cases h;have hlen:=c9x hg;refine⟨qs.length+1,?_⟩;unfold P.a3i;dsimp only;have hm:∀i (hi:i<qs.length),S.b4s (rp B32 qs[i],())=some (qs[i].1,()):=by
  intro i hi;unfold S.b4s;dsimp only;rw[if_pos (f2y (by decide) hg hi)];rfl
 have key:=a0f (k:=qs.length+1) (b:=P.a1v) (n:=qs.length) (st:=fun i=>((i:Int),(qs.length:Int),(),qs.map (rp B32),())) (F:=fun i=>some (if ixM ((qs.drop i).map (rp B32))<0 then -1 else ixM ((qs.drop i).map (rp B32))+i,())) (fun i g hi hg'=>by
  unfold P.a1v;dsimp only at hg' ⊢;have e1:(i:Int)<(qs.length:Int):=by omega
  have e2:(0:Int)<=(i:Int):=by omega
  have e3:(i:Int)<((qs.map (rp B32)).length:Int):=by rw[List.length_map];omega
  rw[if_pos (decide_eq_true e1),if_pos (decide_eq_true e2),if_pos (decide_eq_true e3),a0n (qs.map (rp B32)) i _ (by rw[List.length_map];exact hi),List.getElem_map];show Option.bind (S.b4s (rp B32 qs[i],())) _=_;rw[hm i hi,Option.bind_some,List.drop_eq_getElem_cons hi,List.map_cons,d9y];dsimp only;rw[show(rp B32 qs[i]).1=qs[i].1 from rfl];cases hf:qs[i].1
  ·simp only[Bool.false_eq_true,if_false];rw[wr (by omega) (by omega)];refine hg'.trans ?_;congr 2;split
   ·rfl
   ·rw[if_neg (by omega)];omega
  ·simp) (fun g=>by
  unfold P.a1v;dsimp only;rw[if_neg (by simp),List.drop_length];rfl) (by omega)
 rw[List.length_map];refine key.trans ?_;rw[List.drop_zero];congr 2;have hr: -1<=ixM (qs.map (rp B32)):=by
  generalize qs.map (rp B32)=zs
  induction zs with
  |nil=>decide
  |cons z zs ih=>
   rw[d9y];split
   ·omega
   ·split<;>omega
 split<;>omega
def P.a2q (k:Nat) (x:List RB×Unit×Unit):Option (Bool×Unit):=
 (S.a1p (x.1,(),())).bind fun y0=>some (decide (y0.1>=0),())
open Classical in
def S.a0t (x:((List RB)×(Unit×Unit))):(Option (Bool×Unit)):=if e9s B32 x.1 then some (x.1.any fun r=>r.1,())else none
theorem S.a8k (x r) (h:S.a0t x=some r):∃k,P.a2q k x=some r:=by
 obtain⟨xs,u,u'⟩:=x;unfold S.a0t at h;dsimp only at h;split at h
 case isFalse=>cases h
 rename_i hc;cases h;refine⟨0,?_⟩;unfold P.a2q S.a1p;dsimp only;rw[if_pos hc,Option.bind_some,<-h0h]
def P.d0y (k:Nat) (x:RB×Unit):Option (Bool×Unit):=
 (S.a0u ((x.1.1,x.1.2.1,x.1.2.2),())).bind fun y0=>some (decide (y0.1<=0),())
def S.b4t (x:(RB×Unit)):(Option (Bool×Unit)):=if rok B32 40000000 x.1=true then some (!e8k (rv B32 x.1),())else none
theorem S.e3y (x r) (h:S.b4t x=some r):∃k,P.d0y k x=some r:=by
 obtain⟨y,u⟩:=x;unfold S.b4t at h;dsimp only at h;split at h
 case isFalse=>cases h
 rename_i hc;cases h;obtain⟨n,p,q,rfl,_,_⟩:=b2p hc;refine⟨0,?_⟩;unfold P.d0y;dsimp only;have hs:S.a0u ((n,(nd B32 p,nd B32 q)),())=some (d7n n p,()):=by
  unfold S.a0u;dsimp only;rw[if_pos (a0m a0e _),a0i a0e]
 rw[hs,Option.bind_some,b9v a0e];dsimp only;rw[<-f9o]
abbrev P.a1u (x1:Int×Int×Unit×List RB×Unit) (g2:Int×Int×Unit×List RB×Unit->Option (Int×Unit)):Option (Int×Unit):=
 if decide (x1.1<x1.2.1)then if decide (0<=x1.1)then if decide (x1.1<(x1.2.2.2.1.length:Int))then(S.b4t (((x1.2.2.2.1.getD x1.1.toNat (false,[],[])).1,(x1.2.2.2.1.getD x1.1.toNat (false,[],[])).2.1,(x1.2.2.2.1.getD x1.1.toNat (false,[],[])).2.2),())).bind fun y3=>if y3.1 then some (x1.1,())else g2 (wrap .i64 (x1.1+1),x1.2.1,(),x1.2.2.2.1,())else none else none else some ((-1:Int),())
def P.a3a (k:Nat) (x:List RB×Unit×Unit):Option (Int×Unit):=
 loopP P.a1u k (0,(x.1.length:Int),(),x.1,())
open Classical in
def S.a1i (x:((List RB)×(Unit×Unit))):(Option (Int×Unit)):=if e9s B32 x.1 then some (ixF (fun r=> !e8k r) (x.1.map (rv B32)),())else none
theorem S.a9r (x r) (h:S.a1i x=some r):∃k,P.a3a k x=some r:=by
 obtain⟨xs,u,u'⟩:=x;unfold S.a1i at h;dsimp only at h;split at h
 case isFalse=>cases h
 rename_i hc;cases h;obtain⟨qs,n,rfl,hg⟩:=hc;have hlen:=c9x hg;refine⟨qs.length+1,?_⟩;unfold P.a3a;dsimp only;have hm:∀i (hi:i<qs.length),S.b4t (rp B32 qs[i],())=some (!e8k qs[i],()):=by
  intro i hi;unfold S.b4t;dsimp only;rw[if_pos (a8f.1 (f2y (by decide) hg hi)).1,a4t a0e]
 have key:=a0f (k:=qs.length+1) (b:=P.a1u) (n:=qs.length) (st:=fun i=>((i:Int),(qs.length:Int),(),qs.map (rp B32),())) (F:=fun i=>some (if ixF (fun r=> !e8k r) (qs.drop i)<0 then -1 else ixF (fun r=> !e8k r) (qs.drop i)+i,())) (fun i g hi hg'=>by
  unfold P.a1u;dsimp only at hg' ⊢;have e1:(i:Int)<(qs.length:Int):=by omega
  have e2:(0:Int)<=(i:Int):=by omega
  have e3:(i:Int)<((qs.map (rp B32)).length:Int):=by rw[List.length_map];omega
  rw[if_pos (decide_eq_true e1),if_pos (decide_eq_true e2),if_pos (decide_eq_true e3),a0n (qs.map (rp B32)) i _ (by rw[List.length_map];exact hi),List.getElem_map];show Option.bind (S.b4t (rp B32 qs[i],())) _=_;rw[hm i hi,Option.bind_some,List.drop_eq_getElem_cons hi,d9z];dsimp only;cases hf: !e8k qs[i]
  ·simp only[Bool.false_eq_true,if_false];rw[wr (by omega) (by omega)];refine hg'.trans ?_;congr 2;have:=g7w (fun r=> !e8k r) (qs.drop (i+1));split
   ·rfl
   ·rw[if_neg (by omega)];omega
  ·simp) (fun g=>by
  unfold P.a1u;dsimp only;rw[if_neg (by simp),List.drop_length];rfl) (by omega)
 rw[List.length_map,b3i a0e];refine key.trans ?_;rw[List.drop_zero];congr 2;have hr:=g7w (fun r=> !e8k r) qs;split<;>omega
def P.a2n (k:Nat) (x:List RB×Unit×Unit):Option (Bool×Unit):=
 (S.a1i (x.1,(),())).bind fun y0=>some (decide (y0.1>=0),())
open Classical in
def S.a2o (x:((List RB)×(Unit×Unit))):(Option (Bool×Unit)):=if e9s B32 x.1 then some (!f9n (x.1.map (rv B32)),())else none
theorem S.a7p (x r) (h:S.a2o x=some r):∃k,P.a2n k x=some r:=by
 obtain⟨xs,u,u'⟩:=x;unfold S.a2o at h;dsimp only at h;split at h
 case isFalse=>cases h
 rename_i hc;cases h;refine⟨0,?_⟩;unfold P.a2n S.a1i;dsimp only;rw[if_pos hc,Option.bind_some,<-f5d,<-h0i]
def P.c2g (k:Nat) (x:List ByteArray×Unit):Option ((List RB×Bool)×Unit):=
 (S.e7d (x.1,())).bind fun y0=>if !y0.1.2 then some (([],false),())else(S.a0t (y0.1.1,(),())).bind fun y1=>if y1.1 then some (([],false),())else(S.f4l (y0.1.1,())).bind fun y2=>(S.a8o ((y2.1.1,y2.1.2.1,y2.1.2.2),())).bind fun y3=>if !y3.1 then some (([],false),())else some ((y0.1.1,true),())
def S.b0z (x:((List ByteArray)×Unit)):(Option (((List RB)×Bool)×Unit)):=if okT x.1=true then some (((c1p x.1).1.map (rp B32),(c1p x.1).2),())else none
theorem S.d5g (x r) (h:S.b0z x=some r):∃k,P.c2g k x=some r:=by
 obtain⟨ls,u⟩:=x;unfold S.b0z at h;dsimp only at h;split at h
 case isFalse=>cases h
 rename_i hc;cases h;refine⟨0,?_⟩;unfold P.c2g S.e7d;dsimp only;rw[if_pos hc,Option.bind_some];dsimp only;unfold c1p;have hg:=d7o (ls:=ls);have hL:=d1q (B:=B32) (ls:=ls);cases hf:(a2x ls).2
 ·rfl
 have hg':=hg hf;have hL':=hL hf;rw[if_neg (by decide)];have ea:S.a0t ((a2x ls).1.map (rp B32),(),())=some ((a2x ls).1.any fun r=>r.1,()):=by
  unfold S.a0t;dsimp only;rw[if_pos hL',g7v]
 have es:S.f4l ((a2x ls).1.map (rp B32),())=some (rp B32 (a8g (a2x ls).1),()):=by
  unfold S.f4l;dsimp only;rw[if_pos (f9u hL'),b3i a0e]
 have eo:S.a8o (rp B32 (a8g (a2x ls).1),())=some (c4e (a8g (a2x ls).1),()):=by
  unfold S.a8o;dsimp only;rw[a4t a0e,if_pos ⟨f3a (by decide) hg',h0g (f2z hg').1⟩]
 rw[ea,Option.bind_some];dsimp only;unfold isW;cases hm:((a2x ls).1.any fun r=>r.1)
 ·rw[if_neg (by decide),es,Option.bind_some];show Option.bind (S.a8o (rp B32 (a8g (a2x ls).1),())) _=_;rw[eo,Option.bind_some];cases ho:c4e (a8g (a2x ls).1)
  ·rfl
  ·simp [hf]
 ·rfl
abbrev i_chainOf.A:=Int×Int×List (List ByteArray)×List (List ByteArray)×List (List RB)×Unit
abbrev i_chainOf.B:=Option ((List (List RB)×Bool)×Unit)
abbrev P.b5r (x1:i_chainOf.A) (g2:i_chainOf.A->i_chainOf.B):i_chainOf.B:=
 if decide (x1.1<x1.2.1)then if decide (0<=x1.1)then if decide (x1.1<(x1.2.2.1.length:Int))then(S.b0z (x1.2.2.1.getD x1.1.toNat [],())).bind fun y3=>if !y3.1.2 then some (([],false),())else if(y3.1.1.length:Int) != (x1.2.2.2.1.length:Int)then some (([],false),())else if decide (((x1.2.2.2.2.1.length+(List.length [y3.1.1]))*24)<=140737488355328)then g2 (wrap .i64 (x1.1+1),x1.2.1,x1.2.2.1,x1.2.2.2.1,x1.2.2.2.2.1++[y3.1.1],())else none else none else none else some ((x1.2.2.2.2.1,true),())
def P.d0z (k:Nat) (x:List (List ByteArray)×Unit):i_chainOf.B:=
 if decide ((x.1.length:Int)<1)then some (([],false),())else if decide ((x.1.length:Int)>12)then some (([],false),())else loopP P.b5r k (0,(x.1.length:Int),x.1,x.1,[],())
def S.b6o (x:((List (List ByteArray))×Unit)):(Option (((List (List RB))×Bool)×Unit)):=if x.1.all okT=true then some (((chQ x.1).1.map (fun r=>r.map (rp B32)),(chQ x.1).2),())else none
theorem S.e3z (x r) (h:S.b6o x=some r):∃k,P.d0z k x=some r:=by
 obtain⟨rows,u⟩:=x;unfold S.b6o at h;dsimp only at h;split at h
 case isFalse=>cases h
 rename_i hc;cases h;refine⟨rows.length+1,?_⟩;unfold P.d0z chQ;dsimp only
 by_cases h1:1<=rows.length
 case neg=>
  rw[if_pos (decide_eq_true (show(rows.length:Int)<1 by omega)),decide_eq_false h1];rfl
 rw[if_neg (by simpa using(show ¬(rows.length:Int)<1 by omega)),decide_eq_true h1]
 by_cases h2:rows.length<=12
 case neg=>
  rw[if_pos (decide_eq_true (show(rows.length:Int)>12 by omega)),decide_eq_false h2];rfl
 rw[if_neg (by simpa using(show ¬(rows.length:Int)>12 by omega)),decide_eq_true h2];simp only[Bool.true_and];have key:=a0f (k:=rows.length+1) (b:=P.b5r) (n:=rows.length) (st:=fun i=>((i:Int),(rows.length:Int),rows,rows,(rows.take i).map (fun r=>(a2x r).1.map (rp B32)),())) (F:=fun i=>some (if((rows.drop i).all fun r=>decide (r.length=rows.length)&&(c1p r).2)=true then(rows.map (fun r=>(a2x r).1.map (rp B32)),true)else([],false),())) (fun i g hi hg'=>by
  have e1:(i:Int)<(rows.length:Int):=by omega
  have e2:(0:Int)<=(i:Int):=by omega
  have hr:okT rows[i]=true:=List.all_eq_true.1 hc _ (List.getElem_mem hi);have e4:(((rows.take i).map (fun r=>(a2x r).1.map (rp B32))).length+1)*24<=140737488355328:=by
   rw[List.length_map,List.length_take];omega
  unfold P.b5r;dsimp only at hg' ⊢;simp only[e1,e2,decide_true,if_true];rw[a0n rows i _ hi,List.drop_eq_getElem_cons hi,List.all_cons];have ew:S.b0z (rows[i],())=some (((c1p rows[i]).1.map (rp B32),(c1p rows[i]).2),()):=by
   unfold S.b0z;exact if_pos hr
  rw[ew,Option.bind_some];dsimp only;cases hw:(c1p rows[i]).2
  ·rw[if_pos (by decide),Bool.and_false,Bool.false_and,if_neg (by decide)]
  obtain⟨w1,w2,w3⟩:=f3b hw;have w4:=(c9w w1).1;rw[if_neg (by decide),w3,List.length_map,w4,Bool.and_true]
  by_cases hl:rows[i].length=rows.length
  case neg=>
   rw[if_pos (by simp;omega),decide_eq_false hl,Bool.false_and,if_neg (by decide)]
  rw[if_neg (by simp;omega),decide_eq_true hl,Bool.true_and];simp only[List.length_cons,List.length_nil,Nat.zero_add];rw[if_pos (decide_eq_true e4),wr (by omega) (by omega),<-hg',List.take_add_one,List.getElem?_eq_getElem hi,Option.toList_some,List.map_append];rfl) (fun g=>by
  unfold P.b5r;dsimp only;rw[if_neg (by simp),List.take_length,List.drop_length];rfl) (by omega)
 rw[List.drop_zero]at key;refine Eq.trans key ?_
 by_cases ha:(rows.all fun r=>decide (r.length=rows.length)&&(c1p r).2)=true
 ·rw[if_pos ha,if_pos ha,List.map_map];rfl
 ·rw[if_neg ha,if_neg ha];rfl
def S.a4k (x:(Int×(Int×Unit))):(Option (ByteArray×Unit)):=if x.2.1=10/\0<=x.1/\x.1<18446744073709551616 then some (⟨(Go.Lib.decDigits x.1.toNat).toArray⟩,())else none
def g3x (xs:List ByteArray) (sep:ByteArray):List UInt8:=Go.Lib.join (xs.map (·.data.toList)) sep.data.toList
def S.b2i (x:((List ByteArray)×(ByteArray×Unit))):(Option (ByteArray×Unit)):=if x.1.length<=140737488355328/\(g3x x.1 x.2.1).length<=140737488355328 then some (⟨(g3x x.1 x.2.1).toArray⟩,())else none
def S.a7q (x:(ByteArray×(Int×Unit))):(Option (ByteArray×Unit)):=if 0<=x.2.1/\x.2.1<=1000000/\x.1.size<=1000000 then some (⟨(Go.Lib.repeatL x.1.data.toList x.2.1.toNat).toArray⟩,())else none
abbrev P.a1w (x1:Int×Int×List ByteArray×Unit) (g2:Int×Int×List ByteArray×Unit->Option (Unit×List ByteArray×Unit)):Option (Unit×List ByteArray×Unit):=
 (fun(a b:Int) (c:List ByteArray)=>if decide (a<b)then if decide (0<=b)then if decide (b<(c.length:Int))then if decide (0<=a)then if decide (a<(c.length:Int))then if decide (0<=a)then if decide (a<(c.length:Int))then if decide (0<=b)then if decide (b<(List.length (c.set (0+a.toNat) (c.getD (0+b.toNat) (bs []))):Int))then g2 (wrap .i64 (a+1),wrap .i64 (b - 1),List.set (c.set (0+a.toNat) (c.getD (0+b.toNat) (bs []))) (0+b.toNat) (c.getD (0+a.toNat) (bs [])),())else none else none else none else none else none else none else none else none else some ((),c,())) x1.1 x1.2.1 x1.2.2.1
def P.a3j (k:Nat) (x:List ByteArray×Unit):Option (Unit×List ByteArray×Unit):=
 loopP P.a1w k (0,wrap .i64 ((x.1.length:Int) - 1),x.1,())
def rvd (xs:List ByteArray) (t:Nat):List ByteArray:=(List.range xs.length).map fun p=>if p<t\/xs.length - t<=p then xs.getD (xs.length - 1 - p) (bs [])else xs.getD p (bs [])
theorem b7t (xs:List ByteArray) (t:Nat):(rvd xs t).length=xs.length:=by simp [rvd]
theorem c5u (xs:List ByteArray) (t p:Nat) (h:p<xs.length):(rvd xs t).getD p (bs [])=if p<t\/xs.length - t<=p then xs.getD (xs.length - 1 - p) (bs [])else xs.getD p (bs []):=by
 unfold rvd;rw[List.getD_eq_getElem?_getD,List.getElem?_map,List.getElem?_range h];rfl
theorem d9f {xs ys:List ByteArray} (hl:xs.length=ys.length) (h:∀p,p<xs.length->xs.getD p (bs [])=ys.getD p (bs [])):xs=ys:=by
 apply List.ext_getElem hl;intro i h1 h2;have:=h i h1;simpa [h1,h2]using this
theorem g9l (xs:List ByteArray):rvd xs (xs.length/2)=xs.reverse:=by
 apply d9f (by rw[b7t,List.length_reverse]);intro p hp;rw[b7t]at hp;rw[c5u _ _ _ hp];have e:xs.reverse.getD p (bs [])=xs.getD (xs.length - 1 - p) (bs []):=by
  rw[List.getD_eq_getElem?_getD,List.getElem?_reverse hp,<-List.getD_eq_getElem?_getD]
 rw[e];split
 ·rfl
 ·rename_i hq;have:xs.length - 1 - p=p:=by omega
  rw[this]
theorem e4a (l:List ByteArray) (i p:Nat) (v:ByteArray) (h:p<l.length):(l.set i v).getD p (bs [])=if p=i then v else l.getD p (bs []):=by
 rw[List.getD_eq_getElem?_getD,List.getElem?_set]
 by_cases e:i=p
 ·subst e;simp [h]
 ·rw[if_neg e,if_neg (fun q=>e q.symm),<-List.getD_eq_getElem?_getD]
theorem g3y (xs:List ByteArray) (t:Nat) (ht:t<xs.length/2):((rvd xs t).set t ((rvd xs t).getD (xs.length - 1 - t) (bs []))).set (xs.length - 1 - t) ((rvd xs t).getD t (bs []))=rvd xs (t+1):=by
 apply d9f (by simp [b7t]);intro p hp;simp only[List.length_set,b7t]at hp;rw[e4a _ _ _ _ (by simp [b7t];exact hp),e4a _ _ _ _ (by rw[b7t];exact hp),c5u _ _ _ hp,c5u _ _ _ hp,c5u _ _ _ (show t<xs.length by omega),c5u _ _ _ (show xs.length - 1 - t<xs.length by omega)];rw[if_neg (show ¬(t<t\/xs.length - t<=t) by omega),if_neg (show ¬(xs.length - 1 - t<t\/xs.length - t<=xs.length - 1 - t) by omega)]
 by_cases h1:p=xs.length - 1 - t
 ·rw[if_pos h1,if_pos (by omega)];congr 1;omega
 ·rw[if_neg h1]
  by_cases h2:p=t
  ·rw[if_pos h2,if_pos (by omega)];congr 1;omega
  ·rw[if_neg h2]
   by_cases h3:p<t\/xs.length - t<=p
   ·rw[if_pos h3,if_pos (by omega)]
   ·rw[if_neg h3,if_neg (by omega)]
def S.a0z (x:((List ByteArray)×Unit)):(Option (Unit×((List ByteArray)×Unit))):=if x.1.length<=1000000000 then some ((),(x.1.reverse,()))else none
theorem S.b0q (x r) (h:S.a0z x=some r):∃k,P.a3j k x=some r:=by
 obtain⟨xs,u⟩:=x;unfold S.a0z at h;dsimp only at h;split at h
 case isFalse=>cases h
 rename_i hl;cases h;refine⟨xs.length/2+1,?_⟩;unfold P.a3j;dsimp only;rw[wr (by omega) (by omega)];have key:=a0f (k:=xs.length/2+1) (b:=P.a1w) (n:=xs.length/2) (st:=fun t=>((t:Int),(xs.length:Int) - 1 - (t:Int),rvd xs t,())) (F:=fun t=>some ((),(xs.reverse,()))) (fun t g ht hg=>by
  unfold P.a1w;dsimp only at hg ⊢;have e5:(xs.length:Int) - 1 - (t:Int)=((xs.length - 1 - t:Nat):Int):=by omega
  rw[e5];have e1:(t:Int)<((xs.length - 1 - t:Nat):Int):=by omega
  have e2:(0:Int)<=((xs.length - 1 - t:Nat):Int):=by omega
  have e3:((xs.length - 1 - t:Nat):Int)<(xs.length:Int):=by omega
  have e4:(0:Int)<=(t:Int):=by omega
  have e6:(t:Int)<(xs.length:Int):=by omega
  simp only[b7t,List.length_set,e1,e2,e3,e4,e6,decide_true,if_true,Int.toNat_natCast,Nat.zero_add];rw[g3y xs t ht,wr (by omega) (by omega),wr (by omega) (by omega),<-hg];congr 1
  all_goals (simp only[Prod.mk.injEq];and_intros<;>first|rfl|omega|trivial)) (fun g=>by
  unfold P.a1w;dsimp only;rw[if_neg (by simp;omega),g9l]) (by omega)
 have e0:rvd xs 0=xs:=by
  apply d9f (b7t _ _);intro p hp;rw[b7t]at hp;rw[c5u _ _ _ hp,if_neg (by omega)]
 rw[show(xs.length:Int) - 1 - ((0:Nat):Int)=(xs.length:Int) - 1 by omega,e0]at key;exact key
abbrev P.b7u (x1:List Int×List ByteArray×Unit) (g2:List Int×List ByteArray×Unit->Option (ByteArray×Unit)):Option (ByteArray×Unit):=
 if decide ((x1.1.length:Int)>0)then(S.a2y (x1.1,1000000000,())).bind fun y3=>(S.a4k (wrap .u64 y3.1.2,10,())).bind fun y4=>if decide ((y3.1.1.length:Int)>0)then(S.a7q (bs [48],wrap .i64 (9 - (y4.1.size:Int)),())).bind fun y5=>if decide ((y5.1.size+y4.1.size)<=9223372036854775807)then if decide (((x1.2.1.length+(List.length [y5.1++y4.1]))*16)<=140737488355328)then g2 (y3.1.1,x1.2.1++[y5.1++y4.1],())else none else none else if decide (((x1.2.1.length+(List.length [y4.1]))*16)<=140737488355328)then g2 (y3.1.1,x1.2.1++[y4.1],())else none else(S.a0z (x1.2.1,())).bind fun y6=>(S.b2i (splice x1.2.1 y6.2.1 0,bs [],())).bind fun y7=>some (y7.1,())
def P.c5v (k:Nat) (x:List Int×Unit):Option (ByteArray×Unit):=
 if(x.1.length:Int)==0 then some (bs [48],())else loopP P.b7u k (x.1,[],())
def mkB (l:List UInt8):ByteArray:=⟨l.toArray⟩
theorem f4m (xs:List (List UInt8)):Go.Lib.join xs []=xs.flatten:=by
 cases xs with
 |nil=>rfl
 |cons x r=>
  rw[Go.Lib.join_cons,List.flatten_cons];congr 1;unfold Go.Lib.joinTail;simp
theorem g9m (n:Nat):∀(acc:List ByteArray) (k:Nat),n<k->(nd B32 n).length<=40000000->acc.length+(a4a n).length<=1000000000->
  loopP P.b7u k (nd B32 n,(acc,()))=Option.bind (S.a0z (acc++(a4a n).map mkB,())) (fun y6=>Option.bind (S.b2i (Go.Cm.splice (acc++(a4a n).map mkB) y6.2.1 0,(bs [],()))) (fun y7=>some (y7.1,()))):=by
 induction n using Nat.strongRecOn with
 |ind n ih=>
  intro acc k hk hl hacc;obtain⟨k,rfl⟩:∃j,k=j+1:=⟨k - 1,by omega⟩
  rw[a0j];unfold P.b7u;dsimp only
  by_cases hn:n=0
  ·subst hn;rw[a1t a0e,b2a,if_neg (by simp),List.map_nil,List.append_nil]
  ·have hpos:((nd B32 n).length:Int)>0:=by
    rw[b4y a0e hn,List.length_cons];omega
   rw[if_pos (decide_eq_true hpos)];have sd:S.a2y (nd B32 n,(1000000000,()))=some ((nd B32 (n/1000000000),((n%1000000000:Nat):Int)),()):=by
    unfold S.a2y;dsimp only;rw[if_pos ⟨a3z a0e _,by omega,by omega,by omega⟩,a0i a0e];rfl
   rw[sd,Option.bind_some];dsimp only;have hm:n%1000000000<1000000000:=Nat.mod_lt _ (by decide);have sf:S.a4k (IntKind.wrap .u64 ((n%1000000000:Nat):Int),(10,()))=some (mkB (Go.Lib.decDigits (n%1000000000)),()):=by
    rw[wu (by omega) (by omega)];unfold S.a4k;dsimp only;rw[if_pos ⟨rfl,by omega,by omega⟩,Int.toNat_natCast];rfl
   rw[sf,Option.bind_some];dsimp only;obtain⟨p1,p2⟩:=f8w 9 (n%1000000000) (by decide) (by rw[show(10:Nat)^9=1000000000 by decide];exact hm);have hsz:(mkB (Go.Lib.decDigits (n%1000000000))).size=(Go.Lib.decDigits (n%1000000000)).length:=c6f _;have hsh:(nd B32 (n/1000000000)).length<=40000000:=by
    refine Nat.le_trans ?_ hl;rw[a4l a0e];exact Nat.lt_of_le_of_lt (Nat.div_le_self _ _) ((a4l a0e n _).1 (Nat.le_refl _))
   by_cases h1:n/1000000000=0
   ·rw[b3p hn h1,List.length_singleton]at hacc;have hmn:n%1000000000=n:=by omega
    have hc:(acc.length+ [mkB (Go.Lib.decDigits n)].length)*16<=140737488355328:=by
     rw[List.length_singleton];omega
    have hz:¬(((nd B32 0).length:Int)>0):=by rw[a1t a0e];simp
    have hi:=ih 0 (by omega) (acc++[mkB (Go.Lib.decDigits n)]) k (by omega) (by rw[a1t a0e];simp) (by rw[b2a];simp;omega);rw[h1,hmn,if_neg (by simpa using hz),if_pos (decide_eq_true hc),hi,b2a,b3p hn h1,List.map_nil,List.append_nil];rfl
   ·rw[b2b h1,List.length_cons]at hacc;have hz:((nd B32 (n/1000000000)).length:Int)>0:=by
     rw[b4y a0e h1,List.length_cons];omega
    have sr:S.a7q (bs [48],(IntKind.wrap .i64 (9 - (((mkB (Go.Lib.decDigits (n%1000000000))).size:Nat):Int)),()))=some (mkB (List.replicate (9 - (Go.Lib.decDigits (n%1000000000)).length) 48),()):=by
     rw[hsz,wr (by omega) (by omega)];unfold S.a7q;dsimp only;have h48:(bs [48]).data.toList=[48]:=rfl;rw[if_pos ⟨by omega,by omega,by decide⟩,h48,e9o,show((9:Int) - ((Go.Lib.decDigits (n%1000000000)).length:Int)).toNat=9 - (Go.Lib.decDigits (n%1000000000)).length by omega];rfl
    rw[if_pos (decide_eq_true hz),sr,Option.bind_some];dsimp only;have hsum:(mkB (List.replicate (9 - (Go.Lib.decDigits (n%1000000000)).length) 48)).size+(mkB (Go.Lib.decDigits (n%1000000000))).size<=9223372036854775807:=by
     rw[hsz,show(mkB (List.replicate (9 - (Go.Lib.decDigits (n%1000000000)).length) 48)).size=_ from c6f _,List.length_replicate];omega
    have happ:mkB (List.replicate (9 - (Go.Lib.decDigits (n%1000000000)).length) 48)++mkB (Go.Lib.decDigits (n%1000000000))=mkB (a5z 9 (n%1000000000)):=by
     rw[<-p1];exact c1u _ _
    have hc:(acc.length+ [mkB (a5z 9 (n%1000000000))].length)*16<=140737488355328:=by
     rw[List.length_singleton];omega
    have hi:=ih (n/1000000000) (by omega) (acc++[mkB (a5z 9 (n%1000000000))]) k (by omega) hsh (by simp;omega);rw[if_pos (decide_eq_true hsum),happ,if_pos (decide_eq_true hc),hi,b2b h1,List.map_cons,List.append_assoc];rfl
def S.b1a (x:((List Int)×Unit)):(Option (ByteArray×Unit)):=if a2r B32 x.1=true/\x.1.length<=40000000 then some (⟨(Go.Lib.decDigits (a0c B32 x.1)).toArray⟩,())else none
theorem S.d9g (x r) (h:S.b1a x=some r):∃k,P.c5v k x=some r:=by
 obtain⟨xs,u⟩:=x;unfold S.b1a at h;dsimp only at h;split at h
 case isFalse=>cases h
 rename_i hc;obtain⟨ca,la⟩:=hc;cases h;refine⟨a0c B32 xs+1,?_⟩;unfold P.c5v;dsimp only
 by_cases he:xs=[]
 ·subst he;rw[if_pos (by rfl),show a0c B32 []=0 from rfl,a7r (by decide)];rfl
 ·have hpos:0<xs.length:=List.length_pos_iff.2 he;have h0:a0c B32 xs≠0:=by
   intro q;have:=a1d ca;rw[q,a1t a0e]at this;exact he this.symm
  have hb:a0c B32 xs<B32^xs.length:=a1n (a1q ca);have hb2:a0c B32 xs<(10^10)^xs.length:=Nat.lt_of_lt_of_le hb (Nat.pow_le_pow_left (by decide) _);rw[<-Nat.pow_mul]at hb2;have hlen:(Go.Lib.decDigits (a0c B32 xs)).length<=10*xs.length:=e9n (by omega) hb2;have hb3:a0c B32 xs<B10^(2*xs.length):=by
   refine Nat.lt_of_lt_of_le hb ?_;rw[Nat.pow_mul];exact Nat.pow_le_pow_left (by decide) _
  have hparts:(a4a (a0c B32 xs)).length<=2*xs.length:=by
   rw[d9v,a4l a0d];exact hb3
  rw[if_neg (by simp;exact he)];have key:=g9m (a0c B32 xs) [] (a0c B32 xs+1) (by omega) (by rw[a1d ca];omega) (by simp;omega);rw[a1d ca,List.nil_append]at key;rw[key];have hall:=d9u h0;generalize a4a (a0c B32 xs)=ps at*;unfold S.a0z S.b2i;dsimp only;have hj:g3x (Go.Cm.splice (ps.map mkB) (ps.map mkB).reverse 0) (bs [])=Go.Lib.decDigits (a0c B32 xs):=by
   rw[b6u (by simp)];unfold g3x;rw[show(bs []).data.toList=[]from rfl,f4m,<-List.map_reverse,List.map_map];rw[show(fun x:ByteArray=>x.data.toList) ∘ mkB=id by funext l;simp [mkB],List.map_id];exact hall
  rw[if_pos (by simp;omega),Option.bind_some];dsimp only;rw[hj,if_pos ⟨by rw[b6u (by simp)];simp;omega,by omega⟩,Option.bind_some]
def P.c5w (k:Nat) (x:RB×Unit):Option ((ByteArray×Bool)×Unit):=
 (S.b1a (x.1.2.1,())).bind fun y0=>(S.b1a (x.1.2.2,())).bind fun y1=>if x.1.1 then if decide ((1+y0.1.size)<=9223372036854775807)then if ! ((ByteArray.toList y1.1)==(ByteArray.toList (bs [49])))then if decide ((1+y1.1.size)<=9223372036854775807)then if decide (((ByteArray.size ((bs [45])++y0.1))+(ByteArray.size ((bs [47])++y1.1)))<=9223372036854775807)then if decide ((y0.1.size:Int)<=200)then some ((((bs [45])++y0.1)++((bs [47])++y1.1),decide ((y1.1.size:Int)<=200)),())else some ((((bs [45])++y0.1)++((bs [47])++y1.1),false),())else none else none else if decide ((y0.1.size:Int)<=200)then some (((bs [45])++y0.1,decide ((y1.1.size:Int)<=200)),())else some (((bs [45])++y0.1,false),())else none else if ! ((ByteArray.toList y1.1)==(ByteArray.toList (bs [49])))then if decide ((1+y1.1.size)<=9223372036854775807)then if decide ((y0.1.size+(ByteArray.size ((bs [47])++y1.1)))<=9223372036854775807)then if decide ((y0.1.size:Int)<=200)then some ((y0.1++((bs [47])++y1.1),decide ((y1.1.size:Int)<=200)),())else some ((y0.1++((bs [47])++y1.1),false),())else none else none else if decide ((y0.1.size:Int)<=200)then some ((y0.1,decide ((y1.1.size:Int)<=200)),())else some ((y0.1,false),())
def S.b1b (x:(RB×Unit)):(Option ((ByteArray×Bool)×Unit)):=if rok B32 40000000 x.1=true then some ((⟨(c8t (rv B32 x.1)).toArray⟩,d9x (rv B32 x.1)),())else none
theorem S.d9h (x r) (h:S.b1b x=some r):∃k,P.c5w k x=some r:=by
 obtain⟨⟨neg,as,bs'⟩,u⟩:=x;unfold S.b1b at h;dsimp only at h;split at h
 case isFalse=>cases h
 rename_i hc;rw[b9s]at hc;obtain⟨ca,cb,la,lb⟩:=hc;dsimp only at ca cb la lb;cases h;refine⟨0,?_⟩;unfold P.c5w;dsimp only;have e1:∀xs,a2r B32 xs=true->xs.length<=40000000->S.b1a (xs,())=some (⟨(Go.Lib.decDigits (a0c B32 xs)).toArray⟩,()):=by
  intro xs cx lx;unfold S.b1a;exact if_pos ⟨cx,lx⟩
 rw[e1 as ca la,Option.bind_some,e1 bs' cb lb,Option.bind_some];dsimp only;have l1:=c3x (show B32<=10^10 by decide) ca;have l2:=c3x (show B32<=10^10 by decide) cb;unfold rv c8t d9x;dsimp only;have hd1:=h0f (a0c B32 bs');generalize Go.Lib.decDigits (a0c B32 as)=t1 at*;generalize Go.Lib.decDigits (a0c B32 bs')=t2 at*;rw[ByteArray.toList_eq,ByteArray.toList_eq,show bs [49]=⟨([49]:List UInt8).toArray⟩from rfl,show bs [45]=⟨([45]:List UInt8).toArray⟩from rfl,show bs [47]=⟨([47]:List UInt8).toArray⟩from rfl];rw[c1u,c1u,c1u,c1u,c6f,c6f,c6f,c6f];have c1:(1+t1.length<=9223372036854775807):=by omega
 have c2:(1+t2.length<=9223372036854775807):=by omega
 have c3:([45]++t1).length+([47]++t2).length<=9223372036854775807:=by simp;omega
 have c4:t1.length+([47]++t2).length<=9223372036854775807:=by simp;omega
 simp only[c1,c2,c3,c4,decide_true,if_true];have d1:∀t:List UInt8,decide (((t.length:Nat):Int)<=200)=decide (t.length<=200):=by
  intro t;rw[decide_eq_decide];omega
 rw[d1,d1];have d2:((!(t2== [49]))=true)↔¬a0c B32 bs'=1:=by
  rw[<-hd1];simp
 by_cases hq:a0c B32 bs'=1
 ·have n2:¬((!(t2== [49]))=true):=by rw[d2];exact fun q=>q hq
  cases neg<;>simp only[n2,hq,if_true,if_false,Bool.false_eq_true,List.append_nil,List.nil_append]<;>cases decide (t1.length<=200)<;>simp
 ·have n2:((!(t2== [49]))=true):=d2.2 hq;cases neg<;>simp only[n2,hq,if_true,if_false,Bool.false_eq_true,List.nil_append]<;>cases decide (t1.length<=200)<;>simp
abbrev i_toldList.A:=Option ((List ByteArray×Bool)×Unit)
abbrev P.b3m (x1:Int×Int×List RB×List ByteArray×Unit) (g2:Int×Int×List RB×List ByteArray×Unit->i_toldList.A):i_toldList.A:=
 if decide (x1.1<x1.2.1)then if decide (0<=x1.1)then if decide (x1.1<(x1.2.2.1.length:Int))then(S.b1b (((x1.2.2.1.getD x1.1.toNat (false,[],[])).1,(x1.2.2.1.getD x1.1.toNat (false,[],[])).2.1,(x1.2.2.1.getD x1.1.toNat (false,[],[])).2.2),())).bind fun y3=>if !y3.1.2 then some (([],false),())else if decide (((x1.2.2.2.1.length+(List.length [y3.1.1]))*16)<=140737488355328)then g2 (wrap .i64 (x1.1+1),x1.2.1,x1.2.2.1,x1.2.2.2.1++[y3.1.1],())else none else none else none else some ((x1.2.2.2.1,true),())
def P.c5x (k:Nat) (x:List RB×Unit):i_toldList.A:=
 loopP P.b3m k (0,(x.1.length:Int),x.1,[],())
def S.b4f (x:((List RB)×Unit)):(Option (((List ByteArray)×Bool)×Unit)):=if x.1.all (rok B32 40000000)=true/\x.1.length<=1000000 then some (a9f (x.1.map (rv B32)),())else none
theorem S.d9i (x r) (h:S.b4f x=some r):∃k,P.c5x k x=some r:=by
 obtain⟨xs,u⟩:=x;unfold S.b4f at h;dsimp only at h;split at h
 case isFalse=>cases h
 rename_i hc;cases h;obtain⟨qs,rfl⟩:∃qs:List Q3,xs=qs.map (rp B32):=⟨xs.map (rv B32),by
  rw[List.map_map];have:∀ys:List (Bool×(List Int×List Int)),ys.all (rok B32 40000000)=true->ys.map (rp B32 ∘ rv B32)=ys:=by
   intro ys
   induction ys with
   |nil=>intro _;rfl
   |cons y ys ih=>
    intro hy;rw[List.all_cons,Bool.and_eq_true]at hy;rw[List.map_cons,ih hy.2];show rp B32 (rv B32 y)::ys=_;rw[h3f hy.1]
  exact(this xs hc.1).symm⟩
 have hlen:=hc.2;rw[List.length_map]at hlen;refine⟨qs.length+1,?_⟩;unfold P.c5x a9f;dsimp only;have key:=a0f (k:=qs.length+1) (b:=P.b3m) (n:=qs.length) (st:=fun i=>((i:Int),(qs.length:Int),qs.map (rp B32),(qs.take i).map (fun r:Q3=>(⟨(c8t r).toArray⟩:ByteArray)),())) (F:=fun i=>some (if(qs.drop i).all d9x=true then(qs.map (fun r:Q3=>(⟨(c8t r).toArray⟩:ByteArray)),true)else([],false),())) (fun i g hi hg'=>by
  unfold P.b3m;dsimp only at hg' ⊢;have e1:(i:Int)<(qs.length:Int):=by omega
  have e2:(0:Int)<=(i:Int):=by omega
  have e3:(i:Int)<((qs.map (rp B32)).length:Int):=by rw[List.length_map];omega
  simp only[e1,e2,e3,decide_true,if_true];rw[a0n (qs.map (rp B32)) i _ (by rw[List.length_map];exact hi),List.getElem_map];have ht:S.b1b (rp B32 qs[i],())=some ((⟨(c8t qs[i]).toArray⟩,d9x qs[i]),()):=by
   unfold S.b1b;dsimp only;rw[if_pos (by have:=List.all_eq_true.1 hc.1 _ (List.mem_map.2 ⟨qs[i],List.getElem_mem hi,rfl⟩);exact this),a4t a0e]
  show Option.bind (S.b1b (rp B32 qs[i],())) _=_;rw[ht,Option.bind_some,List.drop_eq_getElem_cons hi,List.all_cons];dsimp only;cases hf:d9x qs[i]
  ·rw[if_pos (by decide),Bool.false_and,if_neg (by decide)]
  ·skip
   skip
   have e4:(((qs.take i).map (fun r:Q3=>(⟨(c8t r).toArray⟩:ByteArray))).length+1)*16<=140737488355328:=by
    rw[List.length_map,List.length_take];omega
   rw[if_neg (by simp),wr (by omega) (by omega),Bool.true_and,<-hg'];simp only[List.length_cons,List.length_nil,Nat.zero_add];rw[if_pos (decide_eq_true e4),List.take_add_one,List.getElem?_eq_getElem hi,Option.toList_some,List.map_append];rfl) (fun g=>by
  unfold P.b3m;dsimp only;rw[if_neg (by simp),List.take_length,List.drop_length];rfl) (by omega)
 rw[b3i a0e,List.length_map];refine key.trans ?_;rw[List.drop_zero]
 by_cases ha:qs.all d9x=true
 ·rw[if_pos ha,if_pos ha];congr 3;refine List.map_congr_left fun r hr=> ?_
  unfold d5k;rw[if_pos (List.all_eq_true.1 ha r hr)]
 ·rw[if_neg ha,if_neg ha]
abbrev i_toldChain.A:=Int×Int×List (List RB)×List (List ByteArray)×List (List ByteArray×Nat)×Unit
abbrev i_toldChain.B:=Option (((List (List ByteArray×Nat)×Nat)×Bool)×Unit)
abbrev P.b1w (x1:i_toldChain.A) (g2:i_toldChain.A->i_toldChain.B):i_toldChain.B:=
 if decide (x1.1<x1.2.1)then if decide (0<=x1.1)then if decide (x1.1<(x1.2.2.1.length:Int))then(S.b4f (x1.2.2.1.getD x1.1.toNat [],())).bind fun y3=>if !y3.1.2 then some (((([]:List (List ByteArray×Nat)),0),false),())else if decide ((((List.length (hd0 x1.2.2.2.2.1))+(List.length (hd0 [(y3.1.1,y3.1.1.length)])))*24)<=140737488355328)then if dup (List.map (fun(y4:Nat×Nat)=>y4.1) (a7k (List.length (in0 x1.2.2.2.2.1)) (hd0 x1.2.2.2.2.1) (hd0 [(y3.1.1,y3.1.1.length)])))then none else g2 (wrap .i64 (x1.1+1),x1.2.1,x1.2.2.1,x1.2.2.2.1,nrm (a7k (List.length (in0 x1.2.2.2.2.1)) (hd0 x1.2.2.2.2.1) (hd0 [(y3.1.1,y3.1.1.length)])) ((in0 x1.2.2.2.2.1)++[y3.1.1]),())else none else none else none else if dup (List.map (fun(y5:Nat×Nat)=>y5.1) (hd0 x1.2.2.2.2.1))then none else some (((nrm (hd0 x1.2.2.2.2.1) (in0 x1.2.2.2.2.1),List.length (hd0 x1.2.2.2.2.1)),true),())
def P.c2h (k:Nat) (x:List (List RB)×Unit):i_toldChain.B:=
 loopP P.b1w k (0,(x.1.length:Int),x.1,[],[],())
open Classical in
def S.b1c (x:((List (List RB))×Unit)):(Option (((((List ((List ByteArray)×Nat))×Nat))×Bool)×Unit)):=if ∃M,okM M/\x.1=mp B32 M then some (g2h (e2q (mv B32 x.1)),())else none
theorem S.d5h (x r) (h:S.b1c x=some r):∃k,P.c2h k x=some r:=by
 obtain⟨m,u⟩:=x;unfold S.b1c at h;dsimp only at h;split at h
 case isFalse=>cases h
 rename_i hc;obtain⟨M,hM,rfl⟩:=hc;cases h;rw[b3r (by decide)];have hn:=hM.1;refine⟨13,?_⟩;unfold P.c2h;dsimp only;rw[a4b];have key:=a0f (k:=13) (b:=P.b1w) (n:=M.length) (st:=fun i=>((i:Int),(M.length:Int),mp B32 M,([]:List (List ByteArray)),(M.take i).map (fun r=>((a9f r).1,(a9f r).1.length)),())) (F:=fun i=>some (if((M.drop i).all fun r=>r.all d9x)=true then((M.map (fun r=>((a9f r).1,(a9f r).1.length)),M.length),true)else(([],0),false),())) (fun i g hi hg=>by
  unfold P.b1w;dsimp only at hg ⊢;have e1:(i:Int)<(M.length:Int):=by omega
  have e2:(0:Int)<=(i:Int):=by omega
  have hr:M.getD i []=M[i]:=by rw[List.getD_eq_getElem?_getD,List.getElem?_eq_getElem hi];rfl
  have hmi:=hM.2 M[i] (List.getElem_mem hi);have eg:S.b4f (M[i].map (rp B32),())=some (a9f M[i],()):=by
   unfold S.b4f;dsimp only;rw[if_pos ⟨g2j (by decide) hmi.2,by rw[List.length_map];omega⟩,b3i a0e]
  simp only[a4b,Int.toNat_natCast,f5g hi,hr,e1,e2,decide_true,if_true];rw[eg,Option.bind_some];dsimp only;rw[e7z,List.drop_eq_getElem_cons hi,List.all_cons];cases hf:M[i].all d9x
  ·rw[if_pos (by decide),Bool.false_and,if_neg (by decide)]
  ·have e3:(((M.take i).map (fun r=>((a9f r).1,(a9f r).1.length))).length+1)*24<=140737488355328:=by
    rw[List.length_map,List.length_take];omega
   have e4:= @g2i ByteArray ((M.take i).map (fun r=>((a9f r).1,(a9f r).1.length))) (a9f M[i]).1 (a9f M[i]).1.length;rw[if_neg (by decide),Bool.true_and];simp only[a0k,List.length_cons,List.length_nil,Nat.zero_add,e3,e4.1,e4.2,decide_true,if_true,Bool.false_eq_true,if_false];rw[wr (by omega) (by omega)];rw[<-List.take_append_getElem hi,List.map_append]at hg;exact hg) (fun g=>by
  unfold P.b1w;dsimp only;rw[if_neg (by simp),a0r,a0w,a0k,if_neg (by decide),List.take_length,List.length_map,List.drop_length];rfl) (by omega)
 refine Eq.trans ?_ (key.trans ?_)
 ·rfl
 ·rw[List.drop_zero];unfold e2q;split
  ·unfold g2h;dsimp only;rw[List.map_map,List.length_map];rfl
  ·rfl
theorem d5i {M:List (List Q3)} (h:okM M):S.b1c (mp B32 M,())=some (g2h (e2q M),()):=by
 unfold S.b1c;dsimp only;rw[if_pos ⟨M,h,rfl⟩,b3r (by decide)]
def P.b4u (k:Nat) (x:Int×Int×Unit):Option ((Int×Int)×Unit):=
 some ((wrap .u64 ((wrap .u64 ((wrap .u64 ((Int.fdiv x.1 4294967296)*(Int.fdiv x.2.1 4294967296)))+(Int.fdiv (wrap .u64 ((wrap .u64 ((Int.fdiv x.1 4294967296)*(wrap .u64 ((BitVec.toNat ((BitVec.ofInt 64 x.2.1)&&& (BitVec.ofInt 64 4294967295)):Nat):Int))))+(Int.fdiv (wrap .u64 ((wrap .u64 ((BitVec.toNat ((BitVec.ofInt 64 x.1)&&& (BitVec.ofInt 64 4294967295)):Nat):Int))*(wrap .u64 ((BitVec.toNat ((BitVec.ofInt 64 x.2.1)&&& (BitVec.ofInt 64 4294967295)):Nat):Int)))) 4294967296))) 4294967296)))+(Int.fdiv (wrap .u64 ((wrap .u64 ((BitVec.toNat ((BitVec.ofInt 64 (wrap .u64 ((wrap .u64 ((Int.fdiv x.1 4294967296)*(wrap .u64 ((BitVec.toNat ((BitVec.ofInt 64 x.2.1)&&& (BitVec.ofInt 64 4294967295)):Nat):Int))))+(Int.fdiv (wrap .u64 ((wrap .u64 ((BitVec.toNat ((BitVec.ofInt 64 x.1)&&& (BitVec.ofInt 64 4294967295)):Nat):Int))*(wrap .u64 ((BitVec.toNat ((BitVec.ofInt 64 x.2.1)&&& (BitVec.ofInt 64 4294967295)):Nat):Int)))) 4294967296))))&&& (BitVec.ofInt 64 4294967295)):Nat):Int))+(wrap .u64 ((wrap .u64 ((BitVec.toNat ((BitVec.ofInt 64 x.1)&&& (BitVec.ofInt 64 4294967295)):Nat):Int))*(Int.fdiv x.2.1 4294967296))))) 4294967296)),wrap .u64 (x.1*x.2.1)),())
def S.b4v (x:(Int×(Int×Unit))):(Option ((Int×Int)×Unit)):=P.b4u 0 x
theorem S.c3p (x r) (h:S.b4v x=some r):∃k,P.b4u k x=some r:=⟨0,h⟩
def P.b7v (k:Nat) (x:Int×Int×Unit):Option ((Int×Int)×Unit):=
 (S.b4v (x.1,x.2.1,())).bind fun y0=>some ((y0.1.1,y0.1.2),())
def S.a2v (x:(Int×(Int×Unit))):(Option ((Int×Int)×Unit)):=P.b7v 0 x
theorem S.c8s (x r) (h:S.a2v x=some r):∃k,P.b7v k x=some r:=⟨0,h⟩
abbrev P.a2e (x2:(Int×((List Int)×Unit))) (g3:(Int×((List Int)×Unit))->Option ((List Int)×Unit)):Option ((List Int)×Unit):=
 (if((decide (x2.1<((List.length x2.2.1):Int)))=true)then(if((decide ((0:Int)<=((List.length x2.2.1):Int)))=true)then(if((decide ((((List.length x2.2.1):Int)+(0:Int))<=((List.length x2.2.1):Int)))=true)then(if((decide ((0:Int)<=x2.1))=true)then(if((decide (x2.1<=((List.length x2.2.1):Int)))=true)then(if((decide ((0:Int)<=x2.1))=true)then(if((decide ((x2.1+(0:Int))<=((List.length x2.2.1):Int)))=true)then(if((decide ((0:Int)<=x2.1))=true)then(g3 ((IntKind.wrap .i64 (x2.1+(((Min.min (List.length (seen x2.2.1 (0:Nat) ((Int.toNat x2.1) - (0:Nat)))) ((Int.toNat ((List.length x2.2.1):Int)) - (Int.toNat x2.1))):Nat):Int))),((splice x2.2.1 (List.take ((Int.toNat ((List.length x2.2.1):Int)) - (Int.toNat x2.1)) (seen x2.2.1 (0:Nat) ((Int.toNat x2.1) - (0:Nat)))) ((0:Nat)+(Int.toNat x2.1))),())))
 else none)
 else none)
 else none)
 else none)
 else none)
 else none)
 else none)
 else(some (x2.2.1,())))
def P.a4e (k:Nat) (x:((List Int)×(Int×Unit))):(Option ((List Int)×Unit)):=
 (if((decide (x.2.1<(0:Int)))=true)then none
 else(Option.bind (S.a2v ((IntKind.wrap .u64 ((List.length x.1):Int)),((IntKind.wrap .u64 x.2.1),()))) (fun(y0:((Int×Int)×Unit))=>(if((decide (y0.1.1>(0:Int)))=true)then none
 else(if((decide (y0.1.2>(9223372036854775807:Int)))=true)then none
 else(if((decide ((0:Int)<=(IntKind.wrap .i64 y0.1.2)))=true)then(if((decide ((IntKind.wrap .i64 y0.1.2)<=(IntKind.wrap .i64 y0.1.2)))=true)then(if((decide (((IntKind.wrap .i64 y0.1.2)*(8:Int))<=(281474976710656:Int)))=true)then(loopP (X:=(Int×((List Int)×Unit))) (R:=((List Int)×Unit)) (P.a2e) k ((((Min.min (List.length x.1) (List.length (List.replicate (Int.toNat (IntKind.wrap .i64 y0.1.2)) (0:Int)))):Nat):Int),((splice (List.replicate (Int.toNat (IntKind.wrap .i64 y0.1.2)) (0:Int)) (List.take (List.length (List.replicate (Int.toNat (IntKind.wrap .i64 y0.1.2)) (0:Int))) x.1) (0:Nat)),())))
 else none)
 else none)
 else none))))))
def PP.a6k (k:Nat) (x:((List Int)×(Int×Unit))):(Option ((List Int)×Unit)):=
 (Decidable.rec (motive:=fun _=>(Option ((List Int)×Unit))) (fun _=>(Option.bind (S.a2v ((IntKind.wrap .u64 ((List.length x.1):Int)),((IntKind.wrap .u64 x.2.1),()))) (fun(y0:((Int×Int)×Unit))=>(Decidable.rec (motive:=fun _=>(Option ((List Int)×Unit))) (fun _=>(Decidable.rec (motive:=fun _=>(Option ((List Int)×Unit))) (fun _=>(Decidable.rec (motive:=fun _=>(Option ((List Int)×Unit))) (fun _=>none) (fun _=>(Decidable.rec (motive:=fun _=>(Option ((List Int)×Unit))) (fun _=>none) (fun _=>(Decidable.rec (motive:=fun _=>(Option ((List Int)×Unit))) (fun _=>none) (fun _=>(loopP (X:=(Int×((List Int)×Unit))) (R:=((List Int)×Unit)) (P.a2e) k ((((Min.min (List.length x.1) (List.length (List.replicate (Int.toNat (IntKind.wrap .i64 y0.1.2)) (0:Int)))):Nat):Int),((splice (List.replicate (Int.toNat (IntKind.wrap .i64 y0.1.2)) (0:Int)) (List.take (List.length (List.replicate (Int.toNat (IntKind.wrap .i64 y0.1.2)) (0:Int))) x.1) (0:Nat)),())))) (instDecidableEqBool (decide (((IntKind.wrap .i64 y0.1.2)*(8:Int))<=(281474976710656:Int))) true))) (instDecidableEqBool (decide ((IntKind.wrap .i64 y0.1.2)<=(IntKind.wrap .i64 y0.1.2))) true))) (instDecidableEqBool (decide ((0:Int)<=(IntKind.wrap .i64 y0.1.2))) true))) (fun _=>none) (instDecidableEqBool (decide (y0.1.2>(9223372036854775807:Int))) true))) (fun _=>none) (instDecidableEqBool (decide (y0.1.1>(0:Int))) true))))) (fun _=>none) (instDecidableEqBool (decide (x.2.1<(0:Int))) true))
theorem PP.b2j (k:Nat) (x:((List Int)×(Int×Unit))):PP.a6k k x=P.a4e k x:=rfl
theorem d9j:∀n:Fin 21,S.a2v (1,((n.val:Int),()))=some ((0,(n.val:Int)),()):=by decide
def S.a1l (x:((List Int)×(Int×Unit))):(Option ((List Int)×Unit)):=if x.1.length=1/\0<=x.2.1/\x.2.1<=20 then some (List.replicate x.2.1.toNat (x.1.getD 0 0),())else none
theorem S.b3c (x r) (h:S.a1l x=some r):∃k,P.a4e k x=some r:=by
 obtain⟨xs,m,u⟩:=x;unfold S.a1l at h;dsimp only at h;split at h
 case isFalse=>cases h
 rename_i hc;cases h;obtain⟨hx,h1,h2⟩:=hc;obtain⟨a,rfl⟩:∃a,xs=[a]:=by
  match xs,hx with
  | [a],_=>exact⟨a,rfl⟩
 obtain⟨M,rfl⟩:∃M:Nat,m=(M:Int):=⟨m.toNat,by omega⟩
 rw[Int.toNat_natCast];refine⟨M+2,?_⟩;unfold P.a4e;dsimp only;have hmul:=d9j ⟨M,by omega⟩;dsimp only at hmul;have e0:IntKind.wrap .u64 (M:Int)=(M:Int):=IntWalk.u64_in _ (by omega);rw[if_neg (by simp),e0];show Option.bind (S.a2v (1,((M:Int),()))) _=_;rw[hmul,Option.bind_some];dsimp only;rw[if_neg (show ¬((decide ((0:Int)>0))=true) by simp),if_neg (by simpa using(show ¬(M:Int)>9223372036854775807 by omega)),wr (by omega) (by omega),if_pos (decide_eq_true (show(0:Int)<=(M:Int) by omega)),if_pos (by simp),if_pos (decide_eq_true (show(M:Int)*8<=281474976710656 by omega)),Int.toNat_natCast];simp only[List.length_replicate,List.length_cons,List.length_nil,Nat.zero_add];have key:∀(d j k:Nat),j+d=M->1<=j->d<k->loopP P.a2e k ((j:Int),List.replicate j a++List.replicate d (0:Int),())=some (List.replicate M a,()):=by
  intro d
  induction d using Nat.strongRecOn with
  |ind d ih=>
   intro j k hj h1 hk;cases k with
   |zero=>omega
   |succ k=>
    rw[a0j];unfold P.a2e;have hlen:(List.replicate j a++List.replicate d (0:Int)).length=M:=by simp;omega
    dsimp only;rw[hlen]
    by_cases hd:d=0
    ·subst hd;rw[if_neg (by simpa using(show ¬(j:Int)<(M:Int) by omega))];rw[show j=M by omega];simp
    ·have c1:(j:Int)<(M:Int):=by omega
     have c2:(0:Int)<=(M:Int):=by omega
     have c3:(M:Int)+0<=(M:Int):=by omega
     have c4:(0:Int)<=(j:Int):=by omega
     have c5:(j:Int)<=(M:Int):=by omega
     have c6:(j:Int)+0<=(M:Int):=by omega
     simp only[c1,c2,c3,c4,c5,c6,decide_true,if_true];have hs:seen (List.replicate j a++List.replicate d (0:Int)) 0 ((j:Int).toNat - 0)=List.replicate j a:=by
      unfold seen;rw[Int.toNat_natCast,Nat.sub_zero,List.drop_zero,List.take_left' (by simp)]
     rw[hs,List.length_replicate,Int.toNat_natCast,Int.toNat_natCast];have hsp:splice (List.replicate j a++List.replicate d (0:Int)) (List.take (M - j) (List.replicate j a)) (0+j)=List.replicate (j+min j d) a++List.replicate (d - min j d) (0:Int):=by
      unfold splice;rw[Nat.zero_add,List.take_left' (by simp),List.take_replicate,List.length_replicate,show M - j=d by omega,List.drop_append];simp only[List.length_replicate];rw[List.drop_of_length_le (by simp),List.nil_append,List.drop_replicate,<-List.replicate_append_replicate,show j+min d j - j=min d j by omega,Nat.min_comm d j]
     rw[hsp,show M - j=d by omega,wr (by omega) (by omega)];have:=ih (d - min j d) (by omega) (j+min j d) k (by omega) (by omega) (by omega);rw[<-this];congr 2
 match M,h2 with
 |0,_=>
  rfl
 |M+1,h2=>
  have:=key M 1 (M+1+2) (by omega) (by omega) (by omega);have a1:min 1 (M+1)=1:=by omega
  have a2:splice (List.replicate (M+1) (0:Int)) (List.take (M+1) [a]) 0=List.replicate 1 a++List.replicate M (0:Int):=by
   unfold splice;simp [List.replicate_succ]
  rw[a1,a2];exact this
abbrev i_reach.A:=Int×Int×List RB×List Bool×List Int×List (List RB)×Unit
abbrev i_reach.B:=List Int×List (List RB)×List Bool×Unit
abbrev i_reach.C:=Option (List Bool×Unit)
abbrev P.b6p (g2:i_reach.B->i_reach.C) (x4:i_reach.A) (g5:i_reach.A->i_reach.C):i_reach.C:=
 (fun(a b:Int) (c:List RB) (d:List Bool) (e:List Int) (f:List (List RB))=>if decide (a<b)then if decide (0<=a)then if decide (a<(c.length:Int))then(S.a0u (((c.getD a.toNat (false,[],[])).1,(c.getD a.toNat (false,[],[])).2.1,(c.getD a.toNat (false,[],[])).2.2),())).bind fun y6=>if decide (y6.1>0)then if decide (0<=a)then if decide (a<(d.length:Int))then if ! (d.getD (0+a.toNat) false)then if decide (0<=a)then if decide (a<(d.length:Int))then if decide (((e.length+(List.length [a]))*8)<=140737488355328)then g5 (wrap .i64 (a+1),b,c,d.set (0+a.toNat) true,e++[a],f,())else none else none else none else g5 (wrap .i64 (a+1),b,c,d,e,f,())else none else none else g5 (wrap .i64 (a+1),b,c,d,e,f,())else none else none else if decide (0<=(e.length:Int))then if decide (((e.length:Int)+0)<=(e.length:Int))then if decide (1<=(e.length:Int))then g2 (seen e 1 ((Int.toNat (e.length:Int)) - 1),f,d,())else none else none else none) x4.1 x4.2.1 x4.2.2.1 x4.2.2.2.1 x4.2.2.2.2.1 x4.2.2.2.2.2.1
abbrev P.c5y (k:Nat) (x1:i_reach.B) (g2:i_reach.B->i_reach.C):i_reach.C:=
 if decide ((x1.1.length:Int)>0)then if decide (0<(x1.1.length:Int))then if decide (0<=(x1.1.getD 0 0))then if decide ((x1.1.getD 0 0)<(x1.2.1.length:Int))then loopP (P.b6p g2) k (0,(List.length (x1.2.1.getD (Int.toNat (x1.1.getD 0 0)) []):Int),x1.2.1.getD (Int.toNat (x1.1.getD 0 0)) [],x1.2.2.1,x1.1,x1.2.1,())else none else none else none else some (x1.2.2.1,())
def P.e9e (k:Nat) (x:List (List RB)×Int×Unit):i_reach.C:=
 if decide (0<=(x.1.length:Int))then if decide ((x.1.length:Int)<=(x.1.length:Int))then if decide (((x.1.length:Int)*1)<=281474976710656)then if decide (0<=x.2.1)then if decide (x.2.1<(List.length (List.replicate (Int.toNat (x.1.length:Int)) false):Int))then loopP (P.c5y k) k ([x.2.1],x.1,List.set (List.replicate (Int.toNat (x.1.length:Int)) false) (0+x.2.1.toNat) true,())else none else none else none else none else none
theorem g9n (q:Q3):S.a0u (((rp B32 q).1,(rp B32 q).2.1,(rp B32 q).2.2),())=some (d7n q.1 q.2.1,()):=by
 unfold S.a0u rp;dsimp only;rw[if_pos (a0m (by decide) _),a0i (by decide)]
theorem f8f {M:List (List Q3)} (hM:isM M) {i:Nat} (hi:i<M.length) {sn:List Bool} {td:List Nat} (hb:Bok M.length (sn,td)) (hm:td.length+sn.count false<=1000000)
  (g) {K:Nat} (hK:M.length<K):
  loopP (P.b6p g) K ((0:Int),(M.length:Int),(M.getD i []).map (rp B32),sn,zs (i::td),mp B32 M,())=g (zs (b5j (adj M i) M.length (sn,td)).2,mp B32 M,(b5j (adj M i) M.length (sn,td)).1,()):=by
 have hrow:=c6o hM hi;have hn:=hM.1;have key:=a0f (k:=K) (b:=P.b6p g) (n:=M.length) (st:=fun j=>((j:Int),(M.length:Int),(M.getD i []).map (rp B32),((List.range j).foldl (b0r (adj M i)) (sn,td)).1,zs (i::((List.range j).foldl (b0r (adj M i)) (sn,td)).2),mp B32 M,())) (F:=fun _=>g (zs (b5j (adj M i) M.length (sn,td)).2,mp B32 M,(b5j (adj M i) M.length (sn,td)).1,())) (fun j g' hj hg=>by
  unfold P.b6p;dsimp only at hg ⊢;obtain⟨b1,b2⟩:=b8f (a:=adj M i) hb j (by omega);rw[b4z]at hg;generalize (List.range j).foldl (b0r (adj M i)) (sn,td)=s at b1 b2 hg ⊢;have b3:s.2.length<=td.length+sn.count false:=by
   dsimp only at b2;omega
  have e1:(j:Int)<(M.length:Int):=by omega
  have e2:(0:Int)<=(j:Int):=by omega
  have e3:(((M.getD i []).map (rp B32)).length:Int)=(M.length:Int):=by rw[List.length_map,hrow.1]
  have e4:(zs (i::s.2)).length=s.2.length+1:=by simp [zs]
  have e5:(s.2.length+1+1)*8<=140737488355328:=by omega
  have e6:(s.1.length:Int)=(M.length:Int):=by rw[b1.len]
  rw[Int.toNat_natCast,e9t B32 (by rw[hrow.1];exact hj),g9n,Option.bind_some];simp only[e1,e2,e3,e4,e5,e6,decide_true,if_true,List.length_cons,List.length_nil,Nat.zero_add];rw[g4m,g4q hM hi hj,wr (by omega) (by omega)];unfold b0r at hg;cases ha:adj M i j
  ·rw[ha,if_neg (by simp)]at hg;rw[if_neg (by decide)];exact hg
  ·rw[if_pos rfl];cases hs:s.1.getD j false
   ·rw[ha,hs,if_pos ⟨rfl,rfl⟩]at hg;rw[if_pos (by decide),<-hg];simp [zs]
   ·rw[ha,hs,if_neg (by simp)]at hg;rw[if_neg (by decide)];exact hg) (fun g'=>by
  unfold P.b6p;dsimp only
  change _=g (zs (b5j (adj M i) M.length (sn,td)).2,mp B32 M,(b5j (adj M i) M.length (sn,td)).1,())
  rw[show(List.range M.length).foldl (b0r (adj M i)) (sn,td)=b5j (adj M i) M.length (sn,td)from rfl];generalize b5j (adj M i) M.length (sn,td)=s;have e4:(zs (i::s.2)).length=s.2.length+1:=by simp [zs]
  have e5:(0:Int)<=((s.2.length+1:Nat):Int):=by omega
  have e6:((s.2.length+1:Nat):Int)+0<=((s.2.length+1:Nat):Int):=by omega
  have e7:(1:Int)<=((s.2.length+1:Nat):Int):=by omega
  rw[if_neg (by simp)];simp only[e4,e5,e6,e7,decide_true,if_true,Int.toNat_natCast];have e8:seen (zs (i::s.2)) 1 (s.2.length+1 - 1)=zs s.2:=by
   show(zs s.2).take (s.2.length+1 - 1)=zs s.2;exact List.take_of_length_le (by rw[c4i];omega)
  rw[e8]) hK
 exact key
theorem f8g {M:List (List Q3)} (hM:isM M) {K:Nat} (hK:M.length<K):∀(f k:Nat) (sn:List Bool) (td:List Nat),Bok M.length (sn,td)->td.length+sn.count false<=f->f<k->f<=1000000->loopP (P.c5y K) k (zs td,mp B32 M,sn,())=some (bfs (adj M) M.length f sn td,()):=by
 intro f
 induction f with
 |zero=>
  intro k sn td hb hm hk hf;cases k with
  |zero=>omega
  |succ k=>
   have:td=[]:=List.eq_nil_of_length_eq_zero (by omega);subst this;rw[a0j];rfl
 |succ f ih=>
  intro k sn td hb hm hk hf;cases k with
  |zero=>omega
  |succ k=>
   rw[a0j];cases td with
   |nil=>rfl
   |cons i r=>
    have hi:i<M.length:=hb.lt i (List.mem_cons_self ..);have hb':Bok M.length (sn,r):=⟨hb.len,fun t ht=>hb.lt t (List.mem_cons_of_mem _ ht)⟩
    have hm':r.length+sn.count false<=f:=by
     rw[List.length_cons]at hm;omega
    unfold P.c5y;dsimp only;have e1:((zs (i::r)).length:Int)>0:=by rw[c4i,List.length_cons];omega
    have e2:(zs (i::r)).getD 0 0=(i:Int):=rfl;have e3:(0:Int)<=(i:Int):=by omega
    have e4:(i:Int)<((mp B32 M).length:Int):=by rw[a4b];omega
    rw[e2];simp only[e1,e3,e4,decide_true,if_true,Int.toNat_natCast];rw[f5g hi,List.length_map,(c6o hM hi).1,f8f hM hi hb' (by omega) _ hK,bfs];obtain⟨c1,c2⟩:=b8f (a:=adj M i) hb' M.length (Nat.le_refl _);exact ih k _ _ c1 (by
     have:(b5j (adj M i) M.length (sn,r)).2.length+(b5j (adj M i) M.length (sn,r)).1.count false=r.length+sn.count false:=c2;omega) (by omega) (by omega)
open Classical in
def S.c5z (x:((List (List RB))×(Int×Unit))):(Option ((List Bool)×Unit)):=if(∃M,isM M/\x.1=mp B32 M)/\0<=x.2.1/\x.2.1<(x.1.length:Int)then some (b3j (adj (mv B32 x.1)) x.1.length x.2.1.toNat,())else none
theorem S.f4n (x r) (h:S.c5z x=some r):∃k,P.e9e k x=some r:=by
 obtain⟨m,s,u⟩:=x;unfold S.c5z at h;dsimp only at h;split at h
 case isFalse=>cases h
 rename_i hc;obtain⟨⟨M,hM,rfl⟩,h0,h1⟩:=hc;cases h;obtain⟨s,rfl⟩:=Int.eq_ofNat_of_zero_le h0;rw[b3r (by decide),a4b]at*;have hs:s<M.length:=by omega
 have hn:=hM.1;refine⟨M.length+1,?_⟩;unfold P.e9e;dsimp only;have e1:(0:Int)<=(M.length:Int):=by omega
 have e2:(M.length:Int)*1<=281474976710656:=by omega
 have e3:((List.replicate M.length false).length:Int)=(M.length:Int):=by simp
 rw[a4b];simp only[e1,e2,e3,h0,h1,Int.le_refl,decide_true,if_true,Int.toNat_natCast,Nat.zero_add];obtain⟨c1,c2⟩:=c9y hs;exact f8g hM (K:=M.length+1) (by omega) M.length (M.length+1) _ [s] c1 (by omega) (by omega) (by omega)
abbrev P.b5s (x1:Int×Int×List (List Bool)×List (List RB)×Unit) (g2:Int×Int×List (List Bool)×List (List RB)×Unit->Option (List (List Bool)×Unit)):Option (List (List Bool)×Unit):=
 if decide (x1.1<x1.2.1)then(S.c5z (x1.2.2.2.1,x1.1,())).bind fun y3=>if decide (((x1.2.2.1.length+(List.length [y3.1]))*24)<=140737488355328)then g2 (wrap .i64 (x1.1+1),x1.2.1,x1.2.2.1++[y3.1],x1.2.2.2.1,())else none else some (x1.2.2.1,())
def P.d1a (k:Nat) (x:List (List RB)×Unit):Option (List (List Bool)×Unit):=
 loopP P.b5s k (0,(x.1.length:Int),[],x.1,())
def c3q (M:List (List Q3)):List (List Bool):=tab M.length fun i=>b3j (adj M) M.length i
theorem g9o {M:List (List Q3)} (hM:isM M) {i:Nat} (hi:i<M.length):S.c5z (mp B32 M,(i:Int),())=some (b3j (adj M) M.length i,()):=by
 unfold S.c5z;dsimp only;rw[if_pos ⟨⟨M,hM,rfl⟩,by omega,by rw[a4b];omega⟩,b3r (by decide),a4b,Int.toNat_natCast]
open Classical in
def S.b6q (x:((List (List RB))×Unit)):(Option ((List (List Bool))×Unit)):=if ∃M,isM M/\x.1=mp B32 M then some (c3q (mv B32 x.1),())else none
theorem S.e4b (x r) (h:S.b6q x=some r):∃k,P.d1a k x=some r:=by
 obtain⟨m,u⟩:=x;unfold S.b6q at h;dsimp only at h;split at h
 case isFalse=>cases h
 rename_i hc;obtain⟨M,hM,rfl⟩:=hc;cases h;rw[b3r (by decide)];have hn:=hM.1;refine⟨M.length+1,?_⟩;unfold P.d1a;dsimp only;rw[a4b];have key:=a0f (k:=M.length+1) (b:=P.b5s) (n:=M.length) (st:=fun i=>((i:Int),(M.length:Int),tab i (fun i=>b3j (adj M) M.length i),mp B32 M,())) (F:=fun i=>some (c3q M,())) (fun i g hi hg=>by
  unfold P.b5s;dsimp only at hg ⊢;have e1:(i:Int)<(M.length:Int):=by omega
  have e2:(i+1)*24<=140737488355328:=by omega
  rw[g9o hM hi,Option.bind_some];simp only[e1,e2,a1r,decide_true,if_true,List.length_cons,List.length_nil,Nat.zero_add];rw[wr (by omega) (by omega),<-hg,c1k];rfl) (fun g=>by
  unfold P.b5s;dsimp only;rw[if_neg (by simp)];rfl) (by omega)
 exact key
abbrev i_classes.A:=Int×Int×List (List Bool)×Int×List Int×List Bool×Bool×Int×Int×List (List RB)×Unit
abbrev i_classes.B:=Int×Int×List Int×List (List RB)×List (List Bool)×List Bool×Unit
abbrev i_classes.C:=Option ((List Int×List Bool)×Unit)
abbrev P.b2k (g4:i_classes.B->i_classes.C) (x6:i_classes.A) (g7:i_classes.A->i_classes.C):i_classes.C:=
 (fun(a b d i j:Int) (c:List (List Bool)) (e:List Int) (f:List Bool) (h:Bool) (l:List (List RB))=>if decide (a<b)then if decide (0<=d)then if decide (d<(c.length:Int))then if decide (0<=a)then if decide (a<(List.length (c.getD d.toNat []):Int))then if List.getD (c.getD d.toNat []) a.toNat false then if decide (0<=a)then if decide (a<(c.length:Int))then if decide (0<=d)then if decide (d<(List.length (c.getD a.toNat []):Int))then if List.getD (c.getD a.toNat []) d.toNat false then if decide (0<=a)then if decide (a<(e.length:Int))then if h then if decide (0<=d)then if decide (d<(c.length:Int))then if decide (0<=a)then if decide (a<(List.length (c.getD d.toNat []):Int))then if ! (List.getD (c.getD d.toNat []) a.toNat false)then g7 (wrap .i64 (a+1),b,c,d,e.set (0+a.toNat) (f.length:Int),f,true,i,j,l,())else if decide (0<=a)then if decide (a<(c.length:Int))then if decide (0<=d)then if decide (d<(List.length (c.getD a.toNat []):Int))then g7 (wrap .i64 (a+1),b,c,d,e.set (0+a.toNat) (f.length:Int),f,List.getD (c.getD a.toNat []) d.toNat false,i,j,l,())else none else none else none else none else none else none else none else none else g7 (wrap .i64 (a+1),b,c,d,e.set (0+a.toNat) (f.length:Int),f,false,i,j,l,())else none else none else if h then if decide (0<=d)then if decide (d<(c.length:Int))then if decide (0<=a)then if decide (a<(List.length (c.getD d.toNat []):Int))then if ! (List.getD (c.getD d.toNat []) a.toNat false)then g7 (wrap .i64 (a+1),b,c,d,e,f,true,i,j,l,())else if decide (0<=a)then if decide (a<(c.length:Int))then if decide (0<=d)then if decide (d<(List.length (c.getD a.toNat []):Int))then g7 (wrap .i64 (a+1),b,c,d,e,f,List.getD (c.getD a.toNat []) d.toNat false,i,j,l,())else none else none else none else none else none else none else none else none else g7 (wrap .i64 (a+1),b,c,d,e,f,false,i,j,l,())else none else none else none else none else if h then if decide (0<=d)then if decide (d<(c.length:Int))then if decide (0<=a)then if decide (a<(List.length (c.getD d.toNat []):Int))then if ! (List.getD (c.getD d.toNat []) a.toNat false)then g7 (wrap .i64 (a+1),b,c,d,e,f,true,i,j,l,())else if decide (0<=a)then if decide (a<(c.length:Int))then if decide (0<=d)then if decide (d<(List.length (c.getD a.toNat []):Int))then g7 (wrap .i64 (a+1),b,c,d,e,f,List.getD (c.getD a.toNat []) d.toNat false,i,j,l,())else none else none else none else none else none else none else none else none else g7 (wrap .i64 (a+1),b,c,d,e,f,false,i,j,l,())else none else none else none else none else if decide (((f.length+(List.length [h]))*1)<=140737488355328)then g4 (wrap .i64 (i+1),j,e,l,c,f++[h],())else none) x6.1 x6.2.1 x6.2.2.2.1 x6.2.2.2.2.2.2.2.1 x6.2.2.2.2.2.2.2.2.1 x6.2.2.1 x6.2.2.2.2.1 x6.2.2.2.2.2.1 x6.2.2.2.2.2.2.1 x6.2.2.2.2.2.2.2.2.2.1
abbrev P.b5t (k:Nat) (x3:i_classes.B) (g4:i_classes.B->i_classes.C):i_classes.C:=
 if decide (x3.1<x3.2.1)then if decide (0<=x3.1)then if decide (x3.1<(x3.2.2.1.length:Int))then if decide ((x3.2.2.1.getD (0+x3.1.toNat) 0)>=0)then g4 (wrap .i64 (x3.1+1),x3.2.1,x3.2.2.1,x3.2.2.2.1,x3.2.2.2.2.1,x3.2.2.2.2.2.1,())else loopP (P.b2k g4) k (0,(x3.2.2.2.1.length:Int),x3.2.2.2.2.1,x3.1,x3.2.2.1,x3.2.2.2.2.2.1,true,x3.1,x3.2.1,x3.2.2.2.1,())else none else none else some ((x3.2.2.1,x3.2.2.2.2.2.1),())
def P.d1b (k:Nat) (x:List (List RB)×Unit):i_classes.C:=
 (S.b6q (x.1,())).bind fun y0=>(S.a1l ([(-1:Int)],(x.1.length:Int),())).bind fun y1=>loopP (P.b5t k) k (0,(x.1.length:Int),y1.1,x.1,y0.1,[],())
theorem f2o {M:List (List Q3)} {i j:Nat} (hi:i<M.length):((c3q M).getD i []).getD j false=rcB M i j:=by
 unfold c3q rcB;rw[e0b _ _ hi]
theorem f8h {M:List (List Q3)} :(c3q M).length=M.length:=by
 unfold c3q;rw[a1r]
theorem e4c {M:List (List Q3)} {i:Nat} (hi:i<M.length):((c3q M).getD i []).length=M.length:=by
 unfold c3q;rw[e0b _ _ hi,c6n hi]
theorem f8i {M:List (List Q3)} {i:Nat} (hi:i<M.length) (hn:M.length<=12) (f:Nat->Int) (cl:List Bool) (hcl:cl.length<=12)
  (g) {K:Nat} (hK:M.length<K) (p:List (List RB)):
  loopP (P.b2k g) K ((0:Int),(M.length:Int),c3q M,(i:Int),tab M.length f,cl,true,(i:Int),(M.length:Int),p,())=g (((i+1:Nat):Int),(M.length:Int),tab M.length (fun j=>if(rcB M i j&&rcB M j i)=true then(cl.length:Int)else f j),p,c3q M,cl++[(List.range M.length).all fun j=> !rcB M i j||rcB M j i],()):=by
 have key:=a0f (k:=K) (b:=P.b2k g) (n:=M.length) (st:=fun j=>((j:Int),(M.length:Int),c3q M,(i:Int),upT M.length f (fun j=>rcB M i j&&rcB M j i) (cl.length:Int) j,cl,(List.range j).all (fun j=> !rcB M i j||rcB M j i),(i:Int),(M.length:Int),p,())) (F:=fun _=>g (((i+1:Nat):Int),(M.length:Int),tab M.length (fun j=>if(rcB M i j&&rcB M j i)=true then(cl.length:Int)else f j),p,c3q M,cl++[(List.range M.length).all fun j=> !rcB M i j||rcB M j i],())) (fun j g' hj hg=>by
  unfold P.b2k;dsimp only at hg ⊢;have e1:(j:Int)<(M.length:Int):=by omega
  have e2:(0:Int)<=(j:Int):=by omega
  have e3:(0:Int)<=(i:Int):=by omega
  have e4:(i:Int)<(M.length:Int):=by omega
  have e5:∀k,(upT M.length f (fun j=>rcB M i j&&rcB M j i) (cl.length:Int) k).length=M.length:=fun k=>a1r _ _
  simp only[f8h,Int.toNat_natCast,e4c hi,e4c hj,f2o hi,f2o hj,e1,e2,e3,e4,e5,decide_true,if_true,Nat.zero_add];rw[wr (by omega) (by omega)];rw[f3e]at hg;cases h1:rcB M i j
  ·rw[<-g7z (by rw[h1];rfl),h1,Bool.not_false,Bool.true_or,Bool.and_true]at hg;cases hs:(List.range j).all fun j=> !rcB M i j||rcB M j i
   ·rw[hs]at hg;exact hg
   ·rw[hs]at hg;exact hg
  ·cases h2:rcB M j i
   ·rw[<-g7z (by rw[h1,h2];rfl),h1,h2,Bool.not_true,Bool.false_or,Bool.and_false]at hg;cases hs:(List.range j).all fun j=> !rcB M i j||rcB M j i
    ·exact hg
    ·exact hg
   ·rw[<-h0m (by rw[h1,h2];rfl),h1,h2,Bool.not_true,Bool.false_or,Bool.and_true]at hg;cases hs:(List.range j).all fun j=> !rcB M i j||rcB M j i
    ·rw[hs]at hg;exact hg
    ·rw[hs]at hg;exact hg) (fun g'=>by
  unfold P.b2k;dsimp only;have e1:(cl.length+1)*1<=140737488355328:=by omega
  rw[if_neg (by simp),h0n];simp only[List.length_cons,List.length_nil,Nat.zero_add,e1,decide_true,if_true];rw[wr (by omega) (by omega)];rfl) hK
 refine Eq.trans ?_ key;unfold upT;congr 2
open Classical in
def S.b2l (x:((List (List RB))×Unit)):(Option (((List Int)×(List Bool))×Unit)):=if ∃M,isM M/\x.1=mp B32 M then some (a9u (mv B32 x.1),())else none
theorem S.e4d (x r) (h:S.b2l x=some r):∃k,P.d1b k x=some r:=by
 obtain⟨m,u⟩:=x;unfold S.b2l at h;dsimp only at h;split at h
 case isFalse=>cases h
 rename_i hc;obtain⟨M,hM,rfl⟩:=hc;cases h;rw[b3r (by decide)];have hn:=hM.1;refine⟨M.length+1,?_⟩;unfold P.d1b;dsimp only;have er:S.b6q (mp B32 M,())=some (c3q M,()):=by
  unfold S.b6q;dsimp only;rw[if_pos ⟨M,hM,rfl⟩,b3r (by decide)]
 have ep:S.a1l ([-1],(M.length:Int),())=some (List.replicate M.length (-1),()):=by
  unfold S.a1l;dsimp only;rw[if_pos ⟨rfl,by omega,by omega⟩,Int.toNat_natCast];rfl
 rw[er,a4b,Option.bind_some,ep,Option.bind_some];have key:=a0f (k:=M.length+1) (b:=P.b5t (M.length+1)) (n:=M.length) (st:=fun i=>((i:Int),(M.length:Int),((List.range i).foldl (a6o (rcB M) M.length) (List.replicate M.length (-1),[])).1,mp B32 M,c3q M,((List.range i).foldl (a6o (rcB M) M.length) (List.replicate M.length (-1),[])).2,())) (F:=fun _=>some (a9u M,())) (fun i g hi hg=>by
  unfold P.b5t;dsimp only at hg ⊢;obtain⟨l1,l2⟩:=b8j (rcB M) M.length i;rw[b4z]at hg;generalize (List.range i).foldl (a6o (rcB M) M.length) (List.replicate M.length (-1),[])=s at l1 l2 hg ⊢;have e1:(i:Int)<(M.length:Int):=by omega
  have e2:(0:Int)<=(i:Int):=by omega
  have e3:(i:Int)<(s.1.length:Int):=by omega
  have e4:s.1.getD i 0=s.1.getD i (-1):=by
   rw[List.getD_eq_getElem?_getD,List.getD_eq_getElem?_getD,List.getElem?_eq_getElem (by omega)];rfl
  simp only[e1,e2,e3,decide_true,if_true,Int.toNat_natCast,Nat.zero_add,e4,a4b];unfold a6o at hg
  by_cases h0:0<=s.1.getD i (-1)
  ·rw[if_pos h0]at hg;rw[if_pos (decide_eq_true h0),wr (by omega) (by omega)];exact hg
  ·rw[if_neg h0]at hg;rw[if_neg (by simpa using h0)];have hs:s.1=tab M.length fun v=>s.1.getD v (-1):=by
    conv=>lhs;rw[f9t s.1 (-1),l1]
   rw[hs];refine Eq.trans (f8i hi hn (fun v=>s.1.getD v (-1)) s.2 (by omega) g (by omega) _) ?_;exact hg) (fun g=>by
  unfold P.b5t;dsimp only;rw[if_neg (by simp)];rfl) (by omega)
 exact key
def P.c0y (k:Nat) (x:List (List RB)×Unit):Option (Bool×Unit):=
 (S.b2l (x.1,())).bind fun y0=>some ((y0.1.2.length:Int)==1,())
def S.b6r (x:((List (List RB))×Unit)):(Option (Bool×Unit)):=P.c0y 0 x
theorem S.d9k (x r) (h:S.b6r x=some r):∃k,P.c0y k x=some r:=⟨0,h⟩
def P.d1c (k:Nat) (x:RB×RB×Unit):Option (RB×Unit):=
 (S.a0u ((x.1.1,x.1.2.1,x.1.2.2),())).bind fun y0=>if y0.1==0 then(S.a4q (0,())).bind fun y1=>some ((y1.1.1,y1.1.2.1,y1.1.2.2),())else(S.a0u ((x.2.1.1,x.2.1.2.1,x.2.1.2.2),())).bind fun y2=>if y2.1==0 then(S.a4q (0,())).bind fun y3=>some ((y3.1.1,y3.1.2.1,y3.1.2.2),())else(S.a5m (false,x.1.2.1,x.2.1.2.2,())).bind fun y4=>(S.a5m (false,x.2.1.2.1,x.1.2.2,())).bind fun y5=>(S.a2s (y4.1.2.1,y5.1.2.1,())).bind fun y6=>(S.a2s (y4.1.2.2,y5.1.2.2,())).bind fun y7=>some ((! (x.1.1==x.2.1.1),y6.1,y7.1),())
theorem g7j (p q:Nat) (hp:(nd B32 p).length<=100000000) (hq:(nd B32 q).length<=100000000):S.a2s (nd B32 p,(nd B32 q,()))=some (nd B32 (p*q),()):=by
 unfold S.a2s;dsimp only;rw[if_pos ⟨a3z a0e _,a3z a0e _,by omega,by omega⟩,a0i a0e,a0i a0e]
theorem g7k (n:Bool) (p q:Nat) (hp:(nd B32 p).length<=100000000) (hq:(nd B32 q).length<=100000000) (h0:q≠0):S.a5m (n,(nd B32 p,(nd B32 q,())))=some (rp B32 (c1f n p q),()):=by
 unfold S.a5m;dsimp only;rw[if_pos ⟨a0m a0e _,a0m a0e _,f5a a0e h0,by omega,by omega⟩,a0i a0e,a0i a0e]
theorem f8j (n:Bool) (p:Nat) (bs:List Int):S.a0u ((n,(nd B32 p,bs)),())=some (d7n n p,()):=by
 unfold S.a0u;dsimp only;rw[if_pos (a0m a0e _),a0i a0e]
theorem g9p:S.a4q (0,())=some (rp B32 (false,(0,1)),()):=by
 unfold S.a4q;rfl
def S.a3n (x:(RB×(RB×Unit))):(Option (RB×Unit)):=if c4b B32 40000000 x.1=true/\c4b B32 40000000 x.2.1=true then some (rp B32 (b8c (rv B32 x.1) (rv B32 x.2.1)),())else none
theorem S.e4e (x r) (h:S.a3n x=some r):∃k,P.d1c k x=some r:=by
 obtain⟨x,y,u⟩:=x;unfold S.a3n at h;dsimp only at h;split at h
 case isFalse=>cases h
 rename_i hc;obtain⟨hx,hy⟩:=hc;cases h;rw[a8f]at hx hy;obtain⟨hx,lx⟩:=hx;obtain⟨hy,ly⟩:=hy;obtain⟨n1,p1,q1,rfl,x1,x2⟩:=b2p hx;obtain⟨n2,p2,q2,rfl,y1,y2⟩:=b2p hy;rw[b9v a0e]at lx ly ⊢;rw[b9v a0e];have hq1:0<q1:=lx.1;have hq2:0<q2:=ly.1;refine⟨0,?_⟩;unfold P.d1c b8c;dsimp only;rw[f8j,Option.bind_some,g9p,Option.bind_some];dsimp only
 by_cases h1:p1=0
 ·rw[if_pos (by simpa using a7s.2 h1),h1,Nat.zero_mul,e4n _ (Nat.mul_pos hq1 hq2)]
 ·rw[if_neg (by simpa using fun q=>h1 (a7s.1 q)),f8j,Option.bind_some];dsimp only
  by_cases h2:p2=0
  ·rw[if_pos (by simpa using a7s.2 h2),h2,Nat.mul_zero,e4n _ (Nat.mul_pos hq1 hq2)]
  ·have d1:=c1i a0e p1 (Nat.gcd p1 q2);have d2:=c1i a0e p2 (Nat.gcd p2 q1);have d3:=c1i a0e q2 (Nat.gcd p1 q2);have d4:=c1i a0e q1 (Nat.gcd p2 q1);rw[if_neg (by simpa using fun q=>h2 (a7s.1 q)),g7k false p1 q2 (by omega) (by omega) (by omega),Option.bind_some,g7k false p2 q1 (by omega) (by omega) (by omega),Option.bind_some,f9e _ (fun _=>⟨h1,h2⟩) hq1 hq2 lx.2.2 ly.2.2];unfold rp c1f;dsimp only;rw[g7j _ _ (by omega) (by omega),Option.bind_some,g7j _ _ (by omega) (by omega),Option.bind_some];rfl
def P.d7g (k:Nat) (x:RB×RB×Unit):Option (RB×Unit):=
 (S.a3n ((x.1.1,x.1.2.1,x.1.2.2),(x.2.1.1,x.2.1.2.2,x.2.1.2.1),())).bind fun y0=>some ((y0.1.1,y0.1.2.1,y0.1.2.2),())
def S.a2t (x:(RB×(RB×Unit))):(Option (RB×Unit)):=if c4b B32 40000000 x.1=true/\c4b B32 40000000 x.2.1=true/\(rv B32 x.2.1).2.1≠0 then some (rp B32 (a2p (rv B32 x.1) (rv B32 x.2.1)),())else none
theorem S.d9l (x r) (h:S.a2t x=some r):∃k,P.d7g k x=some r:=by
 obtain⟨x,y,u⟩:=x;unfold S.a2t at h;dsimp only at h;split at h
 case isFalse=>cases h
 rename_i hc;obtain⟨hx,hy,h0⟩:=hc;cases h;have hy':=a8f.1 hy;refine⟨0,?_⟩;have e2:S.a3n (x,((y.1,(y.2.2,y.2.1)),()))=some (rp B32 (a2p (rv B32 x) (rv B32 y)),()):=by
  unfold S.a3n;dsimp only;have hz:c4b B32 40000000 (y.1,(y.2.2,y.2.1))=true:=by
   rw[a8f];obtain⟨r1,l1⟩:=hy';have r2:=b9s.1 r1;refine⟨b9s.2 ⟨r2.2.1,r2.1,r2.2.2.2,r2.2.2.1⟩,?_⟩;obtain⟨l1,l2,l3⟩:=l1;refine⟨Nat.pos_of_ne_zero h0,fun _=>Nat.ne_of_gt l1,?_⟩;rw[Nat.gcd_comm];exact l3
  rw[if_pos ⟨hx,hz⟩];rfl
 show Option.bind (S.a3n (x,((y.1,(y.2.2,y.2.1)),()))) (fun y0=>some (y0.1,()))=_;rw[e2,Option.bind_some]
theorem g9q {x y:Q3} {m n:Nat} (hx:low x) (bx:below m x) (hy:low y) (bY:below n y) (h0:y.2.1≠0) (hm:m<=350000000) (hn:n<=350000000):S.a2t (rp B32 x,(rp B32 y,()))=some (rp B32 (a2p x y),()):=by
 unfold S.a2t;dsimp only;rw[if_pos ⟨a4m (by decide) hx bx (by omega),a4m (by decide) hy bY (by omega),by rw[a4t a0e];exact h0⟩,a4t a0e,a4t a0e]
abbrev P.a2f (x2:(Int×((List RB)×Unit))) (g3:(Int×((List RB)×Unit))->Option ((List RB)×Unit)):Option ((List RB)×Unit):=
 (if((decide (x2.1<((List.length x2.2.1):Int)))=true)then(if((decide ((0:Int)<=((List.length x2.2.1):Int)))=true)then(if((decide ((((List.length x2.2.1):Int)+(0:Int))<=((List.length x2.2.1):Int)))=true)then(if((decide ((0:Int)<=x2.1))=true)then(if((decide (x2.1<=((List.length x2.2.1):Int)))=true)then(if((decide ((0:Int)<=x2.1))=true)then(if((decide ((x2.1+(0:Int))<=((List.length x2.2.1):Int)))=true)then(if((decide ((0:Int)<=x2.1))=true)then(g3 ((IntKind.wrap .i64 (x2.1+(((Min.min (List.length (seen x2.2.1 (0:Nat) ((Int.toNat x2.1) - (0:Nat)))) ((Int.toNat ((List.length x2.2.1):Int)) - (Int.toNat x2.1))):Nat):Int))),((splice x2.2.1 (List.take ((Int.toNat ((List.length x2.2.1):Int)) - (Int.toNat x2.1)) (seen x2.2.1 (0:Nat) ((Int.toNat x2.1) - (0:Nat)))) ((0:Nat)+(Int.toNat x2.1))),())))
 else none)
 else none)
 else none)
 else none)
 else none)
 else none)
 else none)
 else(some (x2.2.1,())))
def P.a4f (k:Nat) (x:((List RB)×(Int×Unit))):(Option ((List RB)×Unit)):=
 (if((decide (x.2.1<(0:Int)))=true)then none
 else(Option.bind (S.a2v ((IntKind.wrap .u64 ((List.length x.1):Int)),((IntKind.wrap .u64 x.2.1),()))) (fun(y0:((Int×Int)×Unit))=>(if((decide (y0.1.1>(0:Int)))=true)then none
 else(if((decide (y0.1.2>(9223372036854775807:Int)))=true)then none
 else(if((decide ((0:Int)<=(IntKind.wrap .i64 y0.1.2)))=true)then(if((decide ((IntKind.wrap .i64 y0.1.2)<=(IntKind.wrap .i64 y0.1.2)))=true)then(if((decide (((IntKind.wrap .i64 y0.1.2)*(56:Int))<=(281474976710656:Int)))=true)then(loopP (X:=(Int×((List RB)×Unit))) (R:=((List RB)×Unit)) (P.a2f) k ((((Min.min (List.length x.1) (List.length (List.replicate (Int.toNat (IntKind.wrap .i64 y0.1.2)) (false,(([]:List Int),([]:List Int)))))):Nat):Int),((splice (List.replicate (Int.toNat (IntKind.wrap .i64 y0.1.2)) (false,(([]:List Int),([]:List Int)))) (List.take (List.length (List.replicate (Int.toNat (IntKind.wrap .i64 y0.1.2)) (false,(([]:List Int),([]:List Int))))) x.1) (0:Nat)),())))
 else none)
 else none)
 else none))))))
def PP.a6l (k:Nat) (x:((List RB)×(Int×Unit))):(Option ((List RB)×Unit)):=
 (Decidable.rec (motive:=fun _=>(Option ((List RB)×Unit))) (fun _=>(Option.bind (S.a2v ((IntKind.wrap .u64 ((List.length x.1):Int)),((IntKind.wrap .u64 x.2.1),()))) (fun(y0:((Int×Int)×Unit))=>(Decidable.rec (motive:=fun _=>(Option ((List RB)×Unit))) (fun _=>(Decidable.rec (motive:=fun _=>(Option ((List RB)×Unit))) (fun _=>(Decidable.rec (motive:=fun _=>(Option ((List RB)×Unit))) (fun _=>none) (fun _=>(Decidable.rec (motive:=fun _=>(Option ((List RB)×Unit))) (fun _=>none) (fun _=>(Decidable.rec (motive:=fun _=>(Option ((List RB)×Unit))) (fun _=>none) (fun _=>(loopP (X:=(Int×((List RB)×Unit))) (R:=((List RB)×Unit)) (P.a2f) k ((((Min.min (List.length x.1) (List.length (List.replicate (Int.toNat (IntKind.wrap .i64 y0.1.2)) (false,(([]:List Int),([]:List Int)))))):Nat):Int),((splice (List.replicate (Int.toNat (IntKind.wrap .i64 y0.1.2)) (false,(([]:List Int),([]:List Int)))) (List.take (List.length (List.replicate (Int.toNat (IntKind.wrap .i64 y0.1.2)) (false,(([]:List Int),([]:List Int))))) x.1) (0:Nat)),())))) (instDecidableEqBool (decide (((IntKind.wrap .i64 y0.1.2)*(56:Int))<=(281474976710656:Int))) true))) (instDecidableEqBool (decide ((IntKind.wrap .i64 y0.1.2)<=(IntKind.wrap .i64 y0.1.2))) true))) (instDecidableEqBool (decide ((0:Int)<=(IntKind.wrap .i64 y0.1.2))) true))) (fun _=>none) (instDecidableEqBool (decide (y0.1.2>(9223372036854775807:Int))) true))) (fun _=>none) (instDecidableEqBool (decide (y0.1.1>(0:Int))) true))))) (fun _=>none) (instDecidableEqBool (decide (x.2.1<(0:Int))) true))
theorem PP.b2m (k:Nat) (x:((List RB)×(Int×Unit))):PP.a6l k x=P.a4f k x:=rfl
theorem e4f:∀n:Fin 21,S.a2v (1,((n.val:Int),()))=some ((0,(n.val:Int)),()):=by decide
def S.a0q (x:((List RB)×(Int×Unit))):(Option ((List RB)×Unit)):=if x.1.length=1/\0<=x.2.1/\x.2.1<=20 then some (List.replicate x.2.1.toNat (x.1.getD 0 (false,([],[]))),())else none
theorem S.b3d (x r) (h:S.a0q x=some r):∃k,P.a4f k x=some r:=by
 obtain⟨xs,m,u⟩:=x;unfold S.a0q at h;dsimp only at h;split at h
 case isFalse=>cases h
 rename_i hc;cases h;obtain⟨hx,h1,h2⟩:=hc;obtain⟨a,rfl⟩:∃a,xs=[a]:=by
  match xs,hx with
  | [a],_=>exact⟨a,rfl⟩
 obtain⟨M,rfl⟩:∃M:Nat,m=(M:Int):=⟨m.toNat,by omega⟩
 rw[Int.toNat_natCast];refine⟨M+2,?_⟩;unfold P.a4f;dsimp only;have hmul:=e4f ⟨M,by omega⟩;dsimp only at hmul;have e0:IntKind.wrap .u64 (M:Int)=(M:Int):=IntWalk.u64_in _ (by omega);rw[if_neg (by simp),e0];show Option.bind (S.a2v (1,((M:Int),()))) _=_;rw[hmul,Option.bind_some];dsimp only;rw[if_neg (show ¬((decide ((0:Int)>0))=true) by simp),if_neg (by simpa using(show ¬(M:Int)>9223372036854775807 by omega)),wr (by omega) (by omega),if_pos (decide_eq_true (show(0:Int)<=(M:Int) by omega)),if_pos (by simp),if_pos (decide_eq_true (show(M:Int)*56<=281474976710656 by omega)),Int.toNat_natCast];simp only[List.length_replicate,List.length_cons,List.length_nil,Nat.zero_add];have key:∀(d j k:Nat),j+d=M->1<=j->d<k->loopP P.a2f k ((j:Int),List.replicate j a++List.replicate d (false,(([]:List Int),([]:List Int))),())=some (List.replicate M a,()):=by
  intro d
  induction d using Nat.strongRecOn with
  |ind d ih=>
   intro j k hj h1 hk;cases k with
   |zero=>omega
   |succ k=>
    rw[a0j];unfold P.a2f;have hlen:(List.replicate j a++List.replicate d (false,(([]:List Int),([]:List Int)))).length=M:=by simp;omega
    dsimp only;rw[hlen]
    by_cases hd:d=0
    ·subst hd;rw[if_neg (by simpa using(show ¬(j:Int)<(M:Int) by omega))];rw[show j=M by omega];simp
    ·have c1:(j:Int)<(M:Int):=by omega
     have c2:(0:Int)<=(M:Int):=by omega
     have c3:(M:Int)+0<=(M:Int):=by omega
     have c4:(0:Int)<=(j:Int):=by omega
     have c5:(j:Int)<=(M:Int):=by omega
     have c6:(j:Int)+0<=(M:Int):=by omega
     simp only[c1,c2,c3,c4,c5,c6,decide_true,if_true];have hs:seen (List.replicate j a++List.replicate d (false,(([]:List Int),([]:List Int)))) 0 ((j:Int).toNat - 0)=List.replicate j a:=by
      unfold seen;rw[Int.toNat_natCast,Nat.sub_zero,List.drop_zero,List.take_left' (by simp)]
     rw[hs,List.length_replicate,Int.toNat_natCast,Int.toNat_natCast];have hsp:splice (List.replicate j a++List.replicate d (false,(([]:List Int),([]:List Int)))) (List.take (M - j) (List.replicate j a)) (0+j)=List.replicate (j+min j d) a++List.replicate (d - min j d) (false,(([]:List Int),([]:List Int))):=by
      unfold splice;rw[Nat.zero_add,List.take_left' (by simp),List.take_replicate,List.length_replicate,show M - j=d by omega,List.drop_append];simp only[List.length_replicate];rw[List.drop_of_length_le (by simp),List.nil_append,List.drop_replicate,<-List.replicate_append_replicate,show j+min d j - j=min d j by omega,Nat.min_comm d j]
     rw[hsp,show M - j=d by omega,wr (by omega) (by omega)];have:=ih (d - min j d) (by omega) (j+min j d) k (by omega) (by omega) (by omega);rw[<-this];congr 2
 match M,h2 with
 |0,_=>
  rfl
 |M+1,h2=>
  have:=key M 1 (M+1+2) (by omega) (by omega) (by omega);have a1:min 1 (M+1)=1:=by omega
  have a2:splice (List.replicate (M+1) (false,(([]:List Int),([]:List Int)))) (List.take (M+1) [a]) 0=List.replicate 1 a++List.replicate M (false,(([]:List Int),([]:List Int))):=by
   unfold splice;simp [List.replicate_succ]
  rw[a1,a2];exact this
abbrev i_zeros.A:=Option ((List (List RB×Nat)×Nat)×Unit)
abbrev P.c0z (x2:Int×Int×List (List RB×Nat)×Int×Unit) (g3:Int×Int×List (List RB×Nat)×Int×Unit->i_zeros.A):i_zeros.A:=
 if decide (x2.1<x2.2.1)then(S.a4q (0,())).bind fun y4=>(S.a0q ([(y4.1.1,y4.1.2.1,y4.1.2.2)],x2.2.2.2.1,())).bind fun y5=>if decide (0<=x2.1)then if decide (x2.1<(List.length (hd0 x2.2.2.1):Int))then if dup (List.map (fun(y6:Nat×Nat)=>y6.1) (List.set (hd0 x2.2.2.1) (0+x2.1.toNat) (List.length (in0 x2.2.2.1),y5.1.length)))then none else g3 (wrap .i64 (x2.1+1),x2.2.1,nrm (List.set (hd0 x2.2.2.1) (0+x2.1.toNat) (List.length (in0 x2.2.2.1),y5.1.length)) ((in0 x2.2.2.1)++[y5.1]),x2.2.2.2.1,())else none else none else if dup (List.map (fun(y7:Nat×Nat)=>y7.1) (hd0 x2.2.2.1))then none else some ((nrm (hd0 x2.2.2.1) (in0 x2.2.2.1),List.length (hd0 x2.2.2.1)),())
def P.e9f (k:Nat) (x:Int×Unit):i_zeros.A:=
 if decide (0<=x.1)then if decide (x.1<=x.1)then if decide ((x.1*24)<=281474976710656)then if dup (List.map (fun(y0:Nat×Nat)=>y0.1) (hd0 (List.replicate x.1.toNat (([]:List RB),0))))then none else loopP P.c0z k (0,(List.length (hd0 (List.replicate x.1.toNat (([]:List RB),0))):Int),nrm (hd0 (List.replicate x.1.toNat (([]:List RB),0))) (in0 (List.replicate x.1.toNat (([]:List RB),0))),x.1,())else none else none else none
theorem h5v {n:Nat} (h:n<=12):S.a0q ([((rp B32 a3f).1,(rp B32 a3f).2.1,(rp B32 a3f).2.2)],(n:Int),())=some (List.replicate n (rp B32 a3f),()):=by
 unfold S.a0q;dsimp only;rw[if_pos ⟨rfl,by omega,by omega⟩,Int.toNat_natCast];rfl
def S.c6a (x:(Int×Unit)):(Option (((List ((List RB)×Nat))×Nat)×Unit)):=if 0<=x.1/\x.1<=12 then some ((List.replicate x.1.toNat (List.replicate x.1.toNat (rp B32 a3f),x.1.toNat),x.1.toNat),())else none
theorem S.f4o (x r) (h:S.c6a x=some r):∃k,P.e9f k x=some r:=by
 obtain⟨n,u⟩:=x;unfold S.c6a at h;dsimp only at h;split at h
 case isFalse=>cases h
 rename_i hc;obtain⟨h0,h1⟩:=hc;cases h;obtain⟨n,rfl⟩:=Int.eq_ofNat_of_zero_le h0;rw[Int.toNat_natCast];have hn:n<=12:=by omega
 refine⟨n+1,?_⟩;unfold P.e9f;dsimp only;have e1:(n:Int)*24<=281474976710656:=by omega
 simp only[h0,e1,Int.le_refl,a0r,a0w,a0k,List.length_replicate,Int.toNat_natCast,decide_true,if_true,Bool.false_eq_true,if_false];have hz:S.a4q (0,())=some (rp B32 a3f,()):=by rfl
 have key:=a0f (k:=n+1) (b:=P.c0z) (n:=n) (st:=fun i=>((i:Int),(n:Int),List.replicate i (List.replicate n (rp B32 a3f),n)++List.replicate (n - i) ([],0),(n:Int),())) (F:=fun i=>some ((List.replicate n (List.replicate n (rp B32 a3f),n),n),())) (fun i g hi hg=>by
  unfold P.c0z;dsimp only at hg ⊢;have hlen:(List.replicate i (List.replicate n (rp B32 a3f),n)++List.replicate (n - i) (([]:List RB),0)).length=n:=by simp;omega
  have e1:(i:Int)<(n:Int):=by omega
  have e2:(0:Int)<=(i:Int):=by omega
  simp only[e1,e2,hz,Option.bind_some,h5v hn,a0k,hlen,decide_true,if_true];simp only[c2m,d1t,Bool.false_eq_true,if_false,List.length_replicate];rw[wr (by omega) (by omega),<-hg];congr 1;have e3:n - i=(n - (i+1))+1:=by omega
  have e4:(0+(i:Int).toNat)=(List.replicate i (List.replicate n (rp B32 a3f),n)).length:=by rw[List.length_replicate];omega
  rw[e3,e4,c0w,List.replicate_succ'];rfl) (fun g=>by
  unfold P.c0z;dsimp only;have e1:¬(n:Int)<(n:Int):=by omega
  simp only[e1,decide_false,a0r,a0w,a0k,Bool.false_eq_true,if_false,Nat.sub_self,List.replicate_zero,List.append_nil,List.length_replicate]) (by omega)
 refine Eq.trans ?_ key;simp
abbrev P.c1b (x1:Int×Int×List Bool×List Int×Unit) (g2:Int×Int×List Bool×List Int×Unit->Option (List Int×Unit)):Option (List Int×Unit):=
 (fun(a b:Int) (c:List Bool) (d:List Int)=>if decide (a<b)then if decide (0<=a)then if decide (a<(c.length:Int))then if c.getD a.toNat false then if decide (((d.length+(List.length [a]))*8)<=140737488355328)then g2 (wrap .i64 (a+1),b,c,d++[a],())else none else g2 (wrap .i64 (a+1),b,c,d,())else none else none else some (d,())) x1.1 x1.2.1 x1.2.2.1 x1.2.2.2.1
def P.e9g (k:Nat) (x:List Bool×Unit):Option (List Int×Unit):=
 loopP P.c1b k (0,(x.1.length:Int),x.1,[],())
def S.c6b (x:((List Bool)×Unit)):(Option ((List Int)×Unit)):=if x.1.length<=1000000 then some (a5o 0 x.1,())else none
theorem S.f4p (x r) (h:S.c6b x=some r):∃k,P.e9g k x=some r:=by
 obtain⟨sn,u⟩:=x;unfold S.c6b at h;dsimp only at h;split at h
 case isFalse=>cases h
 rename_i hc;cases h;refine⟨sn.length+1,?_⟩;unfold P.e9g;dsimp only;have key:=a0f (k:=sn.length+1) (b:=P.c1b) (n:=sn.length) (st:=fun i=>((i:Int),(sn.length:Int),sn,a5o 0 (sn.take i),())) (F:=fun i=>some (a5o 0 sn,())) (fun i g hi hg=>by
  unfold P.c1b;dsimp only at hg ⊢;have e1:(i:Int)<(sn.length:Int):=by omega
  have e2:(0:Int)<=(i:Int):=by omega
  have e3:=c4g 0 (sn.take i);rw[List.length_take]at e3;have e4:((a5o 0 (sn.take i)).length+1)*8<=140737488355328:=by omega
  simp only[e1,e2,decide_true,if_true,List.length_cons,List.length_nil,Nat.zero_add,e4];rw[a0n sn i _ hi,wr (by omega) (by omega)];rw[<-List.take_append_getElem hi,c4h]at hg;cases hb:sn[i]
  ·rw[hb,if_neg (by decide),List.append_nil]at hg;rw[if_neg (by decide)];exact hg
  ·rw[hb,if_pos rfl]at hg;rw[if_pos rfl,<-hg];congr 1;simp;omega) (fun g=>by
  unfold P.c1b;dsimp only;rw[if_neg (by simp),List.take_length]) (by omega)
 exact key
abbrev P.b7w (x1:Int×Int×List RB×List RB×RB×Unit) (g2:Int×Int×List RB×List RB×RB×Unit->Option (List RB×Unit)):Option (List RB×Unit):=
 (fun(a b:Int) (c d:List RB) (e:RB)=>if decide (a<b)then if decide (0<=a)then if decide (a<(c.length:Int))then(S.a2t (((c.getD a.toNat (false,[],[])).1,(c.getD a.toNat (false,[],[])).2.1,(c.getD a.toNat (false,[],[])).2.2),(e.1,e.2.1,e.2.2),())).bind fun y3=>if decide (((d.length+(List.length [(y3.1.1,y3.1.2.1,y3.1.2.2)]))*56)<=140737488355328)then g2 (wrap .i64 (a+1),b,c,d++[(y3.1.1,y3.1.2.1,y3.1.2.2)],(e.1,e.2.1,e.2.2),())else none else none else none else some (d,())) x1.1 x1.2.1 x1.2.2.1 x1.2.2.2.1 x1.2.2.2.2.1
def P.d9m (k:Nat) (x:List RB×RB×Unit):Option (List RB×Unit):=
 loopP P.b7w k (0,(x.1.length:Int),x.1,[],(x.2.1.1,x.2.1.2.1,x.2.1.2.2),())
def d1d (qs:List Q3) (q:Q3):List Q3:=qs.map fun r=>a2p r q
theorem h2z {x y:Q3} (hx:low x) (bx:below 350000000 x) (hy:low y) (bY:below 350000000 y) (h0:y.2.1≠0):S.a2t (((rp B32 x).1,(rp B32 x).2.1,(rp B32 x).2.2),((rp B32 y).1,(rp B32 y).2.1,(rp B32 y).2.2),())=some (rp B32 (a2p x y),()):=g9q hx bx hy bY h0 (Nat.le_refl _) (Nat.le_refl _)
open Classical in
def S.b7x (x:((List RB)×(RB×Unit))):(Option ((List RB)×Unit)):=if ∃(qs:List Q3) (q:Q3),x.1=qs.map (rp B32)/\x.2.1=rp B32 q/\qs.length<=1000000/\(∀r∈qs,low r/\below 350000000 r)/\low q/\below 350000000 q/\q.2.1≠0 then some ((d1d (x.1.map (rv B32)) (rv B32 x.2.1)).map (rp B32),())else none
theorem S.e9h (x r) (h:S.b7x x=some r):∃k,P.d9m k x=some r:=by
 obtain⟨xs,y,u⟩:=x;unfold S.b7x at h;dsimp only at h;split at h
 case isFalse=>cases h
 rename_i hc;obtain⟨qs,q,rfl,rfl,hl,hq,h1,h2,h3⟩:=hc;cases h;rw[b3i a0e,a4t a0e];refine⟨qs.length+1,?_⟩;unfold P.d9m;dsimp only;rw[List.length_map];have key:=a0f (k:=qs.length+1) (b:=P.b7w) (n:=qs.length) (st:=fun i=>((i:Int),(qs.length:Int),qs.map (rp B32),(d1d (qs.take i) q).map (rp B32),rp B32 q,())) (F:=fun _=>some ((d1d qs q).map (rp B32),())) (fun i g hi hg=>by
  unfold P.b7w;dsimp only at hg ⊢;have e1:(i:Int)<(qs.length:Int):=by omega
  have e2:(0:Int)<=(i:Int):=by omega
  have e3:(i+1)*56<=140737488355328:=by omega
  have e4:((d1d (qs.take i) q).map (rp B32)).length=i:=by
   unfold d1d;simp;omega
  simp only[e1,e2,e4,List.length_map,decide_true,if_true];rw[a0n (qs.map (rp B32)) i _ (by rw[List.length_map];exact hi),List.getElem_map,h2z (hq _ (List.getElem_mem hi)).1 (hq _ (List.getElem_mem hi)).2 h1 h2 h3,Option.bind_some];simp only[List.length_cons,List.length_nil,Nat.zero_add,e3,decide_true,if_true];rw[wr (by omega) (by omega),<-hg];have e5:(d1d (qs.take (i+1)) q).map (rp B32)=(d1d (qs.take i) q).map (rp B32)++[rp B32 (a2p qs[i] q)]:=by
   unfold d1d;rw[<-List.take_append_getElem hi,List.map_append,List.map_append];rfl
  rw[e5];rfl) (fun g=>by
  unfold P.b7w;dsimp only;rw[if_neg (by simp),List.take_length]) (by omega)
 exact key
abbrev P.c3r (x2:Int×Int×List RB×RB×RB×Unit) (g3:Int×Int×List RB×RB×RB×Unit->Option (RB×List RB×Unit)):Option (RB×List RB×Unit):=
 (fun(a b:Int) (c:List RB) (d e:RB)=>if decide (a<b)then if decide (0<=a)then if decide (a<(c.length:Int))then(S.a3m ((d.1,d.2.1,d.2.2),((c.getD (0+a.toNat) (false,[],[])).1,(c.getD (0+a.toNat) (false,[],[])).2.1,(c.getD (0+a.toNat) (false,[],[])).2.2),())).bind fun y4=>g3 (wrap .i64 (a+1),b,c,(y4.1.1,y4.1.2.1,y4.1.2.2),(e.1,e.2.1,e.2.2),())else none else none else some ((d.1,d.2.1,d.2.2),c,())) x2.1 x2.2.1 x2.2.2.1 x2.2.2.2.1 x2.2.2.2.2.1
def P.f8k (k:Nat) (x:List RB×Unit):Option (RB×List RB×Unit):=
 (S.a4q (0,())).bind fun y0=>loopP P.c3r k (0,(x.1.length:Int),x.1,(y0.1.1,y0.1.2.1,y0.1.2.2),(false,[],[]),())
open Classical in
def S.d1e (x:((List RB)×Unit)):(Option (RB×((List RB)×Unit))):=if g4r B32 x.1 then some (rp B32 (a8g (x.1.map (rv B32))),(x.1,()))else none
theorem f4q (a b:Q3) (ha:c4b B32 40000000 (rp B32 a)=true) (hb:c4b B32 40000000 (rp B32 b)=true):S.a3m (rp B32 a,(rp B32 b,()))=some (rp B32 (b6j a b),()):=by
 unfold S.a3m;dsimp only;rw[if_pos ⟨ha,hb⟩,a4t a0e,a4t a0e]
theorem S.f8l (x r) (h:S.d1e x=some r):∃k,P.f8k k x=some r:=by
 obtain⟨xs,u⟩:=x;unfold S.d1e at h;dsimp only at h;split at h
 case isFalse=>cases h
 rename_i hc;obtain⟨qs,rfl,hlen,hq,hg⟩:=hc;cases h;refine⟨qs.length+1,?_⟩;unfold P.f8k;have hz:S.a4q (0,())=some (rp B32 a3f,()):=by rfl
 dsimp only;rw[hz,Option.bind_some,b3i a0e,List.length_map];have key:=a0f (k:=qs.length+1) (b:=P.c3r) (n:=qs.length) (st:=fun i=>((i:Int),(qs.length:Int),qs.map (rp B32),rp B32 (a8g (qs.take i)),(false,(([]:List Int),([]:List Int))),())) (F:=fun i=>some (rp B32 (a8g qs),(qs.map (rp B32),()))) (fun i g hi hg'=>by
  unfold P.c3r;dsimp only at hg' ⊢;have e1:(i:Int)<(qs.length:Int):=by omega
  have e2:(0:Int)<=(i:Int):=by omega
  have e3:(i:Int)<((qs.map (rp B32)).length:Int):=by rw[List.length_map];omega
  rw[if_pos (decide_eq_true e1),if_pos (decide_eq_true e2),if_pos (decide_eq_true e3),Nat.zero_add,a0n (qs.map (rp B32)) i _ (by rw[List.length_map];exact hi),List.getElem_map];have ea:=f4q (a8g (qs.take i)) qs[i] (a4m (by decide) (hg i).1 (hg i).2 (by decide)) (a4m (by decide) (hq _ (List.getElem_mem hi)).1 (hq _ (List.getElem_mem hi)).2 (by decide));rw[d1p hi]at ea;show Option.bind (S.a3m (rp B32 (a8g (qs.take i)),(rp B32 qs[i],()))) _=_;rw[ea,Option.bind_some,wr (by omega) (by omega)];exact hg') (fun g=>by
  unfold P.c3r;dsimp only;rw[if_neg (by simp),List.take_length]) (by omega)
 exact key
abbrev i_restOf.A:=Int×Int×List (List RB×Nat)×Int×Int×Int×Int×RB×Unit
abbrev i_restOf.B:=Int×Int×RB×List RB×List (List RB×Nat)×Int×Unit
abbrev i_restOf.C:=Int×Int×List (List RB×Nat)×Int×RB×Unit
abbrev i_restOf.D:=Option (List RB×List (List RB×Nat)×Unit)
abbrev i_restOf.E:=Int×List (List RB×Nat)×List RB×Unit
abbrev P.b2n (g8:i_restOf.C->i_restOf.D) (x14:i_restOf.A) (g15:i_restOf.A->i_restOf.D):i_restOf.D:=
 (fun(a b d e f h:Int) (c:List (List RB×Nat)) (i:RB)=>if decide (a<b)then if decide (0<=d)then if decide (d<(List.length (hd0 c):Int))then if decide (0<=d)then if decide (d<(List.length (hd0 c):Int))then if decide (0<=a)then if decide (a<(((List.getD (hd0 c) (0+d.toNat) (0,0)).2:Nat):Int))then if decide (0<=d)then if decide (d<(List.length (hd0 c):Int))then if decide (0<=e)then if decide (e<(((List.getD (hd0 c) (0+d.toNat) (0,0)).2:Nat):Int))then if decide (0<=e)then if decide (e<(List.length (hd0 c):Int))then if decide (0<=a)then if decide (a<(((List.getD (hd0 c) (0+e.toNat) (0,0)).2:Nat):Int))then(S.a3n (((List.getD (List.getD (in0 c) (List.getD (hd0 c) (0+d.toNat) (0,0)).1 []) (0+e.toNat) (false,[],[])).1,(List.getD (List.getD (in0 c) (List.getD (hd0 c) (0+d.toNat) (0,0)).1 []) (0+e.toNat) (false,[],[])).2.1,(List.getD (List.getD (in0 c) (List.getD (hd0 c) (0+d.toNat) (0,0)).1 []) (0+e.toNat) (false,[],[])).2.2),((List.getD (List.getD (in0 c) (List.getD (hd0 c) (0+e.toNat) (0,0)).1 []) (0+a.toNat) (false,[],[])).1,(List.getD (List.getD (in0 c) (List.getD (hd0 c) (0+e.toNat) (0,0)).1 []) (0+a.toNat) (false,[],[])).2.1,(List.getD (List.getD (in0 c) (List.getD (hd0 c) (0+e.toNat) (0,0)).1 []) (0+a.toNat) (false,[],[])).2.2),())).bind fun y16=>(S.a3m (((List.getD (List.getD (in0 c) (List.getD (hd0 c) (0+d.toNat) (0,0)).1 []) (0+a.toNat) (false,[],[])).1,(List.getD (List.getD (in0 c) (List.getD (hd0 c) (0+d.toNat) (0,0)).1 []) (0+a.toNat) (false,[],[])).2.1,(List.getD (List.getD (in0 c) (List.getD (hd0 c) (0+d.toNat) (0,0)).1 []) (0+a.toNat) (false,[],[])).2.2),(y16.1.1,y16.1.2.1,y16.1.2.2),())).bind fun y17=>if decide (0<=a)then if decide (a<(((List.getD (hd0 c) (0+d.toNat) (0,0)).2:Nat):Int))then if dup (List.map (fun(y18:Nat×Nat)=>y18.1) (hd0 c))then none else g15 (wrap .i64 (a+1),b,nrm (hd0 c) (List.set (in0 c) (List.getD (hd0 c) (0+d.toNat) (0,0)).1 (List.set (List.getD (in0 c) (List.getD (hd0 c) (0+d.toNat) (0,0)).1 []) (0+a.toNat) (y17.1.1,y17.1.2.1,y17.1.2.2))),d,e,f,h,(i.1,i.2.1,i.2.2),())else none else none else none else none else none else none else none else none else none else none else none else none else none else none else none else none else if dup (List.map (fun(y19:Nat×Nat)=>y19.1) (hd0 c))then none else g8 (wrap .i64 (f+1),h,nrm (hd0 c) (in0 c),e,(i.1,i.2.1,i.2.2),())) x14.1 x14.2.1 x14.2.2.2.1 x14.2.2.2.2.1 x14.2.2.2.2.2.1 x14.2.2.2.2.2.2.1 x14.2.2.1 x14.2.2.2.2.2.2.2.1
abbrev P.b4w (k:Nat) (g3:Int×List (List RB×Nat)×Unit->i_restOf.D) (x7:i_restOf.C) (g8:i_restOf.C->i_restOf.D):i_restOf.D:=
 (fun(a b d:Int) (c:List (List RB×Nat)) (e:RB)=>if decide (a<b)then if decide (0<=a)then if decide (a<(List.length (hd0 c):Int))then if decide (0<=a)then if decide (a<(List.length (hd0 c):Int))then if decide (0<=d)then if decide (d<(((List.getD (hd0 c) (0+a.toNat) (0,0)).2:Nat):Int))then(S.a2t (((List.getD (List.getD (in0 c) (List.getD (hd0 c) (0+a.toNat) (0,0)).1 []) (0+d.toNat) (false,[],[])).1,(List.getD (List.getD (in0 c) (List.getD (hd0 c) (0+a.toNat) (0,0)).1 []) (0+d.toNat) (false,[],[])).2.1,(List.getD (List.getD (in0 c) (List.getD (hd0 c) (0+a.toNat) (0,0)).1 []) (0+d.toNat) (false,[],[])).2.2),(e.1,e.2.1,e.2.2),())).bind fun y9=>if decide (0<=d)then if decide (d<(((List.getD (hd0 c) (0+a.toNat) (0,0)).2:Nat):Int))then if decide (0<=a)then if decide (a<(List.length (hd0 c):Int))then if decide (0<=d)then if decide (d<(((List.getD (hd0 c) (0+a.toNat) (0,0)).2:Nat):Int))then(S.a0u (((List.getD (List.getD (List.set (in0 c) (List.getD (hd0 c) (0+a.toNat) (0,0)).1 (List.set (List.getD (in0 c) (List.getD (hd0 c) (0+a.toNat) (0,0)).1 []) (0+d.toNat) (y9.1.1,y9.1.2.1,y9.1.2.2))) (List.getD (hd0 c) (0+a.toNat) (0,0)).1 []) (0+d.toNat) (false,[],[])).1,(List.getD (List.getD (List.set (in0 c) (List.getD (hd0 c) (0+a.toNat) (0,0)).1 (List.set (List.getD (in0 c) (List.getD (hd0 c) (0+a.toNat) (0,0)).1 []) (0+d.toNat) (y9.1.1,y9.1.2.1,y9.1.2.2))) (List.getD (hd0 c) (0+a.toNat) (0,0)).1 []) (0+d.toNat) (false,[],[])).2.1,(List.getD (List.getD (List.set (in0 c) (List.getD (hd0 c) (0+a.toNat) (0,0)).1 (List.set (List.getD (in0 c) (List.getD (hd0 c) (0+a.toNat) (0,0)).1 []) (0+d.toNat) (y9.1.1,y9.1.2.1,y9.1.2.2))) (List.getD (hd0 c) (0+a.toNat) (0,0)).1 []) (0+d.toNat) (false,[],[])).2.2),())).bind fun y10=>if y10.1==0 then if dup (List.map (fun(y11:Nat×Nat)=>y11.1) (hd0 c))then none else g8 (wrap .i64 (a+1),b,nrm (hd0 c) (List.set (in0 c) (List.getD (hd0 c) (0+a.toNat) (0,0)).1 (List.set (List.getD (in0 c) (List.getD (hd0 c) (0+a.toNat) (0,0)).1 []) (0+d.toNat) (y9.1.1,y9.1.2.1,y9.1.2.2))),d,(e.1,e.2.1,e.2.2),())else if dup (List.map (fun(y12:Nat×Nat)=>y12.1) (hd0 c))then none else loopP (P.b2n g8) k (0,d,nrm (hd0 c) (List.set (in0 c) (List.getD (hd0 c) (0+a.toNat) (0,0)).1 (List.set (List.getD (in0 c) (List.getD (hd0 c) (0+a.toNat) (0,0)).1 []) (0+d.toNat) (y9.1.1,y9.1.2.1,y9.1.2.2))),a,d,a,b,(e.1,e.2.1,e.2.2),())else none else none else none else none else none else none else none else none else none else none else none else none else if dup (List.map (fun(y20:Nat×Nat)=>y20.1) (hd0 c))then none else g3 (wrap .i64 (d - 1),nrm (hd0 c) (in0 c),())) x7.1 x7.2.1 x7.2.2.2.1 x7.2.2.1 x7.2.2.2.2.1
abbrev P.b2o (g25:i_restOf.E->i_restOf.D) (x29:i_restOf.B) (g30:i_restOf.B->i_restOf.D):i_restOf.D:=
 (fun(a b f:Int) (c:RB) (d:List RB) (e:List (List RB×Nat))=>if decide (a<b)then if decide (0<=a)then if decide (a<(d.length:Int))then if decide (0<=a)then if decide (a<(List.length (hd0 e):Int))then if decide (0<=f)then if decide (f<(((List.getD (hd0 e) (0+a.toNat) (0,0)).2:Nat):Int))then(S.a3n (((d.getD (0+a.toNat) (false,[],[])).1,(d.getD (0+a.toNat) (false,[],[])).2.1,(d.getD (0+a.toNat) (false,[],[])).2.2),((List.getD (List.getD (in0 e) (List.getD (hd0 e) (0+a.toNat) (0,0)).1 []) (0+f.toNat) (false,[],[])).1,(List.getD (List.getD (in0 e) (List.getD (hd0 e) (0+a.toNat) (0,0)).1 []) (0+f.toNat) (false,[],[])).2.1,(List.getD (List.getD (in0 e) (List.getD (hd0 e) (0+a.toNat) (0,0)).1 []) (0+f.toNat) (false,[],[])).2.2),())).bind fun y31=>(S.a3m ((c.1,c.2.1,c.2.2),(y31.1.1,y31.1.2.1,y31.1.2.2),())).bind fun y32=>if dup (List.map (fun(y33:Nat×Nat)=>y33.1) (hd0 e))then none else g30 (wrap .i64 (a+1),b,(y32.1.1,y32.1.2.1,y32.1.2.2),d,nrm (hd0 e) (in0 e),f,())else none else none else none else none else none else none else if decide (((d.length+(List.length [(c.1,c.2.1,c.2.2)]))*56)<=140737488355328)then if dup (List.map (fun(y34:Nat×Nat)=>y34.1) (hd0 e))then none else g25 (wrap .i64 (f+1),nrm (hd0 e) (in0 e),d++[(c.1,c.2.1,c.2.2)],())else none) x29.1 x29.2.1 x29.2.2.2.2.2.1 x29.2.2.1 x29.2.2.2.1 x29.2.2.2.2.1
abbrev P.a8u (k:Nat) (x24:i_restOf.E) (g25:i_restOf.E->i_restOf.D):i_restOf.D:=
 if decide (x24.1<(List.length (hd0 x24.2.1):Int))then(S.a4q (0,())).bind fun y26=>if dup (List.map (fun(y27:Nat×Nat)=>y27.1) (hd0 x24.2.1))then none else loopP (P.b2o g25) k (0,x24.1,(y26.1.1,y26.1.2.1,y26.1.2.2),x24.2.2.1,nrm (hd0 x24.2.1) (in0 x24.2.1),x24.1,())else(S.d1e (x24.2.2.1,())).bind fun y35=>(S.b7x (splice x24.2.2.1 y35.2.1 0,(y35.1.1,y35.1.2.1,y35.1.2.2),())).bind fun y36=>if dup (List.map (fun(y37:Nat×Nat)=>y37.1) (hd0 x24.2.1))then none else some (y36.1,nrm (hd0 x24.2.1) (in0 x24.2.1),())
abbrev P.b4x (k:Nat) (x2:Int×List (List RB×Nat)×Unit) (g3:Int×List (List RB×Nat)×Unit->i_restOf.D):i_restOf.D:=
 (fun(a:Int) (b:List (List RB×Nat))=>if decide (a>0)then if decide (0<=a)then if decide (a<(List.length (hd0 b):Int))then if decide (0<=a)then if decide ((a+((0:Nat):Int))<=(List.length (List.getD (in0 b) (List.getD (hd0 b) (0+a.toNat) (0,0)).1 []):Int))then if decide (0<=a)then(S.d1e (seen (List.getD (in0 b) (List.getD (hd0 b) (0+a.toNat) (0,0)).1 []) (0+0) (a.toNat - 0),())).bind fun y4=>if dup (List.map (fun(y5:Nat×Nat)=>y5.1) (hd0 b))then none else loopP (P.b4w k g3) k (0,a,nrm (hd0 b) (List.set (in0 b) (List.getD (hd0 b) (0+a.toNat) (0,0)).1 (splice (List.getD (in0 b) (List.getD (hd0 b) (0+a.toNat) (0,0)).1 []) y4.2.1 (0+0))),a,(y4.1.1,y4.1.2.1,y4.1.2.2),())else none else none else none else none else none else(S.a4q (1,())).bind fun y21=>if dup (List.map (fun(y22:Nat×Nat)=>y22.1) (hd0 b))then none else loopP (P.a8u k) k (1,nrm (hd0 b) (in0 b),[(y21.1.1,y21.1.2.1,y21.1.2.2)],())) x2.1 x2.2.1
def P.d9n (k:Nat) (x:List (List RB×Nat)×Unit):i_restOf.D:=
 if dup (List.map (fun(y0:Nat×Nat)=>y0.1) (hd0 x.1))then none else loopP (P.b4x k) k (wrap .i64 ((List.length (hd0 x.1):Int) - 1),nrm (hd0 x.1) (in0 x.1),())
theorem c1c {q:Q3} (h:okq q):c4b B32 40000000 (rp B32 q)=true:=a4m (by decide) h.1 h.2 (by decide)
def d5j (a:Nat->Nat->Q3) (k i j:Nat):Nat->Nat->Q3:=fun x y=>if x<i\/(x=i/\(y=k\/y<j))then gS a k x y else a x y
theorem g7l {a b:Q3} (ha:okq a) (hb:okq b):S.a3n (((rp B32 a).1,(rp B32 a).2.1,(rp B32 a).2.2),((rp B32 b).1,(rp B32 b).2.1,(rp B32 b).2.2),())=some (rp B32 (b8c a b),()):=by
 show S.a3n (rp B32 a,rp B32 b,())=_;unfold S.a3n;dsimp only;rw[if_pos ⟨c1c ha,c1c hb⟩,a4t a0e,a4t a0e]
theorem g7m {a b:Q3} (ha:okq a) (hb:okq b):S.a3m (((rp B32 a).1,(rp B32 a).2.1,(rp B32 a).2.2),((rp B32 b).1,(rp B32 b).2.1,(rp B32 b).2.2),())=some (rp B32 (b6j a b),()):=by
 show S.a3m (rp B32 a,rp B32 b,())=_;unfold S.a3m;dsimp only;rw[if_pos ⟨c1c ha,c1c hb⟩,a4t a0e,a4t a0e]
theorem g9r {a b:Q3} (ha:okq a) (hb:okq b) (h0:b.2.1≠0):S.a2t (((rp B32 a).1,(rp B32 a).2.1,(rp B32 a).2.2),((rp B32 b).1,(rp B32 b).2.1,(rp B32 b).2.2),())=some (rp B32 (a2p a b),()):=by
 show S.a2t (rp B32 a,rp B32 b,())=_;unfold S.a2t;dsimp only;rw[if_pos ⟨c1c ha,c1c hb,by rw[a4t a0e];exact h0⟩,a4t a0e,a4t a0e]
theorem f8m {a:Nat->Nat->Q3} {n k:Nat} (h:rOk a n k) {i:Nat} (hi:i<k) (hf:(a2p (a i k) (b5m a k)).2.1≠0) (out:Bool×(List Int×List Int)) (g) {K:Nat} (hK:n<K):
  loopP (P.b2n g) K ((0:Int),(k:Int),om B32 n n (d5j a k i 0),(i:Int),(k:Int),(i:Int),(k:Int),out,())=g (((i+1:Nat):Int),(k:Int),om B32 n n (d5j a k i k),(k:Int),out,()):=by
 obtain⟨kn,n12,hnum,hF,hO,hP,hM⟩:=h;have key:=a0f (k:=K) (b:=P.b2n g) (n:=k) (st:=fun j=>((j:Int),(k:Int),om B32 n n (d5j a k i j),(i:Int),(k:Int),(i:Int),(k:Int),out,())) (F:=fun _=>g (((i+1:Nat):Int),(k:Int),om B32 n n (d5j a k i k),(k:Int),out,())) (fun j g' hj hg=>by
  unfold P.b2n;dsimp only at hg ⊢;have e1:(j:Int)<(k:Int):=by omega
  have e2:(0:Int)<=(j:Int):=by omega
  have e3:(0:Int)<=(i:Int):=by omega
  have e4:(i:Int)<(n:Int):=by omega
  have e5:(0:Int)<=(k:Int):=by omega
  have e6:(k:Int)<(n:Int):=by omega
  have e7:(j:Int)<(n:Int):=by omega
  have v1:d5j a k i j i k=a2p (a i k) (b5m a k):=by
   unfold d5j gS;rw[if_pos (Or.inr ⟨rfl,Or.inl rfl⟩),if_pos hi,if_pos rfl]
  have v2:d5j a k i j k j=a k j:=by
   unfold d5j;rw[if_neg (by omega)]
  have v3:d5j a k i j i j=a i j:=by
   unfold d5j;rw[if_neg (by omega)]
  have v4:gS a k i j=b6j (a i j) (b8c (a2p (a i k) (b5m a k)) (a k j)):=by
   unfold gS;rw[if_pos hi,if_neg (by omega),if_pos ⟨hj,hf⟩]
  have v5:g2a (d5j a k i j) i j (b6j (a i j) (b8c (a2p (a i k) (b5m a k)) (a k j)))=d5j a k i (j+1):=by
   funext x y;unfold g2a
   by_cases q:x=i/\y=j
   ·rw[if_pos q,q.1,q.2];unfold d5j;rw[if_pos (Or.inr ⟨rfl,Or.inr (by omega)⟩),v4]
   ·rw[if_neg q];unfold d5j
    by_cases w:x<i\/(x=i/\(y=k\/y<j))
    ·rw[if_pos w,if_pos (by omega)]
    ·rw[if_neg w,if_neg (by omega)]
  simp only[a0k,a3t,Int.toNat_natCast,Nat.zero_add,c0p (show i<n by omega),c0p kn,c3e (show i<n by omega),c3e kn,b2w kn,b2w (show j<n by omega),a0r,e1,e2,e3,e4,e5,e6,e7,decide_true,if_true,Bool.false_eq_true,if_false,v1,v2,v3];rw[g7l (hF i hi) (hnum k (Nat.le_refl _) j (by omega)),Option.bind_some];dsimp only;rw[g7m (hnum i (by omega) j (by omega)) (hM i hi j hj),Option.bind_some];dsimp only;rw[wr (by omega) (by omega),show((rp B32 (b6j (a i j) (b8c (a2p (a i k) (b5m a k)) (a k j)))).1,(rp B32 (b6j (a i j) (b8c (a2p (a i k) (b5m a k)) (a k j)))).2.1,(rp B32 (b6j (a i j) (b8c (a2p (a i k) (b5m a k)) (a k j)))).2.2)=rp B32 (b6j (a i j) (b8c (a2p (a i k) (b5m a k)) (a k j)))from rfl,d0g (show i<n by omega),v5];exact hg) (fun g'=>by
  unfold P.b2n;dsimp only;rw[if_neg (by simp),a0r,a0w,wr (by omega) (by omega)];rfl) (by omega)
 exact key
theorem g3z (q:Q3):S.a0u (((rp B32 q).1,(rp B32 q).2.1,(rp B32 q).2.2),())=some (d7n q.1 q.2.1,()):=by
 unfold S.a0u rp;dsimp only;rw[if_pos (a0m (by decide) _),a0i (by decide)]
def c3s (a:Nat->Nat->Q3) (k i:Nat):Nat->Nat->Q3:=fun x y=>if x<i then gS a k x y else a x y
theorem g7n {α:Type} {xs:List α} {i:Nat} (h:i<xs.length) (v d:α):(xs.set i v).getD i d=v:=by
 rw[List.getD_eq_getElem?_getD,List.getElem?_eq_getElem (by rw[List.length_set];exact h)];simp
theorem g9s {a:Nat->Nat->Q3} {n k:Nat} (h:rOk a n k) (g) {K:Nat} (hK:n<K):
  loopP (P.b4w K g) K ((0:Int),(k:Int),om B32 n n (c3s a k 0),(k:Int),rp B32 (b5m a k),())=g ((k:Int) - 1,om B32 n n (gS a k),()):=by
 have h':=h;obtain⟨kn,n12,hnum,hF,hO,hP,hM⟩:=h;have key:=a0f (k:=K) (b:=P.b4w K g) (n:=k) (st:=fun i=>((i:Int),(k:Int),om B32 n n (c3s a k i),(k:Int),rp B32 (b5m a k),())) (F:=fun _=>g ((k:Int) - 1,om B32 n n (gS a k),())) (fun i g' hi hg=>by
  unfold P.b4w;dsimp only at hg ⊢;have e1:(i:Int)<(k:Int):=by omega
  have e3:(0:Int)<=(i:Int):=by omega
  have e4:(i:Int)<(n:Int):=by omega
  have e5:(0:Int)<=(k:Int):=by omega
  have e6:(k:Int)<(n:Int):=by omega
  have v1:c3s a k i i k=a i k:=by
   unfold c3s;rw[if_neg (by omega)]
  have v5:g2a (c3s a k i) i k (a2p (a i k) (b5m a k))=d5j a k i 0:=by
   funext x y;unfold g2a
   by_cases q:x=i/\y=k
   ·rw[if_pos q,q.1,q.2];unfold d5j gS;rw[if_pos (Or.inr ⟨rfl,Or.inl rfl⟩),if_pos hi,if_pos rfl]
   ·rw[if_neg q];unfold d5j c3s
    by_cases w:x<i
    ·rw[if_pos w,if_pos (Or.inl w)]
    ·rw[if_neg w,if_neg (by omega)]
  simp only[a0k,a3t,Int.toNat_natCast,Nat.zero_add,c0p (show i<n by omega),c3e (show i<n by omega),b2w kn,a0r,e1,e3,e4,e5,e6,decide_true,if_true,Bool.false_eq_true,if_false,v1];rw[g9r (hnum i (by omega) k (Nat.le_refl _)) hO.1 hO.2,Option.bind_some];dsimp only;have w1:∀v:List (Bool×(List Int×List Int)),((in0 (om B32 n n (c3s a k i))).set i v).getD i []=v:=fun v=>g7n (by rw[c0x,a3t];omega) _ _
  have w2:∀v d:Bool×(List Int×List Int),(((tab n (c3s a k i i)).map (rp B32)).set k v).getD k d=v:=fun v d=>g7n (by rw[List.length_map,a1r];omega) _ _
  rw[show((rp B32 (a2p (a i k) (b5m a k))).1,(rp B32 (a2p (a i k) (b5m a k))).2.1,(rp B32 (a2p (a i k) (b5m a k))).2.2)=rp B32 (a2p (a i k) (b5m a k))from rfl];simp only[w1,w2];rw[g3z,Option.bind_some];dsimp only;rw[d0g (show i<n by omega),v5,wr (x:=(i:Int)+1) (by omega) (by omega)]
  by_cases hf:(a2p (a i k) (b5m a k)).2.1=0
  ·rw[if_pos (by rw[beq_iff_eq,a7s];exact hf),<-hg];have:om B32 n n (d5j a k i 0)=om B32 n n (c3s a k (i+1)):=b2g fun x hx y hy=>by
    unfold d5j c3s
    by_cases w:x<i
    ·rw[if_pos (Or.inl w),if_pos (by omega)]
    ·by_cases w2:x=i
     ·subst w2
      by_cases w3:y=k
      ·rw[if_pos (Or.inr ⟨rfl,Or.inl w3⟩),if_pos (by omega)]
      ·rw[if_neg (by omega),if_pos (by omega)];unfold gS;rw[if_pos hi,if_neg w3,if_neg (fun q=>q.2 hf)]
     ·rw[if_neg (by omega),if_neg (by omega)]
   rw[this];rfl
  ·rw[if_neg (by rw[beq_iff_eq,a7s];exact hf),f8m h' hi hf _ _ hK,<-hg];have:om B32 n n (d5j a k i k)=om B32 n n (c3s a k (i+1)):=b2g fun x hx y hy=>by
    unfold d5j c3s
    by_cases w:x<i
    ·rw[if_pos (Or.inl w),if_pos (by omega)]
    ·by_cases w2:x=i
     ·subst w2
      by_cases w3:y=k\/y<k
      ·rw[if_pos (Or.inr ⟨rfl,w3⟩),if_pos (by omega)]
      ·rw[if_neg (by omega),if_pos (by omega)];unfold gS;rw[if_pos hi,if_neg (by omega),if_neg (by omega)]
     ·rw[if_neg (by omega),if_neg (by omega)]
   rw[this]) (fun g'=>by
  unfold P.b4w;dsimp only;rw[if_neg (by simp),a0r,a0w,wr (by omega) (by omega),if_neg (by decide)];have:om B32 n n (c3s a k k)=om B32 n n (gS a k):=b2g fun x hx y hy=>by
   unfold c3s;split
   ·rfl
   ·unfold gS;rw[if_neg (by assumption)]
  rw[this]) (by omega)
 exact key
theorem g7o {f:Nat->Q3} {k:Nat} (hk:k<=12) (h:∀j,j<k->okq (f j)) (hs:∀j,j<=k->okq (a8g (tab j f))):S.d1e ((tab k f).map (rp B32),())=some (rp B32 (a8g (tab k f)),((tab k f).map (rp B32),())):=by
 unfold S.d1e;dsimp only
 rw[if_pos ⟨tab k f,rfl,by rw[a1r];omega,fun q hq=>by
  obtain⟨j,hj,rfl⟩:=b8i.1 hq;exact h j hj,fun j=>by
  rw[e2l];exact hs _ (Nat.min_le_right ..)⟩,b3i a0e]
theorem g9t {a:Nat->Nat->Q3} {n:Nat} (hr:∀k,0<k->k<n->rOk (gM n a (n - 1 - k)) n k) {K:Nat} (hK:n<K):∀(k F:Nat),k<n->k<F->
  loopP (P.b4x K) F ((k:Int),om B32 n n (gM n a (n - 1 - k)),())=loopP (P.a8u K) K ((1:Int),om B32 n n (gM n a (n - 1)),[rp B32 c4c],()):=by
 intro k
 induction k with
 |zero=>
  intro F hk hF;obtain⟨F,rfl⟩:∃j,F=j+1:=⟨F - 1,by omega⟩
  rw[a0j];unfold P.b4x;dsimp only;have hz:S.a4q (1,())=some (rp B32 c4c,()):=by rfl
  rw[if_neg (by simp),hz,Option.bind_some,a0r,a0w,if_neg (by decide)];rfl
 |succ k ih=>
  intro F hk hF;obtain⟨F,rfl⟩:∃j,F=j+1:=⟨F - 1,by omega⟩
  rw[a0j];have h:=hr (k+1) (by omega) hk;have ih':=ih F (by omega) (by omega);have e0:n - 1 - k=(n - 1 - (k+1))+1:=by omega
  rw[e0]at ih';have e00:gM n a ((n - 1 - (k+1))+1)=gS (gM n a (n - 1 - (k+1))) (k+1):=by
   rw[gM,show n - 1 - (n - 1 - (k+1))=k+1 by omega]
  rw[e00]at ih';generalize gM n a (n - 1 - (k+1))=b at*;generalize loopP (P.b4x K) F=g at ih' ⊢;unfold P.b4x;dsimp only;have e1:((k+1:Nat):Int)>0:=by omega
  have e2:(0:Int)<=((k+1:Nat):Int):=by omega
  have e3:((k+1:Nat):Int)<(n:Int):=by omega
  have e4:((k+1:Nat):Int)+((0:Nat):Int)<=(n:Int):=by omega
  have hse:seen ((tab n (b (k+1))).map (rp B32)) (0+0) (k+1 - 0)=(tab (k+1) (b (k+1))).map (rp B32):=by
   show List.take (k+1) (List.drop 0 _)=_;rw[List.drop_zero,<-List.map_take,e2l,Nat.min_eq_left (by omega)]
  simp only[a0k,a3t,Int.toNat_natCast,Nat.zero_add,c0p hk,c3e hk,List.length_map,a1r,e1,e2,e3,e4,decide_true,if_true];rw[show seen ((tab n (b (k+1))).map (rp B32)) 0 (k+1 - 0)=(tab (k+1) (b (k+1))).map (rp B32)from hse,g7o (by have:=h.n12;omega) (fun j hj=>h.num _ (Nat.le_refl _) j (by omega)) h.par,Option.bind_some];dsimp only;have hsp:splice ((tab n (b (k+1))).map (rp B32)) ((tab (k+1) (b (k+1))).map (rp B32)) 0=(tab n (b (k+1))).map (rp B32):=by
   have:(tab (k+1) (b (k+1))).map (rp B32)=((tab n (b (k+1))).map (rp B32)).take (k+1):=by rw[<-List.map_take,e2l,Nat.min_eq_left (by omega)]
   rw[this];unfold splice;rw[List.take_zero,List.nil_append,List.length_take,List.length_map,a1r,Nat.min_eq_left (by omega),Nat.zero_add,List.take_append_drop]
  rw[a0r,hsp,h1v hk,if_neg (by decide)];have:=g9s h g hK;rw[show((k+1:Nat):Int) - 1=(k:Int) by omega,ih']at this;exact this
theorem g9u {G:Nat->Nat->Q3} {w:Nat->Q3} {n k:Nat} (kn:k<n) (n12:n<=12) (hw:∀i,i<k->okq (w i)) (hG:∀i,i<k->okq (G i k)) (hm:∀i,i<k->okq (b8c (w i) (G i k))) (hd:∀i,i<=k->okq (e7u w (fun i=>G i k) i)) (g) {K:Nat} (hK:n<K):
  loopP (P.b2o g) K ((0:Int),(k:Int),rp B32 a3f,(tab k w).map (rp B32),om B32 n n G,(k:Int),())=g (((k+1:Nat):Int),om B32 n n G,(tab k w).map (rp B32)++[rp B32 (e7u w (fun i=>G i k) k)],()):=by
 have key:=a0f (k:=K) (b:=P.b2o g) (n:=k) (st:=fun i=>((i:Int),(k:Int),rp B32 (e7u w (fun i=>G i k) i),(tab k w).map (rp B32),om B32 n n G,(k:Int),())) (F:=fun _=>g (((k+1:Nat):Int),om B32 n n G,(tab k w).map (rp B32)++[rp B32 (e7u w (fun i=>G i k) k)],())) (fun i g' hi hg=>by
  unfold P.b2o;dsimp only at hg ⊢;have e1:(i:Int)<(k:Int):=by omega
  have e3:(0:Int)<=(i:Int):=by omega
  have e4:(i:Int)<(n:Int):=by omega
  have e5:(0:Int)<=(k:Int):=by omega
  have e6:(k:Int)<(n:Int):=by omega
  simp only[a0k,a3t,List.length_map,a1r,Int.toNat_natCast,Nat.zero_add,c0p (show i<n by omega),c3e (show i<n by omega),b2w kn,b2w hi,a0r,a0w,e1,e3,e4,e5,e6,decide_true,if_true,Bool.false_eq_true,if_false];rw[g7l (hw i hi) (hG i hi),Option.bind_some];dsimp only;rw[g7m (hd i (by omega)) (hm i hi),Option.bind_some,wr (by omega) (by omega)];exact hg) (fun g'=>by
  unfold P.b2o;dsimp only;have e1:(k+1)*56<=140737488355328:=by omega
  rw[if_neg (by simp),a0r,a0w,wr (by omega) (by omega)];simp only[List.length_map,a1r,List.length_cons,List.length_nil,Nat.zero_add,e1,decide_true,if_true,Bool.false_eq_true,if_false];rfl) (by omega)
 exact key
def g9v (a:Nat->Nat->Q3) (n:Nat):List Q3:=d1d (tab n (wF (gM n a (n - 1)) (n - 1))) (a8g (tab n (wF (gM n a (n - 1)) (n - 1))))
theorem h5a {a:Nat->Nat->Q3} {n:Nat} (h:redOk a n) {K:Nat} (hK:n<K):∀(m k F:Nat),k+1+m=n->m<F->
  loopP (P.a8u K) F (((k+1:Nat):Int),om B32 n n (gM n a (n - 1)),(tab (k+1) (wF (gM n a (n - 1)) k)).map (rp B32),())=some ((g9v a n).map (rp B32),om B32 n n (gM n a (n - 1)),()):=by
 intro m
 induction m with
 |zero=>
  intro k F hk hF;obtain⟨F,rfl⟩:∃j,F=j+1:=⟨F - 1,by omega⟩
  rw[a0j];have hn:=h.n12;have h0:=h.s0;have hw:=h.w (n - 1) (by omega);have hs:=h.s;unfold g9v;have e:k=n - 1:=by omega
  subst e;have e2:n - 1+1=n:=by omega
  rw[e2];generalize wF (gM n a (n - 1)) (n - 1)=f at*;unfold P.a8u;dsimp only;have e3:¬(n:Int)<(n:Int):=by omega
  simp only[a0k,a3t,e3,decide_false,Bool.false_eq_true,if_false];rw[g7o hn (fun j hj=>hw j (by omega)) hs,Option.bind_some];dsimp only;have hsp:splice ((tab n f).map (rp B32)) ((tab n f).map (rp B32)) 0=(tab n f).map (rp B32):=by
   unfold splice;simp
  rw[hsp];have ec:S.b7x ((tab n f).map (rp B32),((rp B32 (a8g (tab n f))).1,(rp B32 (a8g (tab n f))).2.1,(rp B32 (a8g (tab n f))).2.2),())=some ((d1d (tab n f) (a8g (tab n f))).map (rp B32),()):=by
   show S.b7x ((tab n f).map (rp B32),rp B32 (a8g (tab n f)),())=_;unfold S.b7x;dsimp only
   rw[if_pos ⟨tab n f,_,rfl,rfl,by rw[a1r];omega,fun q hq=>by
    obtain⟨j,hj,rfl⟩:=b8i.1 hq;exact hw j (by omega),(hs n (Nat.le_refl _)).1,(hs n (Nat.le_refl _)).2,h0⟩,b3i a0e,a4t a0e]
  rw[ec,Option.bind_some,a0r,a0w,if_neg (by decide)]
 |succ m ih=>
  intro k F hk hF;obtain⟨F,rfl⟩:∃j,F=j+1:=⟨F - 1,by omega⟩
  rw[a0j];have ih':=ih (k+1) F (by omega) (by omega);have hn:=h.n12;have hw:=h.w k (by omega);have hg:=h.g (k+1) (by omega);have hm:=h.m k (by omega);have hd:=h.d k (by omega);have et:tab (k+1+1) (wF (gM n a (n - 1)) (k+1))=tab (k+1) (wF (gM n a (n - 1)) k)++[e7u (wF (gM n a (n - 1)) k) (fun i=>gM n a (n - 1) i (k+1)) (k+1)]:=by
   rw[c1k,wF];dsimp only;rw[if_pos rfl];congr 1;apply a1z;intro i hi;rw[if_neg (by omega)]
  rw[et,List.map_append]at ih';generalize wF (gM n a (n - 1)) k=f at*;generalize gM n a (n - 1)=G at*;generalize loopP (P.a8u K) F=g' at ih' ⊢;unfold P.a8u;dsimp only;have e1:((k+1:Nat):Int)<(n:Int):=by omega
  have hz:S.a4q (0,())=some (rp B32 a3f,()):=by rfl
  simp only[a0k,a3t,e1,decide_true,if_true];rw[hz,Option.bind_some,a0r,a0w,if_neg (by decide)];have:=g9u (G:=G) (w:=f) (n:=n) (k:=k+1) (by omega) hn (fun i hi=>hw i (by omega)) hg hm hd g' hK;exact this.trans ih'
open Classical in
def S.c1d (x:((List ((List RB)×Nat))×Unit)):(Option ((List RB)×((List ((List RB)×Nat))×Unit))):=
 if h:∃(a:Nat->Nat->Q3) (n:Nat),x.1=om B32 n n a/\redOk a n then some ((g9v h.choose h.choose_spec.choose).map (rp B32),om B32 h.choose_spec.choose h.choose_spec.choose (gM h.choose_spec.choose h.choose (h.choose_spec.choose - 1)),())else none
theorem S.e9i (x r) (h:S.c1d x=some r):∃k,P.d9n k x=some r:=by
 obtain⟨m,u⟩:=x;unfold S.c1d at h;dsimp only at h;split at h
 case isFalse=>cases h
 rename_i hc;have hs:=hc.choose_spec.choose_spec;cases h;generalize hc.choose_spec.choose=n at*;generalize hc.choose=a at*;obtain⟨rfl,hr⟩:=hs;have n0:=hr.n0;have hn:=hr.n12;refine⟨n+1,?_⟩;unfold P.d9n;dsimp only;rw[a0r,a0w,a0k,a3t,wr (by omega) (by omega),if_neg (by decide),show(n:Int) - 1=((n - 1:Nat):Int) by omega];have h1:=g9t hr.red (K:=n+1) (by omega) (n - 1) (n+1) (by omega) (by omega);have h2:=h5a hr (K:=n+1) (by omega) (n - 1) 0 (n+1) (by omega) (by omega);rw[Nat.sub_self]at h1;exact h1.trans h2
theorem h3a {a:Nat->Nat->Q3} {n:Nat} (h:redOk a n):S.c1d (om B32 n n a,())=some ((g9v a n).map (rp B32),(om B32 n n (gM n a (n - 1)),())):=by
 unfold S.c1d;have hc:∃(b:Nat->Nat->Q3) (m:Nat),(om B32 n n a,()).1=om B32 m m b/\redOk b m:=⟨a,n,rfl,h⟩
 rw[dif_pos hc];obtain⟨e,_⟩:=hc.choose_spec.choose_spec;dsimp only at e;generalize hc.choose_spec.choose=m at*;generalize hc.choose=b at*;obtain⟨e1,e2⟩:=g8m a0e e;subst e1;have hab:∀i,i<n->∀j,j<n->b i j=a i j:=fun i hi j hj=>((e2 i hi).2 j hj).symm
 have h0:=h.n0;have hg:=f3x hab (n - 1);have hw:tab n (wF (gM n b (n - 1)) (n - 1))=tab n (wF (gM n a (n - 1)) (n - 1)):=a1z fun i hi=>e2m hg (n - 1) (by omega) i
 unfold g9v;rw[hw,b2g hg]
abbrev i_rest.A:=Int×Int×List Int×List RB×List (List RB)×Int×List (List RB×Nat)×Int×Int×List Int×List Int×Unit
abbrev i_rest.B:=Int×Int×List Int×List Int×List (List RB)×List (List RB×Nat)×Unit
abbrev i_rest.C:=Int×Int×List Int×List Int×List Int×List (List RB)×Unit
abbrev i_rest.D:=Option ((List RB×Bool)×Unit)
abbrev P.b9l (g7:i_rest.B->i_rest.D) (x10:i_rest.A) (g11:i_rest.A->i_rest.D):i_rest.D:=
 (fun(a b f i j:Int) (c l m:List Int) (d:List RB) (e:List (List RB)) (h:List (List RB×Nat))=>if decide (a<b)then if decide (0<=a)then if decide (a<(c.length:Int))then if decide (0<=f)then if decide (f<(e.length:Int))then if decide (0<=(c.getD a.toNat 0))then if decide ((c.getD a.toNat 0)<(List.length (e.getD f.toNat []):Int))then if decide (((d.length+(List.length [((List.getD (e.getD f.toNat []) (Int.toNat (c.getD a.toNat 0)) (false,[],[])).1,(List.getD (e.getD f.toNat []) (Int.toNat (c.getD a.toNat 0)) (false,[],[])).2.1,(List.getD (e.getD f.toNat []) (Int.toNat (c.getD a.toNat 0)) (false,[],[])).2.2)]))*56)<=140737488355328)then if dup (List.map (fun(y12:Nat×Nat)=>y12.1) (hd0 h))then none else g11 (wrap .i64 (a+1),b,c,d++[((List.getD (e.getD f.toNat []) (Int.toNat (c.getD a.toNat 0)) (false,[],[])).1,(List.getD (e.getD f.toNat []) (Int.toNat (c.getD a.toNat 0)) (false,[],[])).2.1,(List.getD (e.getD f.toNat []) (Int.toNat (c.getD a.toNat 0)) (false,[],[])).2.2)],e,f,nrm (hd0 h) (in0 h),i,j,l,m,())else none else none else none else none else none else none else none else if decide ((((List.length (hd0 h))+(List.length (hd0 [(d,d.length)])))*24)<=140737488355328)then if dup (List.map (fun(y13:Nat×Nat)=>y13.1) (a7k (List.length (in0 h)) (hd0 h) (hd0 [(d,d.length)])))then none else g7 (wrap .i64 (i+1),j,l,m,e,nrm (a7k (List.length (in0 h)) (hd0 h) (hd0 [(d,d.length)])) ((in0 h)++[d]),())else none) x10.1 x10.2.1 x10.2.2.2.2.2.1 x10.2.2.2.2.2.2.2.1 x10.2.2.2.2.2.2.2.2.1 x10.2.2.1 x10.2.2.2.2.2.2.2.2.2.1 x10.2.2.2.2.2.2.2.2.2.2.1 x10.2.2.2.1 x10.2.2.2.2.1 x10.2.2.2.2.2.2.1
abbrev P.c1e (x19:Int×Int×List RB×List RB×List Int×Unit) (g20:Int×Int×List RB×List RB×List Int×Unit->i_rest.D):i_rest.D:=
 (fun(a b:Int) (c d:List RB) (e:List Int)=>if decide (a<b)then if decide (0<=a)then if decide (a<(c.length:Int))then if decide (0<=a)then if decide (a<(e.length:Int))then if decide (0<=(e.getD a.toNat 0))then if decide ((e.getD a.toNat 0)<(d.length:Int))then g20 (wrap .i64 (a+1),b,c,d.set (0+(Int.toNat (e.getD a.toNat 0))) ((c.getD a.toNat (false,[],[])).1,(c.getD a.toNat (false,[],[])).2.1,(c.getD a.toNat (false,[],[])).2.2),e,())else none else none else none else none else none else none else some ((d,true),())) x19.1 x19.2.1 x19.2.2.1 x19.2.2.2.1 x19.2.2.2.2.1
abbrev P.b6s (k:Nat) (x6:i_rest.B) (g7:i_rest.B->i_rest.D):i_rest.D:=
 if decide (x6.1<x6.2.1)then if decide (0<=x6.1)then if decide (x6.1<(x6.2.2.1.length:Int))then if dup (List.map (fun(y8:Nat×Nat)=>y8.1) (hd0 x6.2.2.2.2.2.1))then none else loopP (P.b9l g7) k (0,(x6.2.2.2.1.length:Int),x6.2.2.2.1,[],x6.2.2.2.2.1,x6.2.2.1.getD x6.1.toNat 0,nrm (hd0 x6.2.2.2.2.2.1) (in0 x6.2.2.2.2.2.1),x6.1,x6.2.1,x6.2.2.1,x6.2.2.2.1,())else none else none else(S.a4q (0,())).bind fun y14=>(S.a0q ([(y14.1.1,y14.1.2.1,y14.1.2.2)],(x6.2.2.2.2.1.length:Int),())).bind fun y15=>if dup (List.map (fun(y16:Nat×Nat)=>y16.1) (hd0 x6.2.2.2.2.2.1))then none else(S.c1d (nrm (hd0 x6.2.2.2.2.2.1) (in0 x6.2.2.2.2.2.1),())).bind fun y17=>loopP P.c1e k (0,(y17.1.length:Int),y17.1,y15.1,x6.2.2.2.1,())
abbrev P.b9m (k:Nat) (x3:i_rest.C) (g4:i_rest.C->i_rest.D):i_rest.D:=
 (fun(a b:Int) (c d e:List Int) (f:List (List RB))=>if decide (a<b)then if decide (0<=a)then if decide (a<(c.length:Int))then if decide (0<(d.length:Int))then if(c.getD a.toNat 0)==(d.getD 0 0)then if decide (((e.length+(List.length [a]))*8)<=140737488355328)then g4 (wrap .i64 (a+1),b,c,d,e++[a],f,())else none else g4 (wrap .i64 (a+1),b,c,d,e,f,())else none else none else none else loopP (P.b6s k) k (0,(e.length:Int),e,e,f,nrm (hd0 ([]:List (List RB×Nat))) (in0 ([]:List (List RB×Nat))),())) x3.1 x3.2.1 x3.2.2.1 x3.2.2.2.1 x3.2.2.2.2.1 x3.2.2.2.2.2.1
def P.f8n (k:Nat) (x:List (List RB)×Unit):i_rest.D:=
 (S.b2l (x.1,())).bind fun y0=>(S.c6b (y0.1.2,())).bind fun y1=>if(y1.1.length:Int) != 1 then some (([],false),())else loopP (P.b9m k) k (0,(y0.1.1.length:Int),y0.1.1,y1.1,[],x.1,())
theorem f4r {M:List (List Q3)} (h:isM M) {k:Int} {K:Nat} (hK:12<K):
  loopP (P.b9m K) K ((0:Int),(M.length:Int),(a9u M).1,[k],([]:List Int),mp B32 M,())=loopP (P.b6s K) K ((0:Int),((fl (clC M k) M.length).length:Int),zs (fl (clC M k) M.length),zs (fl (clC M k) M.length),mp B32 M,([]:List (List (Bool×(List Int×List Int))×Nat)),()):=by
 have hn:=h.1;have hl:(a9u M).1.length=M.length:=(b8j (rcB M) M.length M.length).1;have key:=a0f (k:=K) (b:=P.b9m K) (n:=M.length) (st:=fun i=>((i:Int),(M.length:Int),(a9u M).1,[k],zs (fl (clC M k) i),mp B32 M,())) (F:=fun _=>loopP (P.b6s K) K ((0:Int),((fl (clC M k) M.length).length:Int),zs (fl (clC M k) M.length),zs (fl (clC M k) M.length),mp B32 M,([]:List (List (Bool×(List Int×List Int))×Nat)),())) (fun i g hi hg=>by
  unfold P.b9m;dsimp only at hg ⊢;have e1:(i:Int)<(M.length:Int):=by omega
  have e2:(0:Int)<=(i:Int):=by omega
  have e3:=h4f (clC M k) i;have e4:((fl (clC M k) i).length+1)*8<=140737488355328:=by omega
  have e5:(0:Int)<((1:Nat):Int):=by decide
  simp only[hl,c4i,e1,e2,e4,e5,List.length_cons,List.length_nil,Nat.zero_add,decide_true,if_true,Int.toNat_natCast];rw[show([k]:List Int).getD 0 0=k from rfl,g8o hi,wr (by omega) (by omega)];rw[c6q]at hg;cases hc:clC M k i
  ·rw[hc,if_neg (by decide),List.append_nil]at hg;rw[if_neg (by decide)];exact hg
  ·rw[hc,if_pos rfl,e4t]at hg;rw[if_pos rfl];exact hg) (fun g=>by
  unfold P.b9m;dsimp only;rw[if_neg (by simp),c4i];rfl) (by omega)
 exact key
theorem g9w {M:List (List Q3)} (h:isM M) {c:Nat->Bool} {a:Nat} (ha:a<(fl c M.length).length) (g) {K:Nat} (hK:12<K):
  loopP (P.b9l g) K ((0:Int),((fl c M.length).length:Int),zs (fl c M.length),([]:List (Bool×(List Int×List Int))),mp B32 M,(((fl c M.length).getD a 0:Nat):Int),om B32 a (fl c M.length).length (d4o M c),(a:Int),((fl c M.length).length:Int),zs (fl c M.length),zs (fl c M.length),())=g (((a+1:Nat):Int),((fl c M.length).length:Int),zs (fl c M.length),zs (fl c M.length),mp B32 M,om B32 (a+1) (fl c M.length).length (d4o M c),()):=by
 have hn:=h.1;have hm:=h4f c M.length;obtain⟨f1,f2⟩:=c4k ha;have key:=a0f (k:=K) (b:=P.b9l g) (n:=(fl c M.length).length) (st:=fun b=>((b:Int),((fl c M.length).length:Int),zs (fl c M.length),(tab b (d4o M c a)).map (rp B32),mp B32 M,(((fl c M.length).getD a 0:Nat):Int),om B32 a (fl c M.length).length (d4o M c),(a:Int),((fl c M.length).length:Int),zs (fl c M.length),zs (fl c M.length),())) (F:=fun _=>g (((a+1:Nat):Int),((fl c M.length).length:Int),zs (fl c M.length),zs (fl c M.length),mp B32 M,om B32 (a+1) (fl c M.length).length (d4o M c),())) (fun b g' hb hg=>by
  unfold P.b9l;dsimp only at hg ⊢;obtain⟨q1,q2⟩:=c4k hb;have e1:(b:Int)<((fl c M.length).length:Int):=by omega
  have e2:(0:Int)<=(b:Int):=by omega
  have e3:(0:Int)<=(((fl c M.length).getD a 0:Nat):Int):=by omega
  have e4:(((fl c M.length).getD a 0:Nat):Int)<(M.length:Int):=by omega
  have e5:(0:Int)<=(((fl c M.length).getD b 0:Nat):Int):=by omega
  have e6:(((fl c M.length).getD b 0:Nat):Int)<(M.length:Int):=by omega
  have e7:(b+1)*56<=140737488355328:=by omega
  have e8:((mp B32 M).getD ((fl c M.length).getD a 0) []).getD ((fl c M.length).getD b 0) (false,(([]:List Int),([]:List Int)))=rp B32 (d4o M c a b):=e2n h f1 q1;simp only[c4i,d1x,Int.toNat_natCast,a4b,e2o h f1,List.length_map,a1r,List.length_cons,List.length_nil,Nat.zero_add,a0r,a0w,e1,e2,e3,e4,e5,e6,e7,e8,decide_true,if_true,Bool.false_eq_true,if_false];rw[wr (by omega) (by omega)];rw[<-c0r]at hg;exact hg) (fun g'=>by
  unfold P.b9l;dsimp only;have e1:(a+1)*24<=140737488355328:=by omega
  have e2:= @g8n B32 a (fl c M.length).length (d4o M c);rw[if_neg (by simp),wr (by omega) (by omega)];simp only[a0k,a3t,List.length_map,a1r,List.length_cons,List.length_nil,Nat.zero_add,e1,e2.1,e2.2,decide_true,if_true,Bool.false_eq_true,if_false];rfl) (by omega)
 exact key
theorem g9x {n:Nat} (h:n<=12):S.a0q ([((rp B32 a3f).1,(rp B32 a3f).2.1,(rp B32 a3f).2.2)],(n:Int),())=some (List.replicate n (rp B32 a3f),()):=by
 unfold S.a0q;dsimp only;rw[if_pos ⟨rfl,by omega,by omega⟩,Int.toNat_natCast];rfl
open Classical in
def S.d7h (x:((List (List RB))×Unit)):(Option (((List RB)×Bool)×Unit)):=if ∃M,c2o M/\x.1=mp B32 M then some (((e7y (mv B32 x.1)).1.map (rp B32),(e7y (mv B32 x.1)).2),())else none
theorem S.f8o (x r) (h:S.d7h x=some r):∃k,P.f8n k x=some r:=by
 obtain⟨m,u⟩:=x;unfold S.d7h at h;dsimp only at h;split at h
 case isFalse=>cases h
 rename_i hc;obtain⟨M,hM,rfl⟩:=hc;cases h;rw[b3r (by decide)];have hI:=hM.2.1;have hn:=hI.1;have hl:=b8j (rcB M) M.length M.length;refine⟨13,?_⟩;unfold P.f8n;dsimp only;have ec:S.b2l (mp B32 M,())=some (a9u M,()):=by
  unfold S.b2l;dsimp only;rw[if_pos ⟨M,hI,rfl⟩,b3r (by decide)]
 have es:S.c6b ((a9u M).2,())=some (a5o 0 (a9u M).2,()):=by
  unfold S.c6b;dsimp only;rw[if_pos (by have:=hl.2;unfold a9u h4s;omega)]
 rw[ec,Option.bind_some,es,Option.bind_some];dsimp only
 by_cases h1:(a5o 0 (a9u M).2).length=1
 case neg=>
  rw[if_pos (by simpa using(show ¬((a5o 0 (a9u M).2).length:Int)=1 by omega)),d8i h1];rfl
 rw[if_neg (by simpa using(show((a5o 0 (a9u M).2).length:Int)=1 by omega))];obtain⟨k,hk⟩:=f1z h1;rw[c5i hk,hk];have hcl:(a9u M).1.length=M.length:=hl.1;rw[hcl,f4r hI (by decide)];obtain⟨m0,m12,mi,_⟩:=g1y hM hk;obtain⟨D,hD⟩:=f3w hM (clC M k);have hro:=g6q m0 m12 rfl hD mi;have key:=a0f (k:=13) (b:=P.b6s 13) (n:=(fl (clC M k) M.length).length) (st:=fun a=>((a:Int),((fl (clC M k) M.length).length:Int),zs (fl (clC M k) M.length),zs (fl (clC M k) M.length),mp B32 M,om B32 a (fl (clC M k) M.length).length (d4o M (clC M k)),())) (F:=fun _=>some (((tab M.length (a2c M (clC M k))).map (rp B32),true),())) (fun a g ha hg=>by
  unfold P.b6s;dsimp only at hg ⊢;have e1:(a:Int)<((fl (clC M k) M.length).length:Int):=by omega
  have e2:(0:Int)<=(a:Int):=by omega
  simp only[c4i,d1x,Int.toNat_natCast,a0r,a0w,e1,e2,decide_true,if_true,Bool.false_eq_true,if_false];rw[g9w hI ha g (by decide)];exact hg) (fun g=>by
  unfold P.b6s;dsimp only;have hz:S.a4q (0,())=some (rp B32 a3f,()):=by rfl
  rw[if_neg (by simp),hz,Option.bind_some];dsimp only;rw[a4b,g9x hn,Option.bind_some];simp only[a0r,a0w,Bool.false_eq_true,if_false];rw[h3a hro,Option.bind_some];dsimp only;have er:g9v (d4o M (clC M k)) (fl (clC M k) M.length).length=tab (fl (clC M k) M.length).length fun a=>a2p (wC M (clC M k) a) (a8g (tab (fl (clC M k) M.length).length (wC M (clC M k)))):=by
   unfold g9v d1d;rw[b8h];rfl
  rw[er,List.length_map,a1r,f2a,show(tab M.length fun _=>rp B32 a3f)=(f6u M.length (clC M k) (fun a=>a2p (wC M (clC M k) a) (a8g (tab (fl (clC M k) M.length).length (wC M (clC M k))))) (fun _=>a3f) 0).map (rp B32) by rw[g2f,b8h]];have key2:=a0f (k:=13) (b:=P.c1e) (n:=(fl (clC M k) M.length).length) (st:=fun a=>((a:Int),((fl (clC M k) M.length).length:Int),(tab (fl (clC M k) M.length).length fun a=>a2p (wC M (clC M k) a) (a8g (tab (fl (clC M k) M.length).length (wC M (clC M k))))).map (rp B32),(f6u M.length (clC M k) (fun a=>a2p (wC M (clC M k) a) (a8g (tab (fl (clC M k) M.length).length (wC M (clC M k))))) (fun _=>a3f) a).map (rp B32),zs (fl (clC M k) M.length),())) (F:=fun _=>some (((tab M.length (a2c M (clC M k))).map (rp B32),true),())) (fun a g' ha hg=>by
   unfold P.c1e;dsimp only at hg ⊢;obtain⟨q1,q2⟩:=c4k ha;have e1:(a:Int)<((fl (clC M k) M.length).length:Int):=by omega
   have e2:(0:Int)<=(a:Int):=by omega
   have e5:(0:Int)<=(((fl (clC M k) M.length).getD a 0:Nat):Int):=by omega
   have e6:(((fl (clC M k) M.length).getD a 0:Nat):Int)<(M.length:Int):=by omega
   simp only[c4i,d1x,Int.toNat_natCast,List.length_map,a1r,g6t,b2w ha,Nat.zero_add,e1,e2,e5,e6,decide_true,if_true];rw[wr (by omega) (by omega)];rw[<-g6s ha]at hg;exact hg) (fun g'=>by
   unfold P.c1e;dsimp only;rw[if_neg (by simp),g6r];rfl) (by omega)
  exact key2) (by omega)
 exact key
abbrev i_reversed.A:=Int×Int×List (List RB×Nat)×Int×List RB×List (List RB)×Int×Int×Unit
abbrev i_reversed.B:=Int×Int×List (List RB)×List (List RB×Nat)×List RB×Unit
abbrev i_reversed.C:=Option ((List (List RB×Nat)×Nat)×Unit)
abbrev P.a9s (g5:i_reversed.B->i_reversed.C) (x8:i_reversed.A) (g9:i_reversed.A->i_reversed.C):i_reversed.C:=
 (fun(a b d h i:Int) (c:List (List RB×Nat)) (e:List RB) (f:List (List RB))=>if decide (a<b)then if decide (0<=d)then if decide (d<(List.length (hd0 c):Int))then if decide (0<=a)then if decide (a<(e.length:Int))then if decide (0<=a)then if decide (a<(f.length:Int))then if decide (0<=d)then if decide (d<(List.length (f.getD a.toNat []):Int))then(S.a3n (((e.getD a.toNat (false,[],[])).1,(e.getD a.toNat (false,[],[])).2.1,(e.getD a.toNat (false,[],[])).2.2),((List.getD (f.getD a.toNat []) d.toNat (false,[],[])).1,(List.getD (f.getD a.toNat []) d.toNat (false,[],[])).2.1,(List.getD (f.getD a.toNat []) d.toNat (false,[],[])).2.2),())).bind fun y10=>if decide (0<=d)then if decide (d<(e.length:Int))then(S.a2t ((y10.1.1,y10.1.2.1,y10.1.2.2),((e.getD d.toNat (false,[],[])).1,(e.getD d.toNat (false,[],[])).2.1,(e.getD d.toNat (false,[],[])).2.2),())).bind fun y11=>if decide (0<=a)then if decide (a<(((List.getD (hd0 c) (0+d.toNat) (0,0)).2:Nat):Int))then if dup (List.map (fun(y12:Nat×Nat)=>y12.1) (hd0 c))then none else g9 (wrap .i64 (a+1),b,nrm (hd0 c) (List.set (in0 c) (List.getD (hd0 c) (0+d.toNat) (0,0)).1 (List.set (List.getD (in0 c) (List.getD (hd0 c) (0+d.toNat) (0,0)).1 []) (0+a.toNat) (y11.1.1,y11.1.2.1,y11.1.2.2))),d,e,f,h,i,())else none else none else none else none else none else none else none else none else none else none else none else none else if dup (List.map (fun(y13:Nat×Nat)=>y13.1) (hd0 c))then none else g5 (wrap .i64 (h+1),i,f,nrm (hd0 c) (in0 c),e,())) x8.1 x8.2.1 x8.2.2.2.1 x8.2.2.2.2.2.2.1 x8.2.2.2.2.2.2.2.1 x8.2.2.1 x8.2.2.2.2.1 x8.2.2.2.2.2.1
abbrev P.b3n (k:Nat) (x4:i_reversed.B) (g5:i_reversed.B->i_reversed.C):i_reversed.C:=
 if decide (x4.1<x4.2.1)then if dup (List.map (fun(y6:Nat×Nat)=>y6.1) (hd0 x4.2.2.2.1))then none else loopP (P.a9s g5) k (0,(x4.2.2.1.length:Int),nrm (hd0 x4.2.2.2.1) (in0 x4.2.2.2.1),x4.1,x4.2.2.2.2.1,x4.2.2.1,x4.1,x4.2.1,())else if dup (List.map (fun(y14:Nat×Nat)=>y14.1) (hd0 x4.2.2.2.1))then none else some ((nrm (hd0 x4.2.2.2.1) (in0 x4.2.2.2.1),List.length (hd0 x4.2.2.2.1)),())
def P.c6c (k:Nat) (x:List (List RB)×Unit):i_reversed.C:=
 (S.d7h (x.1,())).bind fun y0=>(S.c6a ((x.1.length:Int),())).bind fun y1=>if decide (y1.1.2=(List.length (hd0 y1.1.1)))then if dup (List.map (fun(y2:Nat×Nat)=>y2.1) (hd0 y1.1.1))then none else loopP (P.b3n k) k (0,(x.1.length:Int),x.1,nrm (hd0 y1.1.1) (in0 y1.1.1),y0.1.1,())else none
def rvM (M:List (List Q3)) (i j:Nat):Nat->Nat->Q3:=fun x y=>if x<i\/(x=i/\y<j)then c7v M x y else a3f
theorem g9y {M:List (List Q3)} (h:c2o M) (h1:d6u M=true) {i:Nat} (hi:i<M.length) (g) {K:Nat} (hK:12<K):
  loopP (P.a9s g) K ((0:Int),(M.length:Int),om B32 M.length M.length (rvM M i 0),(i:Int),(tab M.length (a2c M (clC M 0))).map (rp B32),mp B32 M,(i:Int),(M.length:Int),())=g (((i+1:Nat):Int),(M.length:Int),mp B32 M,om B32 M.length M.length (rvM M (i+1) 0),(tab M.length (a2c M (clC M 0))).map (rp B32),()):=by
 have hn:=h.2.1.1;obtain⟨o1,o2⟩:=g2k h h1;have key:=a0f (k:=K) (b:=P.a9s g) (n:=M.length) (st:=fun j=>((j:Int),(M.length:Int),om B32 M.length M.length (rvM M i j),(i:Int),(tab M.length (a2c M (clC M 0))).map (rp B32),mp B32 M,(i:Int),(M.length:Int),())) (F:=fun _=>g (((i+1:Nat):Int),(M.length:Int),mp B32 M,om B32 M.length M.length (rvM M (i+1) 0),(tab M.length (a2c M (clC M 0))).map (rp B32),())) (fun j g' hj hg=>by
  unfold P.a9s;dsimp only at hg ⊢;have e1:(j:Int)<(M.length:Int):=by omega
  have e2:(0:Int)<=(j:Int):=by omega
  have e3:(0:Int)<=(i:Int):=by omega
  have e4:(i:Int)<(M.length:Int):=by omega
  have e8:((mp B32 M).getD j []).getD i (false,(([]:List Int),([]:List Int)))=rp B32 (mq M j i):=e2n h.2.1 hj hi;have okc:=h1x ⟨(c3d h hj hi).1,(c3d h hj hi).2.1⟩;have em:S.a3n (((rp B32 (a2c M (clC M 0) j)).1,(rp B32 (a2c M (clC M 0) j)).2.1,(rp B32 (a2c M (clC M 0) j)).2.2),((rp B32 (mq M j i)).1,(rp B32 (mq M j i)).2.1,(rp B32 (mq M j i)).2.2),())=some (rp B32 (b8c (a2c M (clC M 0) j) (mq M j i)),()):=by
   show S.a3n (rp B32 _,rp B32 _,())=_;unfold S.a3n;dsimp only;rw[if_pos ⟨e2p (by decide) (o1 j hj),e2p (by decide) okc⟩,a4t a0e,a4t a0e]
  have eo:S.a2t (((rp B32 (b8c (a2c M (clC M 0) j) (mq M j i))).1,(rp B32 (b8c (a2c M (clC M 0) j) (mq M j i))).2.1,(rp B32 (b8c (a2c M (clC M 0) j) (mq M j i))).2.2),((rp B32 (a2c M (clC M 0) i)).1,(rp B32 (a2c M (clC M 0) i)).2.1,(rp B32 (a2c M (clC M 0) i)).2.2),())=some (rp B32 (c7v M i j),()):=by
   show S.a2t (rp B32 _,rp B32 _,())=_;unfold S.a2t;dsimp only;rw[if_pos ⟨e2p (by decide) (o2 i hi j hj).1,e2p (by decide) (o1 i hi),by rw[a4t a0e];exact e2r h h1 hi⟩,a4t a0e,a4t a0e];rfl
  have hu:g2a (rvM M i j) i j (c7v M i j)=rvM M i (j+1):=by
   funext x y;unfold g2a rvM
   by_cases q:x=i/\y=j
   ·rw[if_pos q,q.1,q.2,if_pos (Or.inr ⟨rfl,by omega⟩)]
   ·rw[if_neg q]
    by_cases w:x<i\/(x=i/\y<j)
    ·rw[if_pos w,if_pos (by omega)]
    ·rw[if_neg w,if_neg (by omega)]
  simp only[a0k,a3t,a4b,e2o h.2.1 hj,List.length_map,a1r,Int.toNat_natCast,Nat.zero_add,c0p hi,c3e hi,b2w hj,b2w hi,a0r,e1,e2,e3,e4,e8,decide_true,if_true,Bool.false_eq_true,if_false];rw[em,Option.bind_some];dsimp only;rw[eo,Option.bind_some];dsimp only;rw[wr (by omega) (by omega)];rw[<-hu,<-d0g hi]at hg;exact hg) (fun g'=>by
  unfold P.a9s;dsimp only;have hu:om B32 M.length M.length (rvM M i M.length)=om B32 M.length M.length (rvM M (i+1) 0):=b2g fun x hx y hy=>by
   unfold rvM
   by_cases w:x<i\/(x=i/\y<M.length)
   ·rw[if_pos w,if_pos (by omega)]
   ·rw[if_neg w,if_neg (by omega)]
  rw[if_neg (by simp),a0r,a0w,if_neg (by decide),wr (by omega) (by omega),hu];rfl) (by omega)
 exact key
open Classical in
def S.b4g (x:((List (List RB))×Unit)):(Option (((List ((List RB)×Nat))×Nat)×Unit)):=if ∃M,c2o M/\d6u M=true/\x.1=mp B32 M then some ((om B32 x.1.length x.1.length (c7v (mv B32 x.1)),x.1.length),())else none
theorem S.d9o (x r) (h:S.b4g x=some r):∃k,P.c6c k x=some r:=by
 obtain⟨m,u⟩:=x;unfold S.b4g at h;dsimp only at h;split at h
 case isFalse=>cases h
 rename_i hc;obtain⟨M,hM,h1,rfl⟩:=hc;cases h;rw[b3r (by decide),a4b];have hn:=hM.2.1.1;refine⟨13,?_⟩;unfold P.c6c;dsimp only;have hk:=one_pos hM h1;have er:S.d7h (mp B32 M,())=some (((tab M.length (a2c M (clC M 0))).map (rp B32),true),()):=by
  unfold S.d7h;dsimp only;rw[if_pos ⟨M,hM,rfl⟩,b3r (by decide),c5i hk]
 have ez:S.c6a ((M.length:Int),())=some ((om B32 M.length M.length (fun _ _=>a3f),M.length),()):=by
  unfold S.c6a;dsimp only;rw[if_pos ⟨by omega,by omega⟩,Int.toNat_natCast,g6v]
 rw[er,Option.bind_some,a4b,ez,Option.bind_some];dsimp only;rw[a0k,a3t,if_pos (by simp),a0r,a0w,if_neg (by decide)];have key:=a0f (k:=13) (b:=P.b3n 13) (n:=M.length) (st:=fun i=>((i:Int),(M.length:Int),mp B32 M,om B32 M.length M.length (rvM M i 0),(tab M.length (a2c M (clC M 0))).map (rp B32),())) (F:=fun _=>some ((om B32 M.length M.length (c7v M),M.length),())) (fun i g hi hg=>by
  unfold P.b3n;dsimp only at hg ⊢;rw[if_pos (decide_eq_true (by omega)),a0r,a0w,if_neg (by decide),a4b,<-hg];exact g9y hM h1 hi g (by decide)) (fun g=>by
  unfold P.b3n;dsimp only;have hm:om B32 M.length M.length (rvM M M.length 0)=om B32 M.length M.length (c7v M):=b2g fun x hx y hy=>by
   unfold rvM;rw[if_pos (Or.inl hx)]
  rw[if_neg (by simp),a0r,a0w,a0k,a3t,hm,if_neg (by decide)]) (by omega)
 refine Eq.trans ?_ key;have h0:om B32 M.length M.length (fun _ _=>a3f)=om B32 M.length M.length (rvM M 0 0):=b2g fun x hx y hy=>by
  unfold rvM;rw[if_neg (by omega)]
 rw[h0];rfl
def P.b1x (k:Nat) (x:List (List ByteArray)×Unit):Option (((List (List ByteArray×Nat)×Nat)×Bool)×Unit):=
 (S.b6o (x.1,())).bind fun y0=>if !y0.1.2 then some (((([]:List (List ByteArray×Nat)),0),false),())else(S.b6r (y0.1.1,())).bind fun y1=>if !y1.1 then some (((([]:List (List ByteArray×Nat)),0),false),())else(S.b4g (y0.1.1,())).bind fun y2=>(S.b1c (List.map (fun(y3:List RB×Nat)=>List.map (fun(y4:Bool×List Int×List Int)=>(y4.1,List.map (fun(y5:Int)=>y5) y4.2.1,List.map (fun(y6:Int)=>y6) y4.2.2)) (List.take y3.2 y3.1)) (seen (nrm (hd0 y2.1.1) (in0 y2.1.1)) 0 y2.1.2),())).bind fun y7=>if dup (List.map (fun(y8:Nat×Nat)=>y8.1) (hd0 y7.1.1.1))then none else some (((nrm (hd0 y7.1.1.1) (in0 y7.1.1.1),y7.1.1.2),y7.1.2),())
def S.a5v (x:((List (List ByteArray))×Unit)):(Option ((((List ((List ByteArray)×Nat))×Nat)×Bool)×Unit)):=P.b1x 0 x
theorem S.c6d (x r) (h:S.a5v x=some r):∃k,P.b1x k x=some r:=⟨0,h⟩
def P.a3b (k:Nat) (x:List (List ByteArray)×Unit):Option (Bool×Unit):=
 (S.b9f (x.1,1000000,())).bind fun y0=>if decide (y0.1<0)then some (true,())else(S.a8t (x.1,false,())).bind fun y1=>(S.a7u (List.map (fun(y2:List ByteArray×Nat)=>List.map (fun(y3:ByteArray)=>y3) (List.take y2.2 y2.1)) (seen (nrm (hd0 y1.1.1) (in0 y1.1.1)) 0 y1.1.2),())).bind fun y4=>(S.a8t (x.1,false,())).bind fun y5=>(S.a5v (List.map (fun(y6:List ByteArray×Nat)=>List.map (fun(y7:ByteArray)=>y7) (List.take y6.2 y6.1)) (seen (nrm (hd0 y5.1.1) (in0 y5.1.1)) 0 y5.1.2),())).bind fun y8=>(S.b4o (List.map (fun(y9:List ByteArray×Nat)=>List.map (fun(y10:ByteArray)=>y10) (List.take y9.2 y9.1)) (seen (nrm (hd0 y8.1.1.1) (in0 y8.1.1.1)) 0 y8.1.1.2),List.map (fun(y11:List ByteArray×Nat)=>List.map (fun(y12:ByteArray)=>y12) (List.take y11.2 y11.1)) (seen (nrm (hd0 y4.1.1.1) (in0 y4.1.1.1)) 0 y4.1.1.2),())).bind fun y13=>if !y13.1 then some (false,())else if ! (y8.1.2==y4.1.2)then some (false,())else(S.a8t (x.1,false,())).bind fun y14=>(S.a9l ((List.drop 0 (nrm (hd0 y5.1.1) (in0 y5.1.1)),y5.1.2),(List.drop 0 (nrm (hd0 y14.1.1) (in0 y14.1.1)),y14.1.2),())).bind fun y15=>if !y15.1 then some (false,())else if dup (List.map (fun(y16:Nat×Nat)=>y16.1) (seen (hd0 y5.1.1) 0 y5.1.2))then none else(fun(e0:Option (Bool×Unit))=>if decide (y5.1.2=(List.length (hd0 y5.1.1)))then e0 else e0) ((S.a5i (nrm (seen (hd0 y5.1.1) 0 y5.1.2) (in0 y5.1.1),101,())).bind fun y17=>if decide (y17.1<0)then some (false,())else(S.b4o (List.map (fun(y18:List ByteArray×Nat)=>List.map (fun(y19:ByteArray)=>y19) (List.take y18.2 y18.1)) (seen (nrm (hd0 y8.1.1.1) (in0 y8.1.1.1)) 0 y8.1.1.2),List.map (fun(y20:List ByteArray×Nat)=>List.map (fun(y21:ByteArray)=>y21) (List.take y20.2 y20.1)) (seen (nrm (hd0 y4.1.1.1) (in0 y4.1.1.1)) 0 y4.1.1.2),())).bind fun y22=>if !y22.1 then some (false,())else if ! (y8.1.2==y4.1.2)then some (false,())else if dup (List.map (fun(y23:Nat×Nat)=>y23.1) (seen (hd0 y8.1.1.1) 0 y8.1.1.2))then none else if decide (y8.1.1.2=(List.length (hd0 y8.1.1.1)))then(S.a5i (nrm (seen (hd0 y8.1.1.1) 0 y8.1.1.2) (in0 y8.1.1.1),101,())).bind fun y24=>(S.b0y (List.map (fun(y25:List ByteArray×Nat)=>List.map (fun(y26:ByteArray)=>y26) (List.take y25.2 y25.1)) (seen (nrm (hd0 y24.2.1) (in0 y24.2.1)) 0 y8.1.1.2),101,())).bind fun y27=>if decide (y27.1<0)then some (false,())else if y27.1 != y24.1 then some (false,())else(S.a8t (x.1,true,())).bind fun y28=>(S.a5v (List.map (fun(y29:List ByteArray×Nat)=>List.map (fun(y30:ByteArray)=>y30) (List.take y29.2 y29.1)) (seen (nrm (hd0 y28.1.1) (in0 y28.1.1)) 0 y28.1.2),())).bind fun y31=>(S.b4o (List.map (fun(y32:List ByteArray×Nat)=>List.map (fun(y33:ByteArray)=>y33) (List.take y32.2 y32.1)) (seen (nrm (hd0 y31.1.1.1) (in0 y31.1.1.1)) 0 y31.1.1.2),List.map (fun(y34:List ByteArray×Nat)=>List.map (fun(y35:ByteArray)=>y35) (List.take y34.2 y34.1)) (seen (nrm (hd0 y4.1.1.1) (in0 y4.1.1.1)) 0 y4.1.1.2),())).bind fun y36=>if !y36.1 then some (false,())else if ! (y31.1.2==y4.1.2)then some (false,())else(S.b0y (List.map (fun(y37:List ByteArray×Nat)=>List.map (fun(y38:ByteArray)=>y38) (List.take y37.2 y37.1)) (seen (nrm (hd0 y24.2.1) (in0 y24.2.1)) 0 y8.1.1.2),101,())).bind fun y39=>if decide (y39.1<0)then some (false,())else if y39.1 != y24.1 then some (false,())else some (true,())else(S.a5i (nrm (seen (hd0 y8.1.1.1) 0 y8.1.1.2) (in0 y8.1.1.1),101,())).bind fun y40=>none)
def S.a6m (x:((List (List ByteArray))×Unit)):(Option (Bool×Unit)):=P.a3b 0 x
theorem S.b6t (x r) (h:S.a6m x=some r):∃k,P.a3b k x=some r:=⟨0,h⟩
end Go.Cm
end
