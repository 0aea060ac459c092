import Derived.Test.YtdpljomfkoojnaaGreatDoorPlSharesOfRestb
set_option linter.unusedVariables false
set_option maxRecDepth 100000
noncomputable section
namespace Go.Cm
abbrev s_l03Classes.A:=Int×Int×List (List RB)×List Int×Int×List Int×Int×Bool×List Int×Int×Int×Unit
abbrev s_l03Classes.B:=Int×Int×List Int×List (List RB)×Int×List Int×Unit
abbrev s_l03Classes.C:=Option ((List Int×List Int)×Unit)
abbrev P.a6m (g5:s_l03Classes.B→s_l03Classes.C) (x8:s_l03Classes.A) (g9:s_l03Classes.A→s_l03Classes.C):s_l03Classes.C:=
 (fun(a b e h l m:Int) (c:List (List RB)) (d f j:List Int) (i:Bool)=>if decide (a<b)then if decide ((0:Int)≤a)then if decide (a<(d.length:Int))then(S.b0l (c,d.getD a.toNat (0:Int),())).bind fun y10=>(S.b2v (y10.1,e,())).bind fun y11=>if y11.1 then if decide ((0:Int)≤a)then if decide (a<(d.length:Int))then if decide ((0:Int)≤(d.getD a.toNat (0:Int)))then if decide ((d.getD a.toNat (0:Int))<(f.length:Int))then g9 (IntKind.wrap .i64 (a+(1:Int)),b,c,d,e,f.set ((0:Nat)+(Int.toNat (d.getD a.toNat (0:Int)))) h,h,i,j,l,m,())else none else none else none else none else g9 (IntKind.wrap .i64 (a+(1:Int)),b,c,d,e,f,h,false,j,l,m,())else none else none else if i then if decide (((j.length+(List.length [h]))*(8:Nat))≤(140737488355328:Nat))then g5 (IntKind.wrap .i64 (l+(1:Int)),m,f,c,IntKind.wrap .i64 (h+(1:Int)),j++[h],())else none else g5 (IntKind.wrap .i64 (l+(1:Int)),m,f,c,IntKind.wrap .i64 (h+(1:Int)),j,())) x8.1 x8.2.1 x8.2.2.2.2.1 x8.2.2.2.2.2.2.1 x8.2.2.2.2.2.2.2.2.2.1 x8.2.2.2.2.2.2.2.2.2.2.1 x8.2.2.1 x8.2.2.2.1 x8.2.2.2.2.2.1 x8.2.2.2.2.2.2.2.2.1 x8.2.2.2.2.2.2.2.1
abbrev P.a9w (k:Nat) (x4:s_l03Classes.B) (g5:s_l03Classes.B→s_l03Classes.C):s_l03Classes.C:=
 (fun(a b e:Int) (c f:List Int) (d:List (List RB))=>if decide (a<b)then if decide ((0:Int)≤a)then if decide (a<(c.length:Int))then if decide ((c.getD ((0:Nat)+a.toNat) (0:Int))≥(0:Int))then g5 (IntKind.wrap .i64 (a+(1:Int)),b,c,d,e,f,())else(S.b0l (d,a,())).bind fun y6=>loopP (P.a6m g5) k ((0:Int),(y6.1.length:Int),d,y6.1,a,c,e,true,f,a,b,())else none else none else some ((c,f),())) x4.1 x4.2.1 x4.2.2.2.2.1 x4.2.2.1 x4.2.2.2.2.2.1 x4.2.2.2.1
abbrev P.a9x (k:Nat) (x1:Int×Int×List Int×List (List RB)×Unit) (g2:Int×Int×List Int×List (List RB)×Unit→s_l03Classes.C):s_l03Classes.C:=
 if decide (x1.1<x1.2.1)then if decide ((0:Int)≤x1.1)then if decide (x1.1<(x1.2.2.1.length:Int))then g2 (IntKind.wrap .i64 (x1.1+(1:Int)),x1.2.1,x1.2.2.1.set ((0:Nat)+x1.1.toNat) (-1:Int),x1.2.2.2.1,())else none else none else loopP (P.a9w k) k ((0:Int),(x1.2.2.1.length:Int),x1.2.2.1,x1.2.2.2.1,(0:Int),([]:List Int),())
def P.b9p (k:Nat) (x:List (List RB)×Unit):s_l03Classes.C:=
 if decide ((0:Int)≤(x.1.length:Int))then if decide ((x.1.length:Int)≤(x.1.length:Int))then if decide (((x.1.length:Int)*(8:Int))≤(281474976710656:Int))then loopP (P.a9x k) k ((0:Int),(List.length (List.replicate (Int.toNat (x.1.length:Int)) (0:Int)):Int),List.replicate (Int.toNat (x.1.length:Int)) (0:Int),x.1,())else none else none else none
theorem reach_s {M:List (List Q3)} (hM:isM M) {i:Nat} (hi:i<M.length):S.b0l (mp B10 M,(i:Int),())=some (a5o 0 (b2p (adj M) M.length i),()):=by
 unfold S.b0l;dsimp only;rw[if_pos ⟨⟨M,hM,rfl⟩,by omega,by rw[b0g];omega⟩,c3h (by decide),b0g,Int.toNat_natCast]
theorem has_s {M:List (List Q3)} {i j:Nat} (hi:i<M.length) (hn:M.length≤12):S.b2v (a5o 0 (b2p (adj M) M.length i),(j:Int),())=some (rcB M i j,()):=by
 unfold S.b2v rcB;dsimp only;have h1:=c3i 0 (b2p (adj M) M.length i);rw[c5j hi]at h1;have h2:=c8q 0 (b2p (adj M) M.length i) j;rw[Int.zero_add]at h2;rw[if_pos (by omega),h2]
theorem reach_fl {M:List (List Q3)} {i:Nat} (hi:i<M.length):a5o 0 (b2p (adj M) M.length i)=zs (fl (rcB M i) M.length):=by
 have:=posF_fl 0 (b2p (adj M) M.length i);rw[c5j hi]at this;exact this
def upC (n:Nat) (f:Nat→Int) (c d:Nat→Bool) (k:Int) (a:Nat):List Int:=tab n fun v=>if(c v&&d v)=true∧ix c v<a then k else f v
theorem scl_inner {M:List (List Q3)} (hM:isM M) {i:Nat} (hi:i<M.length) (f:Nat→Int) (cl:List Bool) (hcl:cl.length≤12)
  (g) {K:Nat} (hK:M.length<K):
  loopP (P.a6m g) K ((0:Int),((a5o 0 (b2p (adj M) M.length i)).length:Int),mp B10 M,a5o 0 (b2p (adj M) M.length i),(i:Int),tab M.length f,(cl.length:Int),true,a5o 0 cl,(i:Int),(M.length:Int),())=g (((i+1:Nat):Int),(M.length:Int),tab M.length (fun j=>if(rcB M i j&&rcB M j i)=true then(cl.length:Int)else f j),mp B10 M,((cl.length+1:Nat):Int),a5o 0 (cl++[(List.range M.length).all fun j=> !rcB M i j||rcB M j i]),()):=by
 have hn:=hM.1;have hL:=reach_fl (M:=M) hi;have hl:(fl (rcB M i) M.length).length≤M.length:=by
  have:=List.length_filter_le (rcB M i) (List.range M.length);rw[List.length_range]at this;exact this
 rw[hL,c3k];have key:=a0h (k:=K) (b:=P.a6m g) (n:=(fl (rcB M i) M.length).length) (st:=fun a=>((a:Int),((fl (rcB M i) M.length).length:Int),mp B10 M,zs (fl (rcB M i) M.length),(i:Int),upC M.length f (rcB M i) (fun j=>rcB M j i) (cl.length:Int) a,(cl.length:Int),(List.range a).all (fun b=>rcB M ((fl (rcB M i) M.length).getD b 0) i),a5o 0 cl,(i:Int),(M.length:Int),())) (F:=fun _=>g (((i+1:Nat):Int),(M.length:Int),tab M.length (fun j=>if(rcB M i j&&rcB M j i)=true then(cl.length:Int)else f j),mp B10 M,((cl.length+1:Nat):Int),a5o 0 (cl++[(List.range M.length).all fun j=> !rcB M i j||rcB M j i]),())) (fun a g' ha hg=>by
  unfold P.a6m;dsimp only at hg ⊢;obtain⟨f1,f2⟩:=c3m ha;have f3:=ix_fl ha;have e1:(a:Int)<((fl (rcB M i) M.length).length:Int):=by omega
  have e2:(0:Int)≤(a:Int):=by omega
  have e3:(zs (fl (rcB M i) M.length)).getD a 0=(((fl (rcB M i) M.length).getD a 0:Nat):Int):=d2b _ _;rw[c3k,Int.toNat_natCast,e3];generalize hv:(fl (rcB M i) M.length).getD a 0=v at*;rw[reach_s hM f1,Option.bind_some];dsimp only;rw[has_s f1 hn,Option.bind_some];have e4:(0:Int)≤(v:Int):=by omega
  have e5:(v:Int)<(M.length:Int):=by omega
  have e6:(upC M.length f (rcB M i) (fun j=>rcB M j i) (cl.length:Int) a).length=M.length:=a2c _ _;simp only[e1,e2,e4,e5,e6,decide_true,if_true,Int.toNat_natCast,Nat.zero_add];rw[wr (by omega) (by omega)];rw[all_succ,hv]at hg;cases hr:rcB M v i
  ·have:upC M.length f (rcB M i) (fun j=>rcB M j i) (cl.length:Int) (a+1)=upC M.length f (rcB M i) (fun j=>rcB M j i) (cl.length:Int) a:=by
    unfold upC;apply a2d;intro w hw
    by_cases q:(rcB M i w&&rcB M w i)=true
    ·rw[Bool.and_eq_true]at q;have hne:ix (rcB M i) w≠a:=fun e=>by
      have:=(c7z hw q.1).2;rw[e,hv]at this;rw[←this,hr]at q;cases q.2
     by_cases hlt:ix (rcB M i) w<a
     ·rw[if_pos ⟨by rw[Bool.and_eq_true];exact q,by omega⟩,if_pos ⟨by rw[Bool.and_eq_true];exact q,hlt⟩]
     ·rw[if_neg (fun r=>by omega),if_neg (fun r=>hlt r.2)]
    ·rw[if_neg (fun r=>q r.1),if_neg (fun r=>q r.1)]
   rw[this,hr,Bool.and_false]at hg;rw[if_neg (by decide)];exact hg
  ·have:(upC M.length f (rcB M i) (fun j=>rcB M j i) (cl.length:Int) a).set v (cl.length:Int)=upC M.length f (rcB M i) (fun j=>rcB M j i) (cl.length:Int) (a+1):=by
    unfold upC;rw[c5m];apply a2d;intro w hw
    by_cases e:w=v
    ·subst e;rw[if_pos rfl,if_pos ⟨by dsimp only;rw[f2,hr];rfl,by omega⟩]
    ·rw[if_neg e]
     by_cases q:(rcB M i w&&rcB M w i)=true
     ·have hne:ix (rcB M i) w≠a:=fun e'=>by
       rw[Bool.and_eq_true]at q;have:=(c7z hw q.1).2;rw[e',hv]at this;exact e this.symm
      by_cases hlt:ix (rcB M i) w<a
      ·rw[if_pos ⟨q,hlt⟩,if_pos ⟨q,by omega⟩]
      ·rw[if_neg (fun r=>hlt r.2),if_neg (fun r=>by omega)]
     ·rw[if_neg (fun r=>q r.1),if_neg (fun r=>q r.1)]
   rw[hr,Bool.and_true]at hg;rw[if_pos rfl,this];exact hg) (fun g'=>by
  unfold P.a6m;dsimp only;have hpl:=c3i 0 cl;have e1:((a5o 0 cl).length+1)*8≤140737488355328:=by omega
  have e2:upC M.length f (rcB M i) (fun j=>rcB M j i) (cl.length:Int) (fl (rcB M i) M.length).length=tab M.length fun j=>if(rcB M i j&&rcB M j i)=true then(cl.length:Int)else f j:=by
   unfold upC;apply a2d;intro w hw
   by_cases q:(rcB M i w&&rcB M w i)=true
   ·rw[if_pos ⟨q,(c7z hw (by rw[Bool.and_eq_true]at q;exact q.1)).1⟩,if_pos q]
   ·rw[if_neg (fun r=>q r.1),if_neg q]
  have e3:(List.range (fl (rcB M i) M.length).length).all (fun b=>rcB M ((fl (rcB M i) M.length).getD b 0) i)=(List.range M.length).all fun j=> !rcB M i j||rcB M j i:=by
   rw[Bool.eq_iff_iff,List.all_eq_true,List.all_eq_true];constructor
   ·intro h j hj;have hj':=List.mem_range.1 hj;cases hc:rcB M i j
    ·rfl
    ·obtain⟨q1,q2⟩:=c7z hj' hc;have:=h _ (List.mem_range.2 q1);rw[q2]at this;rw[this];rfl
   ·intro h b hb;obtain⟨q1,q2⟩:=c3m (List.mem_range.1 hb);have:=h _ (List.mem_range.2 q1);rw[q2]at this;simpa using this
  rw[if_neg (by simp),e2,e3,c3j,Int.zero_add];cases(List.range M.length).all fun j=> !rcB M i j||rcB M j i
  ·rw[if_neg (by decide),if_neg (by decide),List.append_nil,wr (by omega) (by omega),wr (by omega) (by omega)];rfl
  ·simp only[if_true,List.length_cons,List.length_nil,Nat.zero_add,e1,decide_true];rw[wr (by omega) (by omega),wr (by omega) (by omega)];rfl) (show(fl (rcB M i) M.length).length<K by omega)
 refine Eq.trans ?_ key;have:upC M.length f (rcB M i) (fun j=>rcB M j i) (cl.length:Int) 0=tab M.length f:=by
  unfold upC;apply a2d;intro w hw;rw[if_neg (fun r=>by omega)]
 rw[this];rfl
open Classical in
def S.a8r (x:((List (List RB))×Unit)):(Option (((List Int)×(List Int))×Unit)):=if ∃M,isM M∧x.1=mp B10 M then some (((b5g (mv B10 x.1)).1,a5o 0 (b5g (mv B10 x.1)).2),())else none
theorem S.s_l03Classes_ok (x r) (h:S.a8r x=some r):∃k,P.b9p k x=some r:=by
 obtain⟨m,u⟩:=x;unfold S.a8r at h;dsimp only at h;split at h
 case isFalse=>cases h
 rename_i hc;obtain⟨M,hM,rfl⟩:=hc;cases h;rw[c3h (by decide)];have hn:=hM.1;refine⟨M.length+1,?_⟩;unfold P.b9p;dsimp only;have a1:(0:Int)≤(M.length:Int):=by omega
 have a2:(M.length:Int)*8≤281474976710656:=by omega
 rw[b0g];simp only[a1,a2,Int.le_refl,decide_true,if_true,Int.toNat_natCast,List.length_replicate];have key:=a0h (k:=M.length+1) (b:=P.a9w (M.length+1)) (n:=M.length) (st:=fun i=>((i:Int),(M.length:Int),((List.range i).foldl (a6k (rcB M) M.length) (List.replicate M.length (-1),[])).1,mp B10 M,((((List.range i).foldl (a6k (rcB M) M.length) (List.replicate M.length (-1),[])).2.length:Nat):Int),a5o 0 ((List.range i).foldl (a6k (rcB M) M.length) (List.replicate M.length (-1),[])).2,())) (F:=fun _=>some (((b5g M).1,a5o 0 (b5g M).2),())) (fun i g hi hg=>by
  unfold P.a9w;dsimp only at hg ⊢;obtain⟨l1,l2⟩:=c0d (rcB M) M.length i;rw[b4f]at hg;generalize (List.range i).foldl (a6k (rcB M) M.length) (List.replicate M.length (-1),[])=s at l1 l2 hg ⊢;have e1:(i:Int)<(M.length:Int):=by omega
  have e2:(0:Int)≤(i:Int):=by omega
  have e3:(i:Int)<(s.1.length:Int):=by omega
  have e4:s.1.getD i 0=s.1.getD i (-1):=by
   rw[List.getD_eq_getElem?_getD,List.getD_eq_getElem?_getD,List.getElem?_eq_getElem (by omega)];rfl
  simp only[e1,e2,e3,decide_true,if_true,Int.toNat_natCast,Nat.zero_add,e4];unfold a6k at hg
  by_cases h0:0≤s.1.getD i (-1)
  ·rw[if_pos h0]at hg;rw[if_pos (decide_eq_true h0),wr (by omega) (by omega)];exact hg
  ·rw[if_neg h0]at hg;rw[if_neg (by simpa using h0),reach_s hM hi,Option.bind_some];have hs:s.1=tab M.length fun v=>s.1.getD v (-1):=by
    conv=>lhs;rw[tab_of s.1 (-1),l1]
   rw[hs];refine Eq.trans (scl_inner hM hi (fun v=>s.1.getD v (-1)) s.2 (by omega) g (by omega)) ?_;rw[List.length_append]at hg;exact hg) (fun g=>by
  unfold P.a9w;dsimp only;rw[if_neg (by simp)];rfl) (by omega)
 have pre:=a0h (k:=M.length+1) (b:=P.a9x (M.length+1)) (n:=M.length) (st:=fun i=>((i:Int),(M.length:Int),List.replicate i (-1)++List.replicate (M.length - i) 0,mp B10 M,())) (F:=fun _=>some (((b5g M).1,a5o 0 (b5g M).2),())) (fun i g hi hg=>by
  unfold P.a9x;dsimp only at hg ⊢;have hlen:(List.replicate i (-1:Int)++List.replicate (M.length - i) 0).length=M.length:=by simp;omega
  have e1:(i:Int)<(M.length:Int):=by omega
  have e2:(0:Int)≤(i:Int):=by omega
  simp only[hlen,e1,e2,decide_true,if_true];rw[wr (by omega) (by omega),←hg];have e3:M.length - i=(M.length - (i+1))+1:=by omega
  have e4:(0+(i:Int).toNat)=(List.replicate i (-1:Int)).length:=by rw[List.length_replicate];omega
  rw[e3,e4,c2n];congr 2;simp [List.replicate_succ']) (fun g=>by
  unfold P.a9x;dsimp only;rw[if_neg (by simp),Nat.sub_self,List.replicate_zero,List.append_nil,List.length_replicate];exact key) (by omega)
 exact pre
def P.c5u (k:Nat) (x:RB×RB×Unit):Option (RB×Unit):=
 (S.a1c (x.1.2.1,x.2.1.2.1,())).bind fun y0=>(S.a1c (x.1.2.2,x.2.1.2.2,())).bind fun y1=>(S.a5j (! (x.1.1==x.2.1.1),y0.1,y1.1,())).bind fun y2=>some ((y2.1.1,y2.1.2.1,y2.1.2.2),())
def S.b0x (x:(RB×(RB×Unit))):(Option (RB×Unit)):=if c3z B10 40000000 x.1=true∧c3z B10 40000000 x.2.1=true then some (rp B10 (c3y (rv B10 x.1) (rv B10 x.2.1)),())else none
theorem S.s_l01Times_ok (x r) (h:S.b0x x=some r):∃k,P.c5u k x=some r:=by
 obtain⟨x,y,u⟩:=x;unfold S.b0x at h;dsimp only at h;split at h
 case isFalse=>cases h
 rename_i hc;obtain⟨hx,hy⟩:=hc;cases h;rw[a7u]at hx hy;obtain⟨hx,lx⟩:=hx;obtain⟨hy,ly⟩:=hy;obtain⟨n1,p1,q1,rfl,x1,x2⟩:=b1t hx;obtain⟨n2,p2,q2,rfl,y1,y2⟩:=b1t hy;rw[b9g a0d]at lx ly ⊢;rw[b9g a0d];have hq1:0<q1:=lx.1;have hq2:0<q2:=ly.1;have m1:=a4t a0d p1 p2;have m2:=a4t a0d q1 q2;have mul:∀p q:Nat,(nd B10 p).length≤100000000→(nd B10 q).length≤100000000→S.a1c (nd B10 p,(nd B10 q,()))=some (nd B10 (p*q),()):=by
  intro p q hp hq;unfold S.a1c;dsimp only;rw[if_pos ⟨a3x a0d _,a3x a0d _,by omega,by omega⟩,a0j a0d,a0j a0d]
 refine⟨0,?_⟩;unfold P.c5u c3y;dsimp only;rw[mul p1 p2 (by omega) (by omega),Option.bind_some,mul q1 q2 (by omega) (by omega),Option.bind_some];unfold S.a5j;dsimp only;rw[if_pos ⟨a0l a0d _,a0l a0d _,nd_ne a0d (Nat.ne_of_gt (Nat.mul_pos hq1 hq2)),by omega,by omega⟩,Option.bind_some,a0j a0d,a0j a0d];rfl
theorem rs_mul {x y:Q3} {m n:Nat} (hx:low x) (bx:below m x) (hy:low y) (bY:below n y) (hm:m≤350000000) (hn:n≤350000000):S.b0x (rp B10 x,(rp B10 y,()))=some (rp B10 (c3y x y),()):=by
 unfold S.b0x;dsimp only;rw[if_pos ⟨a4p (by decide) hx bx (by omega),a4p (by decide) hy bY (by omega)⟩,a5t a0d,a5t a0d]
def P.s_l01Over (k:Nat) (x:RB×RB×Unit):Option (RB×Unit):=
 (S.a1c (x.1.2.1,x.2.1.2.2,())).bind fun y0=>(S.a1c (x.1.2.2,x.2.1.2.1,())).bind fun y1=>(S.a5j (! (x.1.1==x.2.1.1),y0.1,y1.1,())).bind fun y2=>some ((y2.1.1,y2.1.2.1,y2.1.2.2),())
def S.b1y (x:(RB×(RB×Unit))):(Option (RB×Unit)):=if c3z B10 40000000 x.1=true∧c3z B10 40000000 x.2.1=true∧(rv B10 x.2.1).2.1≠0 then some (rp B10 (a2r (rv B10 x.1) (rv B10 x.2.1)),())else none
theorem S.s_l01Over_ok (x r) (h:S.b1y x=some r):∃k,P.s_l01Over k x=some r:=by
 obtain⟨x,y,u⟩:=x;unfold S.b1y at h;dsimp only at h;split at h
 case isFalse=>cases h
 rename_i hc;obtain⟨hx,hy,h0⟩:=hc;cases h;rw[a7u]at hx hy;obtain⟨hx,lx⟩:=hx;obtain⟨hy,ly⟩:=hy;obtain⟨n1,p1,q1,rfl,x1,x2⟩:=b1t hx;obtain⟨n2,p2,q2,rfl,y1,y2⟩:=b1t hy;rw[b9g a0d]at lx ly h0 ⊢;rw[b9g a0d];have hq1:0<q1:=lx.1;have hq2:0<p2:=Nat.pos_of_ne_zero h0;have m1:=a4t a0d p1 q2;have m2:=a4t a0d q1 p2;have mul:∀p q:Nat,(nd B10 p).length≤100000000→(nd B10 q).length≤100000000→S.a1c (nd B10 p,(nd B10 q,()))=some (nd B10 (p*q),()):=by
  intro p q hp hq;unfold S.a1c;dsimp only;rw[if_pos ⟨a3x a0d _,a3x a0d _,by omega,by omega⟩,a0j a0d,a0j a0d]
 refine⟨0,?_⟩;unfold P.s_l01Over a2r;dsimp only;rw[mul p1 q2 (by omega) (by omega),Option.bind_some,mul q1 p2 (by omega) (by omega),Option.bind_some];unfold S.a5j;dsimp only;rw[if_pos ⟨a0l a0d _,a0l a0d _,nd_ne a0d (Nat.ne_of_gt (Nat.mul_pos hq1 hq2)),by omega,by omega⟩,Option.bind_some,a0j a0d,a0j a0d];rfl
theorem rs_over {x y:Q3} {m n:Nat} (hx:low x) (bx:below m x) (hy:low y) (bY:below n y) (h0:y.2.1≠0) (hm:m≤350000000) (hn:n≤350000000):S.b1y (rp B10 x,(rp B10 y,()))=some (rp B10 (a2r x y),()):=by
 unfold S.b1y;dsimp only;rw[if_pos ⟨a4p (by decide) hx bx (by omega),a4p (by decide) hy bY (by omega),by rw[a5t a0d];exact h0⟩,a5t a0d,a5t a0d]
def P.c3r (k:Nat) (x:List (List RB×Nat)×Int×Int×Unit):Option (Unit×List (List RB×Nat)×Unit):=
 if decide ((0:Int)≤x.2.1)then if decide (x.2.1<(List.length (hd0 x.1):Int))then if decide ((0:Int)≤x.2.2.1)then if decide (x.2.2.1<(List.length (hd0 x.1):Int))then if decide ((0:Int)≤x.2.1)then if decide (x.2.1<(List.length (hd0 x.1):Int))then if decide ((0:Int)≤x.2.2.1)then if decide (x.2.2.1<(List.length (List.set (hd0 x.1) ((0:Nat)+x.2.1.toNat) ((List.getD (hd0 x.1) ((0:Nat)+x.2.2.1.toNat) (0,0)).1,(List.getD (hd0 x.1) ((0:Nat)+x.2.2.1.toNat) (0,0)).2)):Int))then if dup (List.map (fun(y0:Nat×Nat)=>y0.1) (List.set (List.set (hd0 x.1) ((0:Nat)+x.2.1.toNat) ((List.getD (hd0 x.1) ((0:Nat)+x.2.2.1.toNat) (0,0)).1,(List.getD (hd0 x.1) ((0:Nat)+x.2.2.1.toNat) (0,0)).2)) ((0:Nat)+x.2.2.1.toNat) ((List.getD (hd0 x.1) ((0:Nat)+x.2.1.toNat) (0,0)).1,(List.getD (hd0 x.1) ((0:Nat)+x.2.1.toNat) (0,0)).2)))then none else some ((),nrm (List.set (List.set (hd0 x.1) ((0:Nat)+x.2.1.toNat) ((List.getD (hd0 x.1) ((0:Nat)+x.2.2.1.toNat) (0,0)).1,(List.getD (hd0 x.1) ((0:Nat)+x.2.2.1.toNat) (0,0)).2)) ((0:Nat)+x.2.2.1.toNat) ((List.getD (hd0 x.1) ((0:Nat)+x.2.1.toNat) (0,0)).1,(List.getD (hd0 x.1) ((0:Nat)+x.2.1.toNat) (0,0)).2)) (in0 x.1),())else none else none else none else none else none else none else none else none
def S.b6j (x:((List ((List RB)×Nat))×(Int×(Int×Unit)))):(Option (Unit×((List ((List RB)×Nat))×Unit))):=P.c3r 0 x
theorem S.s_l03Swap_ok (x r) (h:S.b6j x=some r):∃k,P.c3r k x=some r:=⟨0,h⟩
abbrev s_l03Solve.A:=Option ((List RB×Bool)×List (List RB×Nat)×Unit)
abbrev s_l03Solve.B:=Int×Int×Int×List (List RB×Nat)×Unit
abbrev s_l03Solve.C:=Int×Int×List (List RB×Nat)×Unit
abbrev P.a7k (g16:s_l03Solve.B→s_l03Solve.A) (x23:Int×Int×List (List RB×Nat)×Int×RB×Int×Unit) (g24:Int×Int×List (List RB×Nat)×Int×RB×Int×Unit→s_l03Solve.A):s_l03Solve.A:=
 (fun(a b d f:Int) (c:List (List RB×Nat)) (e:RB)=>if decide (a≤b)then if decide ((0:Int)≤d)then if decide (d<(List.length (hd0 c):Int))then if decide ((0:Int)≤d)then if decide (d<(List.length (hd0 c):Int))then if decide ((0:Int)≤a)then if decide (a<(((List.getD (hd0 c) ((0:Nat)+d.toNat) (0,0)).2:Nat):Int))then if decide ((0:Int)≤f)then if decide (f<(List.length (hd0 c):Int))then if decide ((0:Int)≤a)then if decide (a<(((List.getD (hd0 c) ((0:Nat)+f.toNat) (0,0)).2:Nat):Int))then(S.b0x ((e.1,e.2.1,e.2.2),((List.getD (List.getD (in0 c) (List.getD (hd0 c) ((0:Nat)+f.toNat) (0,0)).1 ([]:List RB)) (0+a.toNat) (false,([]:List Int),([]:List Int))).1,(List.getD (List.getD (in0 c) (List.getD (hd0 c) ((0:Nat)+f.toNat) (0,0)).1 ([]:List RB)) (0+a.toNat) (false,([]:List Int),([]:List Int))).2.1,(List.getD (List.getD (in0 c) (List.getD (hd0 c) ((0:Nat)+f.toNat) (0,0)).1 ([]:List RB)) (0+a.toNat) (false,([]:List Int),([]:List Int))).2.2),())).bind fun y25=>(S.a6v (((List.getD (List.getD (in0 c) (List.getD (hd0 c) ((0:Nat)+d.toNat) (0,0)).1 ([]:List RB)) (0+a.toNat) (false,([]:List Int),([]:List Int))).1,(List.getD (List.getD (in0 c) (List.getD (hd0 c) ((0:Nat)+d.toNat) (0,0)).1 ([]:List RB)) (0+a.toNat) (false,([]:List Int),([]:List Int))).2.1,(List.getD (List.getD (in0 c) (List.getD (hd0 c) ((0:Nat)+d.toNat) (0,0)).1 ([]:List RB)) (0+a.toNat) (false,([]:List Int),([]:List Int))).2.2),(y25.1.1,y25.1.2.1,y25.1.2.2),())).bind fun y26=>if decide ((0:Int)≤a)then if decide (a<(((List.getD (hd0 c) ((0:Nat)+d.toNat) (0,0)).2:Nat):Int))then if dup (List.map (fun(y27:Nat×Nat)=>y27.1) (hd0 c))then none else g24 (IntKind.wrap .i64 (a+(1:Int)),b,nrm (hd0 c) (List.set (in0 c) (List.getD (hd0 c) ((0:Nat)+d.toNat) (0,0)).1 (List.set (List.getD (in0 c) (List.getD (hd0 c) ((0:Nat)+d.toNat) (0,0)).1 ([]:List RB)) (0+a.toNat) (y26.1.1,y26.1.2.1,y26.1.2.2))),d,(e.1,e.2.1,e.2.2),f,())else none else none else none else none else none else none else none else none else none else none else none else none else if dup (List.map (fun(y28:Nat×Nat)=>y28.1) (hd0 c))then none else g16 (IntKind.wrap .i64 (d+(1:Int)),b,f,nrm (hd0 c) (in0 c),())) x23.1 x23.2.1 x23.2.2.2.1 x23.2.2.2.2.2.1 x23.2.2.1 x23.2.2.2.2.1
abbrev P.a4l (k:Nat) (g3:s_l03Solve.C→s_l03Solve.A) (x15:s_l03Solve.B) (g16:s_l03Solve.B→s_l03Solve.A):s_l03Solve.A:=
 (fun(a b c:Int) (d:List (List RB×Nat))=>if decide (a<b)then if a==c then if dup (List.map (fun(y17:Nat×Nat)=>y17.1) (hd0 d))then none else g16 (IntKind.wrap .i64 (a+(1:Int)),b,c,nrm (hd0 d) (in0 d),())else if decide ((0:Int)≤a)then if decide (a<(List.length (hd0 d):Int))then if decide ((0:Int)≤c)then if decide (c<(((List.getD (hd0 d) ((0:Nat)+a.toNat) (0,0)).2:Nat):Int))then(S.a9j (((List.getD (List.getD (in0 d) (List.getD (hd0 d) ((0:Nat)+a.toNat) (0,0)).1 ([]:List RB)) (0+c.toNat) (false,([]:List Int),([]:List Int))).1,(List.getD (List.getD (in0 d) (List.getD (hd0 d) ((0:Nat)+a.toNat) (0,0)).1 ([]:List RB)) (0+c.toNat) (false,([]:List Int),([]:List Int))).2.1,(List.getD (List.getD (in0 d) (List.getD (hd0 d) ((0:Nat)+a.toNat) (0,0)).1 ([]:List RB)) (0+c.toNat) (false,([]:List Int),([]:List Int))).2.2),())).bind fun y18=>if y18.1 then if dup (List.map (fun(y19:Nat×Nat)=>y19.1) (hd0 d))then none else g16 (IntKind.wrap .i64 (a+(1:Int)),b,c,nrm (hd0 d) (in0 d),())else if decide ((0:Int)≤a)then if decide (a<(List.length (hd0 d):Int))then if decide ((0:Int)≤c)then if decide (c<(((List.getD (hd0 d) ((0:Nat)+a.toNat) (0,0)).2:Nat):Int))then if decide ((0:Int)≤c)then if decide (c<(List.length (hd0 d):Int))then if decide ((0:Int)≤c)then if decide (c<(((List.getD (hd0 d) ((0:Nat)+c.toNat) (0,0)).2:Nat):Int))then(S.b1y (((List.getD (List.getD (in0 d) (List.getD (hd0 d) ((0:Nat)+a.toNat) (0,0)).1 ([]:List RB)) (0+c.toNat) (false,([]:List Int),([]:List Int))).1,(List.getD (List.getD (in0 d) (List.getD (hd0 d) ((0:Nat)+a.toNat) (0,0)).1 ([]:List RB)) (0+c.toNat) (false,([]:List Int),([]:List Int))).2.1,(List.getD (List.getD (in0 d) (List.getD (hd0 d) ((0:Nat)+a.toNat) (0,0)).1 ([]:List RB)) (0+c.toNat) (false,([]:List Int),([]:List Int))).2.2),((List.getD (List.getD (in0 d) (List.getD (hd0 d) ((0:Nat)+c.toNat) (0,0)).1 ([]:List RB)) (0+c.toNat) (false,([]:List Int),([]:List Int))).1,(List.getD (List.getD (in0 d) (List.getD (hd0 d) ((0:Nat)+c.toNat) (0,0)).1 ([]:List RB)) (0+c.toNat) (false,([]:List Int),([]:List Int))).2.1,(List.getD (List.getD (in0 d) (List.getD (hd0 d) ((0:Nat)+c.toNat) (0,0)).1 ([]:List RB)) (0+c.toNat) (false,([]:List Int),([]:List Int))).2.2),())).bind fun y20=>if dup (List.map (fun(y21:Nat×Nat)=>y21.1) (hd0 d))then none else loopP (P.a7k g16) k (c,b,nrm (hd0 d) (in0 d),a,(y20.1.1,y20.1.2.1,y20.1.2.2),c,())else none else none else none else none else none else none else none else none else none else none else none else none else if dup (List.map (fun(y29:Nat×Nat)=>y29.1) (hd0 d))then none else g3 (IntKind.wrap .i64 (c+(1:Int)),b,nrm (hd0 d) (in0 d),())) x15.1 x15.2.1 x15.2.2.1 x15.2.2.2.1
abbrev P.b3f (k:Nat) (g3:s_l03Solve.C→s_l03Solve.A) (x6:Int×Int×List (List RB×Nat)×Int×Unit) (g7:Int×Int×List (List RB×Nat)×Int×Unit→s_l03Solve.A):s_l03Solve.A:=
 (fun(a b d:Int) (c:List (List RB×Nat))=>if decide (a<b)then if decide ((0:Int)≤a)then if decide (a<(List.length (hd0 c):Int))then if decide ((0:Int)≤d)then if decide (d<(((List.getD (hd0 c) ((0:Nat)+a.toNat) (0,0)).2:Nat):Int))then(S.a9j (((List.getD (List.getD (in0 c) (List.getD (hd0 c) ((0:Nat)+a.toNat) (0,0)).1 ([]:List RB)) (0+d.toNat) (false,([]:List Int),([]:List Int))).1,(List.getD (List.getD (in0 c) (List.getD (hd0 c) ((0:Nat)+a.toNat) (0,0)).1 ([]:List RB)) (0+d.toNat) (false,([]:List Int),([]:List Int))).2.1,(List.getD (List.getD (in0 c) (List.getD (hd0 c) ((0:Nat)+a.toNat) (0,0)).1 ([]:List RB)) (0+d.toNat) (false,([]:List Int),([]:List Int))).2.2),())).bind fun y8=>if y8.1 then if dup (List.map (fun(y9:Nat×Nat)=>y9.1) (hd0 c))then none else g7 (IntKind.wrap .i64 (a+(1:Int)),b,nrm (hd0 c) (in0 c),d,())else if a==b then if dup (List.map (fun(y10:Nat×Nat)=>y10.1) (hd0 c))then none else some ((([]:List RB),false),nrm (hd0 c) (in0 c),())else if dup (List.map (fun(y11:Nat×Nat)=>y11.1) (hd0 c))then none else(S.b6j (nrm (hd0 c) (in0 c),d,a,())).bind fun y12=>if dup (List.map (fun(y13:Nat×Nat)=>y13.1) (hd0 y12.2.1))then none else loopP (P.a4l k g3) k ((0:Int),b,d,nrm (hd0 y12.2.1) (in0 y12.2.1),())else none else none else none else none else if a==b then if dup (List.map (fun(y30:Nat×Nat)=>y30.1) (hd0 c))then none else some ((([]:List RB),false),nrm (hd0 c) (in0 c),())else if dup (List.map (fun(y31:Nat×Nat)=>y31.1) (hd0 c))then none else(S.b6j (nrm (hd0 c) (in0 c),d,a,())).bind fun y32=>if dup (List.map (fun(y33:Nat×Nat)=>y33.1) (hd0 y32.2.1))then none else loopP (P.a4l k g3) k ((0:Int),b,d,nrm (hd0 y32.2.1) (in0 y32.2.1),())) x6.1 x6.2.1 x6.2.2.2.1 x6.2.2.1
abbrev P.b1m (x52:Int×Int×List RB×List (List RB×Nat)×Unit) (g53:Int×Int×List RB×List (List RB×Nat)×Unit→s_l03Solve.A):s_l03Solve.A:=
 (fun(a b:Int) (c:List RB) (d:List (List RB×Nat))=>if decide (a<b)then if decide ((0:Int)≤a)then if decide (a<(List.length (hd0 d):Int))then if decide ((0:Int)≤b)then if decide (b<(((List.getD (hd0 d) ((0:Nat)+a.toNat) (0,0)).2:Nat):Int))then if decide ((0:Int)≤a)then if decide (a<(List.length (hd0 d):Int))then if decide ((0:Int)≤a)then if decide (a<(((List.getD (hd0 d) ((0:Nat)+a.toNat) (0,0)).2:Nat):Int))then(S.b1y (((List.getD (List.getD (in0 d) (List.getD (hd0 d) ((0:Nat)+a.toNat) (0,0)).1 ([]:List RB)) (0+b.toNat) (false,([]:List Int),([]:List Int))).1,(List.getD (List.getD (in0 d) (List.getD (hd0 d) ((0:Nat)+a.toNat) (0,0)).1 ([]:List RB)) (0+b.toNat) (false,([]:List Int),([]:List Int))).2.1,(List.getD (List.getD (in0 d) (List.getD (hd0 d) ((0:Nat)+a.toNat) (0,0)).1 ([]:List RB)) (0+b.toNat) (false,([]:List Int),([]:List Int))).2.2),((List.getD (List.getD (in0 d) (List.getD (hd0 d) ((0:Nat)+a.toNat) (0,0)).1 ([]:List RB)) (0+a.toNat) (false,([]:List Int),([]:List Int))).1,(List.getD (List.getD (in0 d) (List.getD (hd0 d) ((0:Nat)+a.toNat) (0,0)).1 ([]:List RB)) (0+a.toNat) (false,([]:List Int),([]:List Int))).2.1,(List.getD (List.getD (in0 d) (List.getD (hd0 d) ((0:Nat)+a.toNat) (0,0)).1 ([]:List RB)) (0+a.toNat) (false,([]:List Int),([]:List Int))).2.2),())).bind fun y54=>if decide (((c.length+(List.length [(y54.1.1,y54.1.2.1,y54.1.2.2)]))*(56:Nat))≤(140737488355328:Nat))then if dup (List.map (fun(y55:Nat×Nat)=>y55.1) (hd0 d))then none else g53 (IntKind.wrap .i64 (a+(1:Int)),b,c++[(y54.1.1,y54.1.2.1,y54.1.2.2)],nrm (hd0 d) (in0 d),())else none else none else none else none else none else none else none else none else none else if dup (List.map (fun(y56:Nat×Nat)=>y56.1) (hd0 d))then none else some ((c,true),nrm (hd0 d) (in0 d),())) x52.1 x52.2.1 x52.2.2.1 x52.2.2.2.1
abbrev P.b3g (k:Nat) (x2:s_l03Solve.C) (g3:s_l03Solve.C→s_l03Solve.A):s_l03Solve.A:=
 if decide (x2.1<x2.2.1)then if dup (List.map (fun(y4:Nat×Nat)=>y4.1) (hd0 x2.2.2.1))then none else loopP (P.b3f k g3) k (x2.1,x2.2.1,nrm (hd0 x2.2.2.1) (in0 x2.2.2.1),x2.1,())else if dup (List.map (fun(y50:Nat×Nat)=>y50.1) (hd0 x2.2.2.1))then none else loopP P.b1m k ((0:Int),x2.2.1,([]:List RB),nrm (hd0 x2.2.2.1) (in0 x2.2.2.1),())
def P.c5v (k:Nat) (x:List (List RB×Nat)×Unit):s_l03Solve.A:=
 if dup (List.map (fun(y0:Nat×Nat)=>y0.1) (hd0 x.1))then none else loopP (P.b3g k) k ((0:Int),(List.length (hd0 x.1):Int),nrm (hd0 x.1) (in0 x.1),())
theorem sv_mul {a b:Q3} (ha:okq a) (hb:okq b):S.b0x (((rp B10 a).1,(rp B10 a).2.1,(rp B10 a).2.2),((rp B10 b).1,(rp B10 b).2.1,(rp B10 b).2.2),())=some (rp B10 (c3y a b),()):=rs_mul ha.1 ha.2 hb.1 hb.2 (Nat.le_refl _) (Nat.le_refl _)
theorem sv_sub {a b:Q3} (ha:okq a) (hb:okq b):S.a6v (((rp B10 a).1,(rp B10 a).2.1,(rp B10 a).2.2),((rp B10 b).1,(rp B10 b).2.1,(rp B10 b).2.2),())=some (rp B10 (b5o a (oppQ b)),()):=rs_sub ha.1 ha.2 hb.1 hb.2 (Nat.le_refl _) (Nat.le_refl _)
theorem sv_over {a b:Q3} (ha:okq a) (hb:okq b) (h0:b.2.1≠0):S.b1y (((rp B10 a).1,(rp B10 a).2.1,(rp B10 a).2.2),((rp B10 b).1,(rp B10 b).2.1,(rp B10 b).2.2),())=some (rp B10 (a2r a b),()):=rs_over ha.1 ha.2 hb.1 hb.2 h0 (Nat.le_refl _) (Nat.le_refl _)
theorem sv_zero (q:Q3):S.a9j (((rp B10 q).1,(rp B10 q).2.1,(rp B10 q).2.2),())=some (decide (q.2.1=0),()):=by
 unfold S.a9j P.b8n rp;dsimp only;congr 2;rw[Bool.eq_iff_iff,beq_iff_eq,decide_eq_true_iff,←d1s (B:=B10) (by decide),←List.length_eq_zero_iff];omega
def svM (b:Nat→Nat→Q3) (k r j:Nat):Nat→Nat→Q3:=fun x y=>if x<r∨(x=r∧y<j)then elF true b k x y else b x y
theorem svM_row (b:Nat→Nat→Q3) (k r:Nat) (h:r=k∨(b r k).2.1=0):svM b k r 0=svM b k (r+1) 0:=by
 funext x y;unfold svM
 by_cases w:x<r
 ·rw[if_pos (Or.inl w),if_pos (Or.inl (by omega))]
 ·by_cases w2:x=r
  ·subst w2;rw[if_neg (by omega),if_pos (Or.inl (by omega))];unfold elF;rw[if_neg (fun q=>by
    rcases h with h|h
    ·rcases q.1 with q|q
     ·omega
     ·exact q.2 h
    ·exact q.2.1 h)]
  ·rw[if_neg (by omega),if_neg (by omega)]
theorem svM_wide (b:Nat→Nat→Q3) {n k r:Nat} :om B10 n (n+1) (svM b k r (n+1))=om B10 n (n+1) (svM b k (r+1) 0):=b7w fun x hx y hy=>by
 unfold svM
 by_cases w:x<r∨(x=r∧y<n+1)
 ·rw[if_pos w,if_pos (by omega)]
 ·rw[if_neg w,if_neg (by omega)]
theorem sv_inner {b:Nat→Nat→Q3} {n k:Nat} (h:elOk b n k) {r:Nat} (hr:r<n) (hrk:r≠k) (hf:(b r k).2.1≠0) (g) {K:Nat} (hK:13<K):
  loopP (P.a7k g) K ((k:Int),(n:Int),om B10 n (n+1) (svM b k r 0),(r:Int),rp B10 (a2r (b r k) (b k k)),(k:Int),())=g (((r+1:Nat):Int),(n:Int),(k:Int),om B10 n (n+1) (svM b k (r+1) 0),()):=by
 obtain⟨kn,n12,hnum,hp,hF,hM⟩:=h;have hstart:svM b k r 0=svM b k r k:=by
  funext x y;unfold svM
  by_cases w:x<r
  ·rw[if_pos (Or.inl w),if_pos (Or.inl w)]
  ·rw[if_neg (by omega)]
   by_cases w2:x=r∧y<k
   ·rw[if_pos (Or.inr w2)];unfold elF;rw[if_neg (fun q=>by omega)]
   ·rw[if_neg (fun q=>q.elim w w2)]
 rw[hstart]
 have key:=loop_from (k:=K) (b:=P.a7k g) (s:=k) (n:=n+1) (st:=fun j=>((j:Int),(n:Int),om B10 n (n+1) (svM b k r j),(r:Int),rp B10 (a2r (b r k) (b k k)),(k:Int),())) (F:=fun _=>g (((r+1:Nat):Int),(n:Int),(k:Int),om B10 n (n+1) (svM b k (r+1) 0),())) (by omega) (fun j g' hkj hj hg=>by
  unfold P.a7k;dsimp only at hg ⊢;have e1:(j:Int)≤(n:Int):=by omega
  have e2:(0:Int)≤(j:Int):=by omega
  have e3:(0:Int)≤(r:Int):=by omega
  have e4:(r:Int)<(n:Int):=by omega
  have e5:(0:Int)≤(k:Int):=by omega
  have e6:(k:Int)<(n:Int):=by omega
  have e7:(j:Int)<((n+1:Nat):Int):=by omega
  have v2:svM b k r j k j=b k j:=by
   unfold svM
   by_cases w:k<r∨(k=r∧j<j)
   ·rw[if_pos w];unfold elF;rw[if_neg (fun q=>by
     rcases q.1 with q|q
     ·omega
     ·exact q.2 rfl)]
   ·rw[if_neg w]
  have v3:svM b k r j r j=b r j:=by
   unfold svM;rw[if_neg (by omega)]
  have v5:updM (svM b k r j) r j (b5o (b r j) (oppQ (c3y (a2r (b r k) (b k k)) (b k j))))=svM b k r (j+1):=by
   funext x y;unfold updM
   by_cases q:x=r∧y=j
   ·rw[if_pos q,q.1,q.2];unfold svM;rw[if_pos (Or.inr ⟨rfl,by omega⟩)];unfold elF;rw[if_pos ⟨Or.inr ⟨rfl,hrk⟩,hf,hkj⟩];rfl
   ·rw[if_neg q];unfold svM
    by_cases w:x<r∨(x=r∧y<j)
    ·rw[if_pos w,if_pos (by omega)]
    ·rw[if_neg w,if_neg (by omega)]
  simp only[a0q,a4n,Int.toNat_natCast,Nat.zero_add,c0p hr,c0p kn,c3u hr,c3u kn,b6l (show j<n+1 by omega),a1p,e1,e2,e3,e4,e5,e6,e7,decide_true,if_true,Bool.false_eq_true,if_false,v2,v3];rw[sv_mul (hF r hr) (hnum k kn j (by omega)),Option.bind_some];dsimp only;rw[sv_sub (hnum r hr j (by omega)) (hM r hr j (by omega)),Option.bind_some];dsimp only;rw[wr (by omega) (by omega)];show g' (_,_,nrm (hd0 _) ((in0 _).set r (((tab (n+1) (svM b k r j r)).map (rp B10)).set j (rp B10 _))),_)=_;rw[om_write hr,v5];exact hg) (fun g'=>by
  unfold P.a7k;dsimp only;rw[if_neg (by simp;omega),a1p,a1z,wr (by omega) (by omega),if_neg (by decide),svM_wide];rfl) (by omega)
 exact key
theorem sv_rows {b:Nat→Nat→Q3} {n k:Nat} (h:elOk b n k) (g) {K:Nat} (hK:13<K):
  loopP (P.a4l K g) K ((0:Int),(n:Int),(k:Int),om B10 n (n+1) b,())=g (((k+1:Nat):Int),(n:Int),om B10 n (n+1) (elF true b k),()):=by
 have h':=h;obtain⟨kn,n12,hnum,hp,hF,hM⟩:=h;have hstart:svM b k 0 0=b:=by
  funext x y;unfold svM;rw[if_neg (by omega)]
 have key:=a0h (k:=K) (b:=P.a4l K g) (n:=n) (st:=fun r=>((r:Int),(n:Int),(k:Int),om B10 n (n+1) (svM b k r 0),())) (F:=fun _=>g (((k+1:Nat):Int),(n:Int),om B10 n (n+1) (elF true b k),())) (fun r g' hr hg=>by
  unfold P.a4l;dsimp only at hg ⊢;have e1:(r:Int)<(n:Int):=by omega
  have e3:(0:Int)≤(r:Int):=by omega
  have e5:(0:Int)≤(k:Int):=by omega
  have e6:(k:Int)<(n:Int):=by omega
  have e7:(k:Int)<((n+1:Nat):Int):=by omega
  rw[if_pos (decide_eq_true e1)]
  by_cases hrk:r=k
  ·rw[if_pos (by rw[beq_iff_eq];omega),a1p,a1z,if_neg (by decide),wr (by omega) (by omega),←hg,←svM_row b k r (Or.inl hrk)];rfl
  rw[if_neg (by rw[beq_iff_eq];omega)];have v1:svM b k r 0 r k=b r k:=by
   unfold svM;rw[if_neg (by omega)]
  have v2:svM b k r 0 k k=b k k:=by
   unfold svM
   by_cases w:k<r∨(k=r∧k<0)
   ·rw[if_pos w];unfold elF;rw[if_neg (fun q=>by
     rcases q.1 with q|q
     ·omega
     ·exact q.2 rfl)]
   ·rw[if_neg w]
  simp only[a0q,a4n,Int.toNat_natCast,Nat.zero_add,c0p hr,c0p kn,c3u hr,c3u kn,b6l (show k<n+1 by omega),a1p,a1z,e1,e3,e5,e6,e7,decide_true,if_true,Bool.false_eq_true,if_false,v1,v2];rw[sv_zero,Option.bind_some]
  by_cases hz:(b r k).2.1=0
  ·rw[if_pos (decide_eq_true hz),wr (by omega) (by omega),←hg,←svM_row b k r (Or.inr hz)];rfl
  ·rw[if_neg (by simpa using hz),sv_over (hnum r hr k (by omega)) (hnum k kn k (by omega)) hp,Option.bind_some];dsimp only;rw[←hg];exact sv_inner h' hr hrk hz g' hK) (fun g'=>by
  unfold P.a4l;dsimp only;rw[if_neg (by simp),a1p,a1z,if_neg (by decide),wr (by omega) (by omega)];have:om B10 n (n+1) (svM b k n 0)=om B10 n (n+1) (elF true b k):=b7w fun x hx y hy=>by
   unfold svM;rw[if_pos (Or.inl hx)]
  rw[this];rfl) (by omega)
 rw[hstart]at key;exact key
theorem sv_swap {a:Nat→Nat→Q3} {r c i k:Nat} (hi:i<r) (hk:k<r):S.b6j (om B10 r c a,(i:Int),(k:Int),())=some ((),om B10 r c (swQ a i k),()):=by
 unfold S.b6j P.c3r;dsimp only;have e1:(0:Int)≤(i:Int):=by omega
 have e2:(i:Int)<(r:Int):=by omega
 have e3:(0:Int)≤(k:Int):=by omega
 have e4:(k:Int)<(r:Int):=by omega
 have hs:=om_swap (B:=B10) (c:=c) (a:=a) hi hk;have hp:∀p:Nat×Nat,(p.1,p.2)=p:=fun p=>rfl
 simp only[hp,a0q,a4n,List.length_set,Int.toNat_natCast,Nat.zero_add,hs,sw_dup,sw_nrm hi hk,e1,e2,e3,e4,decide_true,if_true,Bool.false_eq_true,if_false]
theorem sv_search {a:Nat→Nat→Q3} {n k:Nat} (hk:k<n) (n12:n≤12) (g) {K:Nat} :∀(m i F:Nat),i+m=n→m<F→pvF (fun i=>decide ((a i k).2.1≠0)) m i<n→
  loopP (P.b3f K g) F ((i:Int),(n:Int),om B10 n (n+1) a,(k:Int),())=loopP (P.a4l K g) K ((0:Int),(n:Int),(k:Int),om B10 n (n+1) (swQ a k (pvF (fun i=>decide ((a i k).2.1≠0)) m i)),()):=by
 intro m
 induction m with
 |zero=>
  intro i F hi hF hp;unfold pvF at hp;omega
 |succ m ih=>
  intro i F hi hF hp;obtain⟨F,rfl⟩:∃j,F=j+1:=⟨F - 1,by omega⟩
  rw[a0k];have ih':=ih (i+1) F (by omega) (by omega);generalize loopP (P.b3f K g) F=g' at ih' ⊢;unfold P.b3f;dsimp only;have hin:i<n:=by omega
  have e1:(i:Int)<(n:Int):=by omega
  have e2:(0:Int)≤(i:Int):=by omega
  have e3:(0:Int)≤(k:Int):=by omega
  have e4:(k:Int)<((n+1:Nat):Int):=by omega
  simp only[a0q,a4n,Int.toNat_natCast,Nat.zero_add,c0p hin,c3u hin,b6l (show k<n+1 by omega),a1p,a1z,e1,e2,e3,e4,decide_true,if_true,Bool.false_eq_true,if_false];rw[sv_zero,Option.bind_some];unfold pvF at hp ⊢
  by_cases hz:(a i k).2.1=0
  ·have hd:¬(decide ((a i k).2.1≠0)=true):=by simp [hz]
   rw[if_neg hd]at hp ⊢;rw[if_pos (decide_eq_true hz),wr (by omega) (by omega)];exact ih' hp
  ·have hd:decide ((a i k).2.1≠0)=true:=decide_eq_true hz;rw[if_pos hd]at hp ⊢;rw[if_neg (by simpa using hz),if_neg (by rw[beq_iff_eq];omega),sv_swap hk hin,Option.bind_some]
open Classical in
def S.b3r (x:((List ((List RB)×Nat))×Unit)):(Option (((List RB)×Bool)×((List ((List RB)×Nat))×Unit))):=
 if h:∃(a:Nat→Nat→Q3) (n:Nat),x.1=om B10 n (n+1) a∧elsOk true a n then some (((tab h.choose_spec.choose (solS h.choose h.choose_spec.choose)).map (rp B10),true),om B10 h.choose_spec.choose (h.choose_spec.choose+1) (elim true h.choose_spec.choose h.choose h.choose_spec.choose),())else none
theorem S.s_l03Solve_ok (x r) (h:S.b3r x=some r):∃k,P.c5v k x=some r:=by
 obtain⟨m,u⟩:=x;unfold S.b3r at h;dsimp only at h;split at h
 case isFalse=>cases h
 rename_i hc;have hs:=hc.choose_spec.choose_spec;cases h;generalize hc.choose_spec.choose=n at*;generalize hc.choose=a at*;obtain⟨rfl,hr⟩:=hs;obtain⟨n12,hnum,hpiv,hel,hdia⟩:=hr;refine⟨14,?_⟩;unfold P.c5v;dsimp only;rw[a1p,a1z,a0q,a4n,if_neg (by decide)];have key:=a0h (k:=14) (b:=P.b3g 14) (n:=n) (st:=fun k=>((k:Int),(n:Int),om B10 n (n+1) (elim true n a k),())) (F:=fun _=>some (((tab n (solS a n)).map (rp B10),true),om B10 n (n+1) (elim true n a n),())) (fun k g hk hg=>by
  unfold P.b3g;dsimp only at hg ⊢;rw[if_pos (decide_eq_true (by omega)),a1p,a1z,if_neg (by decide)];have hp:=(hpiv k hk).2.1;have he:=hel k hk;have hs:=sv_search (a:=elim true n a k) hk n12 g (K:=14) (n - k) k 14 (by omega) (by omega) hp;rw[elim]at hg;rw[←hg];exact hs.trans (sv_rows he g (by decide))) (fun g=>by
  unfold P.b3g;dsimp only;rw[if_neg (by simp),a1p,a1z,if_neg (by decide)];have key2:=a0h (k:=14) (b:=P.b1m) (n:=n) (st:=fun i=>((i:Int),(n:Int),(tab i (solS a n)).map (rp B10),om B10 n (n+1) (elim true n a n),())) (F:=fun _=>some (((tab n (solS a n)).map (rp B10),true),om B10 n (n+1) (elim true n a n),())) (fun i g' hi hg=>by
   unfold P.b1m;dsimp only at hg ⊢;have e1:(i:Int)<(n:Int):=by omega
   have e2:(0:Int)≤(i:Int):=by omega
   have e3:(0:Int)≤(n:Int):=by omega
   have e4:(n:Int)<((n+1:Nat):Int):=by omega
   have e5:(i:Int)<((n+1:Nat):Int):=by omega
   have e6:(i+1)*56≤140737488355328:=by omega
   simp only[a0q,a4n,Int.toNat_natCast,Nat.zero_add,c0p hi,c3u hi,b6l (show n<n+1 by omega),b6l (show i<n+1 by omega),a1p,a1z,e1,e2,e3,e4,e5,decide_true,if_true,Bool.false_eq_true,if_false];rw[sv_over (hnum n (Nat.le_refl _) i hi n (Nat.le_refl _)) (hnum n (Nat.le_refl _) i hi i (by omega)) (hdia i hi),Option.bind_some];dsimp only;simp only[List.length_map,a2c,List.length_cons,List.length_nil,Nat.zero_add,e6,decide_true,if_true];rw[wr (by omega) (by omega)];rw[←c3v]at hg;exact hg) (fun g'=>by
   unfold P.b1m;dsimp only;rw[if_neg (by simp),a1p,a1z,if_neg (by decide)]) (by omega)
  exact key2) (by omega)
 exact key
theorem solve_s {a:Nat→Nat→Q3} {n:Nat} (h:elsOk true a n):S.b3r (om B10 n (n+1) a,())=some (((tab n (solS a n)).map (rp B10),true),om B10 n (n+1) (elim true n a n),()):=by
 unfold S.b3r;have hc:∃(b:Nat→Nat→Q3) (m:Nat),(om B10 n (n+1) a,()).1=om B10 m (m+1) b∧elsOk true b m:=⟨a,n,rfl,h⟩
 rw[dif_pos hc];obtain⟨e,hb⟩:=hc.choose_spec.choose_spec;dsimp only at e;generalize hc.choose_spec.choose=m at*;generalize hc.choose=b at*;obtain⟨e1,e2⟩:=om_inj a0d e;subst e1;have hab:∀i,i<n→∀j,j≤n→a i j=b i j:=fun i hi j hj=>(e2 i hi).2 j (by omega)
 have hg:=elim_congr (full:=true) hab (fun k hk=>(h.piv k hk).2.1) n (Nat.le_refl _);have hw:tab n (solS b n)=tab n (solS a n):=a2d fun i hi=>by
  unfold solS;rw[hg i hi n (Nat.le_refl _),hg i hi i (by omega)]
 rw[hw,b7w fun i hi j hj=>hg i hi j (by omega)]
abbrev s_l03Rest.A:=Int×Int×List (List RB)×Int×List RB×List (List RB×Nat)×Unit
abbrev s_l03Rest.B:=Int×Int×List (List RB)×List (List RB×Nat)×Unit
abbrev s_l03Rest.C:=Option ((List RB×Bool)×Unit)
abbrev P.b1z (g3:s_l03Rest.B→s_l03Rest.C) (x6:s_l03Rest.A) (g7:s_l03Rest.A→s_l03Rest.C):s_l03Rest.C:=
 (fun(a b d:Int) (c:List (List RB)) (e:List RB) (f:List (List RB×Nat))=>if decide (a<b)then if decide ((0:Int)≤a)then if decide (a<(c.length:Int))then if decide ((0:Int)≤d)then if decide (d<(List.length (c.getD a.toNat ([]:List RB)):Int))then if a==d then(S.b2s ()).bind fun y8=>(S.a6v (((List.getD (c.getD a.toNat ([]:List RB)) d.toNat (false,([]:List Int),([]:List Int))).1,(List.getD (c.getD a.toNat ([]:List RB)) d.toNat (false,([]:List Int),([]:List Int))).2.1,(List.getD (c.getD a.toNat ([]:List RB)) d.toNat (false,([]:List Int),([]:List Int))).2.2),(y8.1.1,y8.1.2.1,y8.1.2.2),())).bind fun y9=>if d==(IntKind.wrap .i64 (b - (1:Int)))then(S.b2s ()).bind fun y10=>if decide (((e.length+(List.length [(y10.1.1,y10.1.2.1,y10.1.2.2)]))*(56:Nat))≤(140737488355328:Nat))then if dup (List.map (fun(y11:Nat×Nat)=>y11.1) (hd0 f))then none else g7 (IntKind.wrap .i64 (a+(1:Int)),b,c,d,e++[(y10.1.1,y10.1.2.1,y10.1.2.2)],nrm (hd0 f) (in0 f),())else none else if decide (((e.length+(List.length [(y9.1.1,y9.1.2.1,y9.1.2.2)]))*(56:Nat))≤(140737488355328:Nat))then if dup (List.map (fun(y12:Nat×Nat)=>y12.1) (hd0 f))then none else g7 (IntKind.wrap .i64 (a+(1:Int)),b,c,d,e++[(y9.1.1,y9.1.2.1,y9.1.2.2)],nrm (hd0 f) (in0 f),())else none else if d==(IntKind.wrap .i64 (b - (1:Int)))then(S.b2s ()).bind fun y13=>if decide (((e.length+(List.length [(y13.1.1,y13.1.2.1,y13.1.2.2)]))*(56:Nat))≤(140737488355328:Nat))then if dup (List.map (fun(y14:Nat×Nat)=>y14.1) (hd0 f))then none else g7 (IntKind.wrap .i64 (a+(1:Int)),b,c,d,e++[(y13.1.1,y13.1.2.1,y13.1.2.2)],nrm (hd0 f) (in0 f),())else none else if decide (((e.length+(List.length [((List.getD (c.getD a.toNat ([]:List RB)) d.toNat (false,([]:List Int),([]:List Int))).1,(List.getD (c.getD a.toNat ([]:List RB)) d.toNat (false,([]:List Int),([]:List Int))).2.1,(List.getD (c.getD a.toNat ([]:List RB)) d.toNat (false,([]:List Int),([]:List Int))).2.2)]))*(56:Nat))≤(140737488355328:Nat))then if dup (List.map (fun(y15:Nat×Nat)=>y15.1) (hd0 f))then none else g7 (IntKind.wrap .i64 (a+(1:Int)),b,c,d,e++[((List.getD (c.getD a.toNat ([]:List RB)) d.toNat (false,([]:List Int),([]:List Int))).1,(List.getD (c.getD a.toNat ([]:List RB)) d.toNat (false,([]:List Int),([]:List Int))).2.1,(List.getD (c.getD a.toNat ([]:List RB)) d.toNat (false,([]:List Int),([]:List Int))).2.2)],nrm (hd0 f) (in0 f),())else none else none else none else none else none else(S.b5v ()).bind fun y16=>if d==(IntKind.wrap .i64 (b - (1:Int)))then(S.b2s ()).bind fun y17=>if decide (((e.length+(List.length [(y17.1.1,y17.1.2.1,y17.1.2.2)]))*(56:Nat))≤(140737488355328:Nat))then if decide ((((List.length (hd0 f))+(List.length (hd0 [(e++[(y17.1.1,y17.1.2.1,y17.1.2.2)],List.length (e++[(y17.1.1,y17.1.2.1,y17.1.2.2)]))])))*(24:Nat))≤(140737488355328:Nat))then if dup (List.map (fun(y18:Nat×Nat)=>y18.1) (b0n (List.length (in0 f)) (hd0 f) (hd0 [(e++[(y17.1.1,y17.1.2.1,y17.1.2.2)],List.length (e++[(y17.1.1,y17.1.2.1,y17.1.2.2)]))])))then none else g3 (IntKind.wrap .i64 (d+(1:Int)),b,c,nrm (b0n (List.length (in0 f)) (hd0 f) (hd0 [(e++[(y17.1.1,y17.1.2.1,y17.1.2.2)],List.length (e++[(y17.1.1,y17.1.2.1,y17.1.2.2)]))])) ((in0 f)++[e++[(y17.1.1,y17.1.2.1,y17.1.2.2)]]),())else none else none else if decide (((e.length+(List.length [(y16.1.1,y16.1.2.1,y16.1.2.2)]))*(56:Nat))≤(140737488355328:Nat))then if decide ((((List.length (hd0 f))+(List.length (hd0 [(e++[(y16.1.1,y16.1.2.1,y16.1.2.2)],List.length (e++[(y16.1.1,y16.1.2.1,y16.1.2.2)]))])))*(24:Nat))≤(140737488355328:Nat))then if dup (List.map (fun(y19:Nat×Nat)=>y19.1) (b0n (List.length (in0 f)) (hd0 f) (hd0 [(e++[(y16.1.1,y16.1.2.1,y16.1.2.2)],List.length (e++[(y16.1.1,y16.1.2.1,y16.1.2.2)]))])))then none else g3 (IntKind.wrap .i64 (d+(1:Int)),b,c,nrm (b0n (List.length (in0 f)) (hd0 f) (hd0 [(e++[(y16.1.1,y16.1.2.1,y16.1.2.2)],List.length (e++[(y16.1.1,y16.1.2.1,y16.1.2.2)]))])) ((in0 f)++[e++[(y16.1.1,y16.1.2.1,y16.1.2.2)]]),())else none else none) x6.1 x6.2.1 x6.2.2.2.1 x6.2.2.1 x6.2.2.2.2.1 x6.2.2.2.2.2.1
abbrev P.b5i (k:Nat) (x2:s_l03Rest.B) (g3:s_l03Rest.B→s_l03Rest.C):s_l03Rest.C:=
 if decide (x2.1<x2.2.1)then if dup (List.map (fun(y4:Nat×Nat)=>y4.1) (hd0 x2.2.2.2.1))then none else loopP (P.b1z g3) k ((0:Int),x2.2.1,x2.2.2.1,x2.1,([]:List RB),nrm (hd0 x2.2.2.2.1) (in0 x2.2.2.2.1),())else if dup (List.map (fun(y20:Nat×Nat)=>y20.1) (hd0 x2.2.2.2.1))then none else(S.b3r (nrm (hd0 x2.2.2.2.1) (in0 x2.2.2.2.1),())).bind fun y21=>some ((y21.1.1,y21.1.2),())
def P.s_l03Rest (k:Nat) (x:List (List RB)×Unit):s_l03Rest.C:=
 (S.a8r (x.1,())).bind fun y0=>if(y0.1.2.length:Int) != (1:Int)then some ((([]:List RB),false),())else loopP (P.b5i k) k ((0:Int),(x.1.length:Int),x.1,nrm (hd0 ([]:List (List RB×Nat))) (in0 ([]:List (List RB×Nat))),())
theorem rsr_one:S.b2s ()=some (rp B10 c3c,()):=by rfl
theorem rsr_none:S.b5v ()=some (rp B10 a5u,()):=by rfl
theorem rsr_row {M:List (List Q3)} (h:isCh M) {j:Nat} (hj:j<M.length) (g) {K:Nat} (hK:12<K):
  loopP (P.b1z g) K ((0:Int),(M.length:Int),mp B10 M,(j:Int),([]:List (Bool×(List Int×List Int))),om B10 j (M.length+1) (a8u M),())=g (((j+1:Nat):Int),(M.length:Int),mp B10 M,om B10 (j+1) (M.length+1) (a8u M),()):=by
 have hn:=h.2.1.1;have key:=a0h (k:=K) (b:=P.b1z g) (n:=M.length) (st:=fun i=>((i:Int),(M.length:Int),mp B10 M,(j:Int),(tab i (a8u M j)).map (rp B10),om B10 j (M.length+1) (a8u M),())) (F:=fun _=>g (((j+1:Nat):Int),(M.length:Int),mp B10 M,om B10 (j+1) (M.length+1) (a8u M),())) (fun i g' hi hg=>by
  unfold P.b1z;dsimp only at hg ⊢;have e1:(i:Int)<(M.length:Int):=by omega
  have e2:(0:Int)≤(i:Int):=by omega
  have e3:(0:Int)≤(j:Int):=by omega
  have e4:(j:Int)<(M.length:Int):=by omega
  have e7:(i+1)*56≤140737488355328:=by omega
  have e8:((mp B10 M).getD i []).getD j (false,(([]:List Int),([]:List Int)))=rp B10 (mq M i j):=mq_held h.2.1 hi hj;have ha:=ch_at h hi hj;have hv:a8u M j i=if j+1=M.length then c3c else if i=j then b5o (mq M i j) (oppQ c3c)else mq M i j:=by
   unfold a8u;rw[if_neg (by omega)]
  have hmin:S.a6v (((rp B10 (mq M i j)).1,(rp B10 (mq M i j)).2.1,(rp B10 (mq M i j)).2.2),((rp B10 c3c).1,(rp B10 c3c).2.1,(rp B10 c3c).2.2),())=some (rp B10 (b5o (mq M i j) (oppQ c3c)),()):=rs_sub ha.1 ha.2.1 b5e (oneQ_below (n:=1) (by decide)) (by decide) (by decide);rw[←c3v,hv]at hg;simp only[Int.toNat_natCast,b0g,mq_wide h.2.1 hi,List.length_map,a2c,List.length_cons,List.length_nil,Nat.zero_add,a1p,a1z,e1,e2,e3,e4,e7,e8,decide_true,if_true,Bool.false_eq_true,if_false];rw[wr (x:=(i:Int)+1) (by omega) (by omega),wr (x:=(M.length:Int) - 1) (by omega) (by omega),rsr_one,Option.bind_some,Option.bind_some,hmin,Option.bind_some];dsimp only
  by_cases hij:i=j
  ·rw[if_pos (by rw[beq_iff_eq];omega)]
   by_cases hjn:j+1=M.length
   ·rw[if_pos hjn]at hg;rw[if_pos (by rw[beq_iff_eq];omega)];exact hg
   ·rw[if_neg hjn,if_pos hij]at hg;rw[if_neg (by rw[beq_iff_eq];omega)];exact hg
  ·rw[if_neg (by rw[beq_iff_eq];omega)]
   by_cases hjn:j+1=M.length
   ·rw[if_pos hjn]at hg;rw[if_pos (by rw[beq_iff_eq];omega)];exact hg
   ·rw[if_neg hjn,if_neg hij]at hg;rw[if_neg (by rw[beq_iff_eq];omega)];exact hg) (fun g'=>by
  unfold P.b1z;dsimp only;have e1:(M.length+1)*56≤140737488355328:=by omega
  have e3:(j+1)*24≤140737488355328:=by omega
  have e2:= @om_app B10 j (M.length+1) (a8u M);have hv:a8u M j M.length=if j+1=M.length then c3c else a5u:=by
   unfold a8u;rw[if_pos rfl]
  rw[←c3v,hv]at e2;rw[if_neg (by simp),rsr_none,Option.bind_some,wr (x:=(j:Int)+1) (by omega) (by omega),wr (x:=(M.length:Int) - 1) (by omega) (by omega),rsr_one,Option.bind_some];dsimp only;have hlen:∀q:Bool×(List Int×List Int),((tab M.length (a8u M j)).map (rp B10)++[q]).length=M.length+1:=fun q=>by simp [a2c]
  by_cases hjn:j+1=M.length
  ·rw[if_pos hjn]at e2;rw[if_pos (by rw[beq_iff_eq];omega)];have e4:((rp B10 c3c).1,(rp B10 c3c).2.1,(rp B10 c3c).2.2)=rp B10 c3c:=rfl;simp only[e4,hlen,a0q,a4n,List.length_map,a2c,List.length_cons,List.length_nil,Nat.zero_add,e1,e3,e2.1,e2.2,decide_true,if_true,Bool.false_eq_true,if_false];rfl
  ·rw[if_neg hjn]at e2;rw[if_neg (by rw[beq_iff_eq];omega)];have e4:((rp B10 a5u).1,(rp B10 a5u).2.1,(rp B10 a5u).2.2)=rp B10 a5u:=rfl;simp only[e4,hlen,a0q,a4n,List.length_map,a2c,List.length_cons,List.length_nil,Nat.zero_add,e1,e3,e2.1,e2.2,decide_true,if_true,Bool.false_eq_true,if_false];rfl) (by omega)
 exact key
open Classical in
def S.b6k (x:((List (List RB))×Unit)):(Option (((List RB)×Bool)×Unit)):=if ∃M,isCh M∧x.1=mp B10 M then some (((b4s (mv B10 x.1)).1.map (rp B10),(b4s (mv B10 x.1)).2),())else none
theorem S.s_l03Rest_ok (x r) (h:S.b6k x=some r):∃k,P.s_l03Rest k x=some r:=by
 obtain⟨m,u⟩:=x;unfold S.b6k at h;dsimp only at h;split at h
 case isFalse=>cases h
 rename_i hc;obtain⟨M,hM,rfl⟩:=hc;cases h;rw[c3h (by decide)];have hI:=hM.2.1;have hn:=hI.1;refine⟨13,?_⟩;unfold P.s_l03Rest;dsimp only;have ec:S.a8r (mp B10 M,())=some (((b5g M).1,a5o 0 (b5g M).2),()):=by
  unfold S.a8r;dsimp only;rw[if_pos ⟨M,hI,rfl⟩,c3h (by decide)]
 rw[ec,Option.bind_some];dsimp only
 by_cases h1:(a5o 0 (b5g M).2).length=1
 case neg=>
  rw[if_pos (by simpa using(show ¬((a5o 0 (b5g M).2).length:Int)=1 by omega)),c6h h1];rfl
 rw[if_neg (by simpa using(show((a5o 0 (b5g M).2).length:Int)=1 by omega))];obtain⟨k,hk⟩:=len_one h1;rw[restT_one hk,a1z,b0g];have hels:=elsOk_of (full:=true) rfl hn (restA_rows hM) (restA_nons hM hk);have key:=a0h (k:=13) (b:=P.b5i 13) (n:=M.length) (st:=fun j=>((j:Int),(M.length:Int),mp B10 M,om B10 j (M.length+1) (a8u M),())) (F:=fun _=>some (((tab M.length (b4r M (clC M k))).map (rp B10),true),())) (fun j g hj hg=>by
  unfold P.b5i;dsimp only at hg ⊢;rw[if_pos (decide_eq_true (by omega)),a1p,a1z,if_neg (by decide),←hg];exact rsr_row hM hj g (by decide)) (fun g=>by
  unfold P.b5i;dsimp only;rw[if_neg (by simp),a1p,a1z,if_neg (by decide),solve_s hels,Option.bind_some];dsimp only;rw[a2d fun i hi=>rest_same hM hk i hi]) (by omega)
 exact key
def P.b1n (k:Nat) (x:List (List ByteArray)×Unit):Option ((List ByteArray×Bool)×Unit):=
 (S.b3n (x.1,())).bind fun y0=>if !y0.1.2 then some ((([]:List ByteArray),false),())else(S.b6k (y0.1.1,())).bind fun y1=>if !y1.1.2 then some ((([]:List ByteArray),false),())else(S.a8h (y1.1.1,())).bind fun y2=>some ((y2.1.1,y2.1.2),())
def S.a7l (x:((List (List ByteArray))×Unit)):(Option (((List ByteArray)×Bool)×Unit)):=P.b1n 0 x
theorem S.c5w (x r) (h:S.a7l x=some r):∃k,P.b1n k x=some r:=⟨0,h⟩
def S.a4i (x:(Int×(Int×Unit))):(Option (ByteArray×Unit)):=if x.2.1=10∧0≤x.1∧x.1<18446744073709551616 then some (⟨(Go.Lib.decDigits x.1.toNat).toArray⟩,())else none
def joinB (xs:List ByteArray) (sep:ByteArray):List UInt8:=Go.Lib.join (xs.map (·.data.toList)) sep.data.toList
def S.b2a (x:((List ByteArray)×(ByteArray×Unit))):(Option (ByteArray×Unit)):=if x.1.length≤140737488355328∧(joinB x.1 x.2.1).length≤140737488355328 then some (⟨(joinB x.1 x.2.1).toArray⟩,())else none
def S.a7m (x:(ByteArray×(Int×Unit))):(Option (ByteArray×Unit)):=if 0≤x.2.1∧x.2.1≤1000000∧x.1.size≤1000000 then some (⟨(Go.Lib.repeatL x.1.data.toList x.2.1.toNat).toArray⟩,())else none
abbrev P.a1v (x1:Int×Int×List ByteArray×Unit) (g2:Int×Int×List ByteArray×Unit→Option (Unit×List ByteArray×Unit)):Option (Unit×List ByteArray×Unit):=
 (fun(a b:Int) (c:List ByteArray)=>if decide (a<b)then if decide ((0:Int)≤b)then if decide (b<(c.length:Int))then if decide ((0:Int)≤a)then if decide (a<(c.length:Int))then if decide ((0:Int)≤a)then if decide (a<(c.length:Int))then if decide ((0:Int)≤b)then if decide (b<(List.length (c.set ((0:Nat)+a.toNat) (c.getD ((0:Nat)+b.toNat) (bs []))):Int))then g2 (IntKind.wrap .i64 (a+(1:Int)),IntKind.wrap .i64 (b - (1:Int)),List.set (c.set ((0:Nat)+a.toNat) (c.getD ((0:Nat)+b.toNat) (bs []))) ((0:Nat)+b.toNat) (c.getD ((0:Nat)+a.toNat) (bs [])),())else none else none else none else none else none else none else none else none else some ((),c,())) x1.1 x1.2.1 x1.2.2.1
def P.a3j (k:Nat) (x:List ByteArray×Unit):Option (Unit×List ByteArray×Unit):=
 loopP P.a1v k ((0:Int),IntKind.wrap .i64 ((x.1.length:Int) - (1:Int)),x.1,())
def rvd (xs:List ByteArray) (t:Nat):List ByteArray:=(List.range xs.length).map fun p=>if p<t∨xs.length - t≤p then xs.getD (xs.length - 1 - p) (bs [])else xs.getD p (bs [])
theorem b7r (xs:List ByteArray) (t:Nat):(rvd xs t).length=xs.length:=by simp [rvd]
theorem c5x (xs:List ByteArray) (t p:Nat) (h:p<xs.length):(rvd xs t).getD p (bs [])=if p<t∨xs.length - t≤p then xs.getD (xs.length - 1 - p) (bs [])else xs.getD p (bs []):=by
 unfold rvd;rw[List.getD_eq_getElem?_getD,List.getElem?_map,List.getElem?_range h];rfl
theorem getD_ext {xs ys:List ByteArray} (hl:xs.length=ys.length) (h:∀p,p<xs.length→xs.getD p (bs [])=ys.getD p (bs [])):xs=ys:=by
 apply List.ext_getElem hl;intro i h1 h2;have:=h i h1;simpa [h1,h2]using this
theorem rvd_end (xs:List ByteArray):rvd xs (xs.length/2)=xs.reverse:=by
 apply getD_ext (by rw[b7r,List.length_reverse]);intro p hp;rw[b7r]at hp;rw[c5x _ _ _ hp];have e:xs.reverse.getD p (bs [])=xs.getD (xs.length - 1 - p) (bs []):=by
  rw[List.getD_eq_getElem?_getD,List.getElem?_reverse hp,←List.getD_eq_getElem?_getD]
 rw[e];split
 ·rfl
 ·rename_i hq;have:xs.length - 1 - p=p:=by omega
  rw[this]
theorem getD_set' (l:List ByteArray) (i p:Nat) (v:ByteArray) (h:p<l.length):(l.set i v).getD p (bs [])=if p=i then v else l.getD p (bs []):=by
 rw[List.getD_eq_getElem?_getD,List.getElem?_set]
 by_cases e:i=p
 ·subst e;simp [h]
 ·rw[if_neg e,if_neg (fun q=>e q.symm),←List.getD_eq_getElem?_getD]
theorem rvd_step (xs:List ByteArray) (t:Nat) (ht:t<xs.length/2):((rvd xs t).set t ((rvd xs t).getD (xs.length - 1 - t) (bs []))).set (xs.length - 1 - t) ((rvd xs t).getD t (bs []))=rvd xs (t+1):=by
 apply getD_ext (by simp [b7r]);intro p hp;simp only[List.length_set,b7r]at hp;rw[getD_set' _ _ _ _ (by simp [b7r];exact hp),getD_set' _ _ _ _ (by rw[b7r];exact hp),c5x _ _ _ hp,c5x _ _ _ hp,c5x _ _ _ (show t<xs.length by omega),c5x _ _ _ (show xs.length - 1 - t<xs.length by omega)];rw[if_neg (show ¬(t<t∨xs.length - t≤t) by omega),if_neg (show ¬(xs.length - 1 - t<t∨xs.length - t≤xs.length - 1 - t) by omega)]
 by_cases h1:p=xs.length - 1 - t
 ·rw[if_pos h1,if_pos (by omega)];congr 1;omega
 ·rw[if_neg h1]
  by_cases h2:p=t
  ·rw[if_pos h2,if_pos (by omega)];congr 1;omega
  ·rw[if_neg h2]
   by_cases h3:p<t∨xs.length - t≤p
   ·rw[if_pos h3,if_pos (by omega)]
   ·rw[if_neg h3,if_neg (by omega)]
def S.a0x (x:((List ByteArray)×Unit)):(Option (Unit×((List ByteArray)×Unit))):=if x.1.length≤1000000000 then some ((),(x.1.reverse,()))else none
theorem S.b0e (x r) (h:S.a0x x=some r):∃k,P.a3j k x=some r:=by
 obtain⟨xs,u⟩:=x;unfold S.a0x at h;dsimp only at h;split at h
 case isFalse=>cases h
 rename_i hl;cases h;refine⟨xs.length/2+1,?_⟩;unfold P.a3j;dsimp only;rw[wr (by omega) (by omega)];have key:=a0h (k:=xs.length/2+1) (b:=P.a1v) (n:=xs.length/2) (st:=fun t=>((t:Int),(xs.length:Int) - 1 - (t:Int),rvd xs t,())) (F:=fun t=>some ((),(xs.reverse,()))) (fun t g ht hg=>by
  unfold P.a1v;dsimp only at hg ⊢;have e5:(xs.length:Int) - 1 - (t:Int)=((xs.length - 1 - t:Nat):Int):=by omega
  rw[e5];have e1:(t:Int)<((xs.length - 1 - t:Nat):Int):=by omega
  have e2:(0:Int)≤((xs.length - 1 - t:Nat):Int):=by omega
  have e3:((xs.length - 1 - t:Nat):Int)<(xs.length:Int):=by omega
  have e4:(0:Int)≤(t:Int):=by omega
  have e6:(t:Int)<(xs.length:Int):=by omega
  simp only[b7r,List.length_set,e1,e2,e3,e4,e6,decide_true,if_true,Int.toNat_natCast,Nat.zero_add];rw[rvd_step xs t ht,wr (by omega) (by omega),wr (by omega) (by omega),←hg];congr 1
  all_goals (simp only[Prod.mk.injEq];and_intros<;>first|rfl|omega|trivial)) (fun g=>by
  unfold P.a1v;dsimp only;rw[if_neg (by simp;omega),rvd_end]) (by omega)
 have e0:rvd xs 0=xs:=by
  apply getD_ext (b7r _ _);intro p hp;rw[b7r]at hp;rw[c5x _ _ _ hp,if_neg (by omega)]
 rw[show(xs.length:Int) - 1 - ((0:Nat):Int)=(xs.length:Int) - 1 by omega,e0]at key;exact key
abbrev P.b3h (x1:List Int×Unit) (g2:List Int×Unit→Option (List Int×Unit)):Option (List Int×Unit):=
 if decide ((x1.1.length:Int)>(0:Int))then if decide ((0:Int)≤(IntKind.wrap .i64 ((x1.1.length:Int) - (1:Int))))then if decide ((IntKind.wrap .i64 ((x1.1.length:Int) - (1:Int)))<(x1.1.length:Int))then if(x1.1.getD (Int.toNat (IntKind.wrap .i64 ((x1.1.length:Int) - (1:Int)))) (0:Int))==(0:Int)then if decide ((0:Int)≤(IntKind.wrap .i64 ((x1.1.length:Int) - (1:Int))))then if decide ((IntKind.wrap .i64 ((x1.1.length:Int) - (1:Int)))≤(x1.1.length:Int))then if decide ((0:Int)≤(IntKind.wrap .i64 ((x1.1.length:Int) - (1:Int))))then g2 (seen x1.1 (0:Nat) ((Int.toNat (IntKind.wrap .i64 ((x1.1.length:Int) - (1:Int)))) - (0:Nat)),())else none else none else none else some (x1.1,())else none else none else some (x1.1,())
def P.i_nat_trim (k:Nat) (x:List Int×Unit):Option (List Int×Unit):=
 loopP P.b3h k (x.1,())
theorem trim_loop (n:Nat):∀(xs:List Int) (k:Nat),xs.length=n→n<k→n≤1000000000000→dig B32 xs=true→loopP (X:=((List Int)×Unit)) (R:=((List Int)×Unit)) P.b3h k (xs,())=some (nd B32 (a0b B32 xs),()):=by
 induction n with
 |zero=>
  intro xs k hx hk _ _;have:xs=[]:=List.eq_nil_of_length_eq_zero hx;subst this;obtain⟨k,rfl⟩:∃j,k=j+1:=⟨k - 1,by omega⟩
  rw[a0k];unfold P.b3h;rw[if_neg (by simp)];rw[show a0b B32 []=0 from rfl,a1s a0e]
 |succ n ih=>
  intro xs k hx hk hn hd;obtain⟨k,rfl⟩:∃j,k=j+1:=⟨k - 1,by omega⟩
  rw[a0k];unfold P.b3h;dsimp only;have e0:IntKind.wrap .i64 ((xs.length:Int) - 1)=(n:Int):=by rw[wr (by omega) (by omega)];omega
  have e1:(xs.length:Int)>0:=by omega
  have e2:(0:Int)≤(n:Int):=by omega
  have e3:(n:Int)<(xs.length:Int):=by omega
  have e4:(n:Int)≤(xs.length:Int):=by omega
  rw[e0];simp only[e1,e2,e3,e4,decide_true,if_true];rw[a0o xs n _ (by omega)];have hs:=c2u xs n hx;have hdt:dig B32 (xs.take n++[xs[n]])=true:=by rw[←hs];exact hd
  by_cases hz:xs[n]=0
  ·rw[if_pos (by simp [hz])];have e5:seen xs 0 ((n:Int).toNat - 0)=xs.take n:=by simp [seen]
   rw[e5];have hdt':=hdt;rw[a1k,Bool.and_eq_true]at hdt';rw[ih (xs.take n) k (by simp;omega) (by omega) (by omega) hdt'.1];have:a0b B32 xs=a0b B32 (xs.take n):=by
    conv=>lhs;rw[hs,hz]
    exact b1h _
   rw[this]
  ·rw[if_neg (by simp [hz])];have:=d1j a0e (xs.take n) xs[n] hdt hz;rw[←hs]at this;rw[this]
def S.a3t (x:((List Int)×Unit)):(Option ((List Int)×Unit)):=if dig B32 x.1=true∧x.1.length≤1000000000000 then some (nd B32 (a0b B32 x.1),())else none
theorem S.i_nat_trim_ok (x r) (h:S.a3t x=some r):∃k,P.i_nat_trim k x=some r:=by
 obtain⟨xs,u⟩:=x;unfold S.a3t at h;dsimp only at h;split at h
 case isFalse=>cases h
 rename_i hc;cases h;exact⟨xs.length+1,trim_loop xs.length xs _ rfl (by omega) hc.2 hc.1⟩
theorem trim_i (xs:List Int) (h:dig B32 xs=true) (hl:xs.length≤1000000000000):S.a3t (xs,())=some (nd B32 (a0b B32 xs),()):=by
 unfold S.a3t;dsimp only;rw[if_pos ⟨h,hl⟩]
abbrev P.a6w (x1:Int×Int×List Int×List Int×Int×Unit) (g2:Int×Int×List Int×List Int×Int×Unit→Option ((List Int×Int)×Unit)):Option ((List Int×Int)×Unit):=
 (fun(a b e:Int) (c d:List Int)=>if decide (a≥(0:Int))then if decide ((0:Int)≤a)then if decide (a<(c.length:Int))then if decide ((IntKind.wrap .u64 e)=(0:Int))then none else if decide ((0:Int)≤a)then if decide (a<(d.length:Int))then if decide ((IntKind.wrap .u64 e)=(0:Int))then none else g2 (IntKind.wrap .i64 (a - (1:Int)),Int.tmod (IntKind.wrap .u64 ((IntKind.wrap .u64 (b*(4294967296:Int)))+(IntKind.wrap .u64 (c.getD a.toNat (0:Int))))) (IntKind.wrap .u64 e),c,d.set ((0:Nat)+a.toNat) (IntKind.wrap .u32 (IntKind.wrap .u64 (Int.tdiv (IntKind.wrap .u64 ((IntKind.wrap .u64 (b*(4294967296:Int)))+(IntKind.wrap .u64 (c.getD a.toNat (0:Int))))) (IntKind.wrap .u64 e)))),e,())else none else none else none else none else(S.a3t (d,())).bind fun y3=>some ((y3.1,IntKind.wrap .u32 b),())) x1.1 x1.2.1 x1.2.2.2.2.1 x1.2.2.1 x1.2.2.2.1
def P.b5q (k:Nat) (x:List Int×Int×Unit):Option ((List Int×Int)×Unit):=
 if decide ((0:Int)≤(x.1.length:Int))then if decide ((x.1.length:Int)≤(x.1.length:Int))then if decide (((x.1.length:Int)*(4:Int))≤(281474976710656:Int))then loopP P.a6w k (IntKind.wrap .i64 ((x.1.length:Int) - (1:Int)),(0:Int),x.1,List.replicate (Int.toNat (x.1.length:Int)) (0:Int),x.2.1,())else none else none else none
def S.a2y (x:((List Int)×(Int×Unit))):(Option (((List Int)×Int)×Unit)):=if dig B32 x.1=true∧0<x.2.1∧x.2.1<4294967296∧x.1.length≤1000000000000 then some ((nd B32 (a0b B32 x.1/x.2.1.toNat),((a0b B32 x.1%x.2.1.toNat:Nat):Int)),())else none
theorem S.c5y (x r) (h:S.a2y x=some r):∃k,P.b5q k x=some r:=by
 obtain⟨xs,b,u⟩:=x;unfold S.a2y at h;dsimp only at h;split at h
 case isFalse=>cases h
 rename_i hc;obtain⟨hd,hb0,hb1,hl⟩:=hc;cases h;refine⟨xs.length+1,?_⟩;unfold P.b5q;dsimp only;have a1:(0:Int)≤(xs.length:Int):=by omega
 have a2:(xs.length:Int)≤(xs.length:Int):=by omega
 have a3:(xs.length:Int)*4≤281474976710656:=by omega
 simp only[a1,a2,a3,decide_true,if_true];rw[wr (by omega) (by omega),Int.toNat_natCast];have hdr:∀m,dig B32 (xs.drop m)=true:=by
  intro m;have:=List.take_append_drop m xs;have hd':=hd;rw[←this,a1k,Bool.and_eq_true]at hd';exact hd'.2
 have hbN:0<b.toNat:=by omega
 have key:=a0h (k:=xs.length+1) (b:=P.a6w) (n:=xs.length) (st:=fun j=>((xs.length:Int) - 1 - (j:Int),((c8k B32 b.toNat (xs.drop (xs.length - j))).2:Int),xs,List.replicate (xs.length - j) (0:Int)++(c8k B32 b.toNat (xs.drop (xs.length - j))).1,b,())) (F:=fun j=>some ((nd B32 (a0b B32 xs/b.toNat),((a0b B32 xs%b.toNat:Nat):Int)),())) (fun j g hj hg=>by
  unfold P.a6w;dsimp only at hg ⊢;obtain⟨q1,q2,q3,q4⟩:=qdiv_ok B32 b.toNat hbN (xs.drop (xs.length - j)) (hdr _);have hi:xs.length - (j+1)<xs.length:=by omega
  have e5:(xs.length:Int) - 1 - (j:Int)=((xs.length - (j+1):Nat):Int):=by omega
  have e6:xs.drop (xs.length - (j+1))=xs[xs.length - (j+1)]::xs.drop (xs.length - j):=by
   rw[List.drop_eq_getElem_cons hi];congr 2;omega
  have e7:xs.length - j=(xs.length - (j+1))+1:=by omega
  have hlen:(List.replicate (xs.length - j) (0:Int)++(c8k B32 b.toNat (xs.drop (xs.length - j))).1).length=xs.length:=by
   rw[List.length_append,List.length_replicate,q2,List.length_drop];omega
  have hx:=b5n hd hi;have hx1:xs[xs.length - (j+1)]<4294967296:=hx.2;have hx0:=hx.1;have hm:(c8k B32 b.toNat (xs.drop (xs.length - j))).2<b.toNat:=by rw[q4];exact Nat.mod_lt _ hbN
  rw[e6]at hg;rw[hlen,e5,a0o xs _ _ hi];have a1:((xs.length - (j+1):Nat):Int)≥0:=by omega
  have a2:(0:Int)≤((xs.length - (j+1):Nat):Int):=by omega
  have a3:((xs.length - (j+1):Nat):Int)<(xs.length:Int):=by omega
  rw[wu (x:=b) (by omega) (by omega)];have a4:¬(b=0):=by omega
  simp only[a1,a3,a4,decide_true,decide_false,if_true,if_false,Bool.false_eq_true];generalize hR:(c8k B32 b.toNat (xs.drop (xs.length - j))).2=R at*;generalize hX:xs[xs.length - (j+1)]=X at*;have hRX:(R:Int)*4294967296+X<b*4294967296:=by omega
  rw[wu (x:=(R:Int)*4294967296) (by omega) (by omega),wu (x:=X) (by omega) (by omega),wu (x:=(R:Int)*4294967296+X) (by omega) (by omega)];have eT:Int.tdiv ((R:Int)*4294967296+X) b=(((R*B32+X.toNat)/b.toNat:Nat):Int):=by
   rw[Int.tdiv_eq_ediv_of_nonneg (by omega)];have:(R:Int)*4294967296+X=((R*4294967296+X.toNat:Nat):Int):=by omega
   rw[this];have hb:b=((b.toNat:Nat):Int):=by omega
   conv=>lhs;rw[hb]
   exact(Int.natCast_ediv _ _).symm
  have eM:Int.tmod ((R:Int)*4294967296+X) b=(((R*B32+X.toNat)%b.toNat:Nat):Int):=by
   rw[Int.tmod_eq_emod_of_nonneg (by omega)];have:(R:Int)*4294967296+X=((R*4294967296+X.toNat:Nat):Int):=by omega
   rw[this];have hb:b=((b.toNat:Nat):Int):=by omega
   conv=>lhs;rw[hb]
   exact(Int.natCast_emod _ _).symm
  have hQ:(R*B32+X.toNat)/b.toNat<B32:=(Nat.div_lt_iff_lt_mul hbN).2 (by
   show R*4294967296+X.toNat<4294967296*b.toNat;omega)
  have hQ':(R*B32+X.toNat)/b.toNat<4294967296:=hQ;have z0:(0:Int)≤(((R*B32+X.toNat)/b.toNat:Nat):Int):=Int.natCast_nonneg _;have z1:(((R*B32+X.toNat)/b.toNat:Nat):Int)<4294967296:=Int.ofNat_lt.2 hQ';rw[eT,eM,wu z0 (Int.lt_trans z1 (by decide)),w32 z0 z1,wr (x:=((xs.length - (j+1):Nat):Int) - 1) (by omega) (by omega),Nat.zero_add,Int.toNat_natCast];have hset:∀(Q:List Int) (v:Int),(List.replicate (xs.length - j) (0:Int)++Q).set (xs.length - (j+1)) v=List.replicate (xs.length - (j+1)) 0++v::Q:=by
   intro Q v;rw[e7];exact set_back _ _ _
  rw[hset,←hg];congr 1;simp only[Prod.mk.injEq,c8k];rw[hR]
  and_intros<;>first|rfl|omega|trivial) (fun g=>by
  unfold P.a6w;dsimp only;obtain⟨q1,q2,q3,q4⟩:=qdiv_ok B32 b.toNat hbN xs hd;rw[if_neg (by simp;omega),Nat.sub_self,List.drop_zero,List.replicate_zero,List.nil_append,trim_i _ q1 (by omega),Option.bind_some,q3,q4];have hm:=Nat.mod_lt (a0b B32 xs) hbN;rw[w32 (by omega) (by omega)]) (by omega)
 rw[show(xs.length:Int) - 1 - ((0:Nat):Int)=(xs.length:Int) - 1 by omega,Nat.sub_zero,List.drop_length]at key;simpa [c8k]using key
abbrev P.b7s (x1:List Int×List ByteArray×Unit) (g2:List Int×List ByteArray×Unit→Option (ByteArray×Unit)):Option (ByteArray×Unit):=
 if decide ((x1.1.length:Int)>(0:Int))then(S.a2y (x1.1,(1000000000:Int),())).bind fun y3=>(S.a4i (IntKind.wrap .u64 y3.1.2,(10:Int),())).bind fun y4=>if decide ((y3.1.1.length:Int)>(0:Int))then(S.a7m (bs [48],IntKind.wrap .i64 ((9:Int) - (y4.1.size:Int)),())).bind fun y5=>if decide ((y5.1.size+y4.1.size)≤(9223372036854775807:Nat))then if decide (((x1.2.1.length+(List.length [y5.1++y4.1]))*(16:Nat))≤(140737488355328:Nat))then g2 (y3.1.1,x1.2.1++[y5.1++y4.1],())else none else none else if decide (((x1.2.1.length+(List.length [y4.1]))*(16:Nat))≤(140737488355328:Nat))then g2 (y3.1.1,x1.2.1++[y4.1],())else none else(S.a0x (x1.2.1,())).bind fun y6=>(S.b2a (splice x1.2.1 y6.2.1 (0:Nat),bs [],())).bind fun y7=>some (y7.1,())
def P.c5z (k:Nat) (x:List Int×Unit):Option (ByteArray×Unit):=
 if(x.1.length:Int)==(0:Int)then some (bs [48],())else loopP P.b7s k (x.1,([]:List ByteArray),())
def mkB (l:List UInt8):ByteArray:=⟨l.toArray⟩
theorem join_empty (xs:List (List UInt8)):Go.Lib.join xs []=xs.flatten:=by
 cases xs with
 |nil=>rfl
 |cons x r=>
  rw[Go.Lib.join_cons,List.flatten_cons];congr 1;unfold Go.Lib.joinTail;simp
theorem it_loop (n:Nat):∀(acc:List ByteArray) (k:Nat),n<k→(nd B32 n).length≤40000000→acc.length+(a3y n).length≤1000000000→
  loopP P.b7s k (nd B32 n,(acc,()))=Option.bind (S.a0x (acc++(a3y n).map mkB,())) (fun y6=>Option.bind (S.b2a (Go.Cm.splice (acc++(a3y n).map mkB) y6.2.1 0,(bs [],()))) (fun y7=>some (y7.1,()))):=by
 induction n using Nat.strongRecOn with
 |ind n ih=>
  intro acc k hk hl hacc;obtain⟨k,rfl⟩:∃j,k=j+1:=⟨k - 1,by omega⟩
  rw[a0k];unfold P.b7s;dsimp only
  by_cases hn:n=0
  ·subst hn;rw[a1s a0e,b1j,if_neg (by simp),List.map_nil,List.append_nil]
  ·have hpos:((nd B32 n).length:Int)>0:=by
    rw[b4e a0e hn,List.length_cons];omega
   rw[if_pos (decide_eq_true hpos)];have sd:S.a2y (nd B32 n,(1000000000,()))=some ((nd B32 (n/1000000000),((n%1000000000:Nat):Int)),()):=by
    unfold S.a2y;dsimp only;rw[if_pos ⟨a3x a0e _,by omega,by omega,by omega⟩,a0j a0e];rfl
   rw[sd,Option.bind_some];dsimp only;have hm:n%1000000000<1000000000:=Nat.mod_lt _ (by decide);have sf:S.a4i (IntKind.wrap .u64 ((n%1000000000:Nat):Int),(10,()))=some (mkB (Go.Lib.decDigits (n%1000000000)),()):=by
    rw[wu (by omega) (by omega)];unfold S.a4i;dsimp only;rw[if_pos ⟨rfl,by omega,by omega⟩,Int.toNat_natCast];rfl
   rw[sf,Option.bind_some];dsimp only;obtain⟨p1,p2⟩:=dec_pad 9 (n%1000000000) (by decide) (by rw[show(10:Nat)^9=1000000000 by decide];exact hm);have hsz:(mkB (Go.Lib.decDigits (n%1000000000))).size=(Go.Lib.decDigits (n%1000000000)).length:=c4z _;have hsh:(nd B32 (n/1000000000)).length≤40000000:=by
    refine Nat.le_trans ?_ hl;rw[a4h a0e];exact Nat.lt_of_le_of_lt (Nat.div_le_self _ _) ((a4h a0e n _).1 (Nat.le_refl _))
   by_cases h1:n/1000000000=0
   ·rw[b3b hn h1,List.length_singleton]at hacc;have hmn:n%1000000000=n:=by omega
    have hc:(acc.length+ [mkB (Go.Lib.decDigits n)].length)*16≤140737488355328:=by
     rw[List.length_singleton];omega
    have hz:¬(((nd B32 0).length:Int)>0):=by rw[a1s a0e];simp
    have hi:=ih 0 (by omega) (acc++[mkB (Go.Lib.decDigits n)]) k (by omega) (by rw[a1s a0e];simp) (by rw[b1j];simp;omega);rw[h1,hmn,if_neg (by simpa using hz),if_pos (decide_eq_true hc),hi,b1j,b3b hn h1,List.map_nil,List.append_nil];rfl
   ·rw[b1k h1,List.length_cons]at hacc;have hz:((nd B32 (n/1000000000)).length:Int)>0:=by
     rw[b4e a0e h1,List.length_cons];omega
    have sr:S.a7m (bs [48],(IntKind.wrap .i64 (9 - (((mkB (Go.Lib.decDigits (n%1000000000))).size:Nat):Int)),()))=some (mkB (List.replicate (9 - (Go.Lib.decDigits (n%1000000000)).length) 48),()):=by
     rw[hsz,wr (by omega) (by omega)];unfold S.a7m;dsimp only;have h48:(bs [48]).data.toList=[48]:=rfl;rw[if_pos ⟨by omega,by omega,by decide⟩,h48,repeatL_one,show((9:Int) - ((Go.Lib.decDigits (n%1000000000)).length:Int)).toNat=9 - (Go.Lib.decDigits (n%1000000000)).length by omega];rfl
    rw[if_pos (decide_eq_true hz),sr,Option.bind_some];dsimp only;have hsum:(mkB (List.replicate (9 - (Go.Lib.decDigits (n%1000000000)).length) 48)).size+(mkB (Go.Lib.decDigits (n%1000000000))).size≤9223372036854775807:=by
     rw[hsz,show(mkB (List.replicate (9 - (Go.Lib.decDigits (n%1000000000)).length) 48)).size=_ from c4z _,List.length_replicate];omega
    have happ:mkB (List.replicate (9 - (Go.Lib.decDigits (n%1000000000)).length) 48)++mkB (Go.Lib.decDigits (n%1000000000))=mkB (a5v 9 (n%1000000000)):=by
     rw[←p1];exact c0s _ _
    have hc:(acc.length+ [mkB (a5v 9 (n%1000000000))].length)*16≤140737488355328:=by
     rw[List.length_singleton];omega
    have hi:=ih (n/1000000000) (by omega) (acc++[mkB (a5v 9 (n%1000000000))]) k (by omega) hsh (by simp;omega);rw[if_pos (decide_eq_true hsum),happ,if_pos (decide_eq_true hc),hi,b1k h1,List.map_cons,List.append_assoc];rfl
def S.b0y (x:((List Int)×Unit)):(Option (ByteArray×Unit)):=if a2s B32 x.1=true∧x.1.length≤40000000 then some (⟨(Go.Lib.decDigits (a0b B32 x.1)).toArray⟩,())else none
theorem S.i_nat_text_ok (x r) (h:S.b0y x=some r):∃k,P.c5z k x=some r:=by
 obtain⟨xs,u⟩:=x;unfold S.b0y at h;dsimp only at h;split at h
 case isFalse=>cases h
 rename_i hc;obtain⟨ca,la⟩:=hc;cases h;refine⟨a0b B32 xs+1,?_⟩;unfold P.c5z;dsimp only
 by_cases he:xs=[]
 ·subst he;rw[if_pos (by rfl),show a0b B32 []=0 from rfl,a7i (by decide)];rfl
 ·have hpos:0<xs.length:=List.length_pos_iff.2 he;have h0:a0b B32 xs≠0:=by
   intro q;have:=a1b ca;rw[q,a1s a0e]at this;exact he this.symm
  have hb:a0b B32 xs<B32^xs.length:=a1l (a1o ca);have hb2:a0b B32 xs<(10^10)^xs.length:=Nat.lt_of_lt_of_le hb (Nat.pow_le_pow_left (by decide) _);rw[←Nat.pow_mul]at hb2;have hlen:(Go.Lib.decDigits (a0b B32 xs)).length≤10*xs.length:=dec_len (by omega) hb2;have hb3:a0b B32 xs<B10^(2*xs.length):=by
   refine Nat.lt_of_lt_of_le hb ?_;rw[Nat.pow_mul];exact Nat.pow_le_pow_left (by decide) _
  have hparts:(a3y (a0b B32 xs)).length≤2*xs.length:=by
   rw[textParts_len,a4h a0d];exact hb3
  rw[if_neg (by simp;exact he)];have key:=it_loop (a0b B32 xs) [] (a0b B32 xs+1) (by omega) (by rw[a1b ca];omega) (by simp;omega);rw[a1b ca,List.nil_append]at key;rw[key];have hall:=textParts_all h0;generalize a3y (a0b B32 xs)=ps at*;unfold S.a0x S.b2a;dsimp only;have hj:joinB (Go.Cm.splice (ps.map mkB) (ps.map mkB).reverse 0) (bs [])=Go.Lib.decDigits (a0b B32 xs):=by
   rw[b6d (by simp)];unfold joinB;rw[show(bs []).data.toList=[]from rfl,join_empty,←List.map_reverse,List.map_map];rw[show(fun x:ByteArray=>x.data.toList) ∘ mkB=id by funext l;simp [mkB],List.map_id];exact hall
  rw[if_pos (by simp;omega),Option.bind_some];dsimp only;rw[hj,if_pos ⟨by rw[b6d (by simp)];simp;omega,by omega⟩,Option.bind_some]
def P.c6a (k:Nat) (x:RB×Unit):Option ((ByteArray×Bool)×Unit):=
 (S.b0y (x.1.2.1,())).bind fun y0=>(S.b0y (x.1.2.2,())).bind fun y1=>if x.1.1 then if decide (((1:Nat)+y0.1.size)≤(9223372036854775807:Nat))then if ! ((ByteArray.toList y1.1)==(ByteArray.toList (bs [49])))then if decide (((1:Nat)+y1.1.size)≤(9223372036854775807:Nat))then if decide (((ByteArray.size ((bs [45])++y0.1))+(ByteArray.size ((bs [47])++y1.1)))≤(9223372036854775807:Nat))then if decide ((y0.1.size:Int)≤(200:Int))then some ((((bs [45])++y0.1)++((bs [47])++y1.1),decide ((y1.1.size:Int)≤(200:Int))),())else some ((((bs [45])++y0.1)++((bs [47])++y1.1),false),())else none else none else if decide ((y0.1.size:Int)≤(200:Int))then some (((bs [45])++y0.1,decide ((y1.1.size:Int)≤(200:Int))),())else some (((bs [45])++y0.1,false),())else none else if ! ((ByteArray.toList y1.1)==(ByteArray.toList (bs [49])))then if decide (((1:Nat)+y1.1.size)≤(9223372036854775807:Nat))then if decide ((y0.1.size+(ByteArray.size ((bs [47])++y1.1)))≤(9223372036854775807:Nat))then if decide ((y0.1.size:Int)≤(200:Int))then some ((y0.1++((bs [47])++y1.1),decide ((y1.1.size:Int)≤(200:Int))),())else some ((y0.1++((bs [47])++y1.1),false),())else none else none else if decide ((y0.1.size:Int)≤(200:Int))then some ((y0.1,decide ((y1.1.size:Int)≤(200:Int))),())else some ((y0.1,false),())
def S.b0z (x:(RB×Unit)):(Option ((ByteArray×Bool)×Unit)):=if rok B32 40000000 x.1=true then some ((⟨(c7y (rv B32 x.1)).toArray⟩,fitN (rv B32 x.1)),())else none
theorem S.i_rat_text_ok (x r) (h:S.b0z x=some r):∃k,P.c6a k x=some r:=by
 obtain⟨⟨neg,as,bs'⟩,u⟩:=x;unfold S.b0z at h;dsimp only at h;split at h
 case isFalse=>cases h
 rename_i hc;rw[b9c]at hc;obtain⟨ca,cb,la,lb⟩:=hc;dsimp only at ca cb la lb;cases h;refine⟨0,?_⟩;unfold P.c6a;dsimp only;have e1:∀xs,a2s B32 xs=true→xs.length≤40000000→S.b0y (xs,())=some (⟨(Go.Lib.decDigits (a0b B32 xs)).toArray⟩,()):=by
  intro xs cx lx;unfold S.b0y;exact if_pos ⟨cx,lx⟩
 rw[e1 as ca la,Option.bind_some,e1 bs' cb lb,Option.bind_some];dsimp only;have l1:=c2y (show B32≤10^10 by decide) ca;have l2:=c2y (show B32≤10^10 by decide) cb;unfold rv c7y fitN;dsimp only;have hd1:=dec_one (a0b B32 bs');generalize Go.Lib.decDigits (a0b B32 as)=t1 at*;generalize Go.Lib.decDigits (a0b B32 bs')=t2 at*;rw[ByteArray.toList_eq,ByteArray.toList_eq,show bs [49]=⟨([49]:List UInt8).toArray⟩from rfl,show bs [45]=⟨([45]:List UInt8).toArray⟩from rfl,show bs [47]=⟨([47]:List UInt8).toArray⟩from rfl];rw[c0s,c0s,c0s,c0s,c4z,c4z,c4z,c4z];have c1:(1+t1.length≤9223372036854775807):=by omega
 have c2:(1+t2.length≤9223372036854775807):=by omega
 have c3:([45]++t1).length+([47]++t2).length≤9223372036854775807:=by simp;omega
 have c4:t1.length+([47]++t2).length≤9223372036854775807:=by simp;omega
 simp only[c1,c2,c3,c4,decide_true,if_true];have d1:∀t:List UInt8,decide (((t.length:Nat):Int)≤200)=decide (t.length≤200):=by
  intro t;rw[decide_eq_decide];omega
 rw[d1,d1];have d2:((!(t2== [49]))=true)↔¬a0b B32 bs'=1:=by
  rw[←hd1];simp
 by_cases hq:a0b B32 bs'=1
 ·have n2:¬((!(t2== [49]))=true):=by rw[d2];exact fun q=>q hq
  cases neg<;>simp only[n2,hq,if_true,if_false,Bool.false_eq_true,List.append_nil,List.nil_append]<;>cases decide (t1.length≤200)<;>simp
 ·have n2:((!(t2== [49]))=true):=d2.2 hq;cases neg<;>simp only[n2,hq,if_true,if_false,Bool.false_eq_true,List.nil_append]<;>cases decide (t1.length≤200)<;>simp
abbrev i_toldList.A:=Option ((List ByteArray×Bool)×Unit)
abbrev P.b3i (x1:Int×Int×List RB×List ByteArray×Unit) (g2:Int×Int×List RB×List ByteArray×Unit→i_toldList.A):i_toldList.A:=
 if decide (x1.1<x1.2.1)then if decide ((0:Int)≤x1.1)then if decide (x1.1<(x1.2.2.1.length:Int))then(S.b0z (((x1.2.2.1.getD x1.1.toNat (false,([]:List Int),([]:List Int))).1,(x1.2.2.1.getD x1.1.toNat (false,([]:List Int),([]:List Int))).2.1,(x1.2.2.1.getD x1.1.toNat (false,([]:List Int),([]:List Int))).2.2),())).bind fun y3=>if !y3.1.2 then some ((([]:List ByteArray),false),())else if decide (((x1.2.2.2.1.length+(List.length [y3.1.1]))*(16:Nat))≤(140737488355328:Nat))then g2 (IntKind.wrap .i64 (x1.1+(1:Int)),x1.2.1,x1.2.2.1,x1.2.2.2.1++[y3.1.1],())else none else none else none else some ((x1.2.2.2.1,true),())
def P.c6b (k:Nat) (x:List RB×Unit):i_toldList.A:=
 loopP P.b3i k ((0:Int),(x.1.length:Int),x.1,([]:List ByteArray),())
def S.b3s (x:((List RB)×Unit)):(Option (((List ByteArray)×Bool)×Unit)):=if x.1.all (rok B32 40000000)=true∧x.1.length≤1000000 then some (giveL (x.1.map (rv B32)),())else none
theorem S.i_toldList_ok (x r) (h:S.b3s x=some r):∃k,P.c6b k x=some r:=by
 obtain⟨xs,u⟩:=x;unfold S.b3s at h;dsimp only at h;split at h
 case isFalse=>cases h
 rename_i hc;cases h;obtain⟨qs,rfl⟩:∃qs:List Q3,xs=qs.map (rp B32):=⟨xs.map (rv B32),by
  rw[List.map_map];have:∀ys:List (Bool×(List Int×List Int)),ys.all (rok B32 40000000)=true→ys.map (rp B32 ∘ rv B32)=ys:=by
   intro ys
   induction ys with
   |nil=>intro _;rfl
   |cons y ys ih=>
    intro hy;rw[List.all_cons,Bool.and_eq_true]at hy;rw[List.map_cons,ih hy.2];show rp B32 (rv B32 y)::ys=_;rw[rp_rv hy.1]
  exact(this xs hc.1).symm⟩
 have hlen:=hc.2;rw[List.length_map]at hlen;refine⟨qs.length+1,?_⟩;unfold P.c6b giveL;dsimp only;have key:=a0h (k:=qs.length+1) (b:=P.b3i) (n:=qs.length) (st:=fun i=>((i:Int),(qs.length:Int),qs.map (rp B32),(qs.take i).map (fun r:Q3=>(⟨(c7y r).toArray⟩:ByteArray)),())) (F:=fun i=>some (if(qs.drop i).all fitN=true then(qs.map (fun r:Q3=>(⟨(c7y r).toArray⟩:ByteArray)),true)else([],false),())) (fun i g hi hg'=>by
  unfold P.b3i;dsimp only at hg' ⊢;have e1:(i:Int)<(qs.length:Int):=by omega
  have e2:(0:Int)≤(i:Int):=by omega
  have e3:(i:Int)<((qs.map (rp B32)).length:Int):=by rw[List.length_map];omega
  simp only[e1,e2,e3,decide_true,if_true];rw[a0o (qs.map (rp B32)) i _ (by rw[List.length_map];exact hi),List.getElem_map];have ht:S.b0z (rp B32 qs[i],())=some ((⟨(c7y qs[i]).toArray⟩,fitN qs[i]),()):=by
   unfold S.b0z;dsimp only;rw[if_pos (by have:=List.all_eq_true.1 hc.1 _ (List.mem_map.2 ⟨qs[i],List.getElem_mem hi,rfl⟩);exact this),a5t a0e]
  show Option.bind (S.b0z (rp B32 qs[i],())) _=_;rw[ht,Option.bind_some,List.drop_eq_getElem_cons hi,List.all_cons];dsimp only;cases hf:fitN qs[i]
  ·rw[if_pos (by decide),Bool.false_and,if_neg (by decide)]
  ·skip
   skip
   have e4:(((qs.take i).map (fun r:Q3=>(⟨(c7y r).toArray⟩:ByteArray))).length+1)*16≤140737488355328:=by
    rw[List.length_map,List.length_take];omega
   rw[if_neg (by simp),wr (by omega) (by omega),Bool.true_and,←hg'];simp only[List.length_cons,List.length_nil,Nat.zero_add];rw[if_pos (decide_eq_true e4),List.take_add_one,List.getElem?_eq_getElem hi,Option.toList_some,List.map_append];rfl) (fun g=>by
  unfold P.b3i;dsimp only;rw[if_neg (by simp),List.take_length,List.drop_length];rfl) (by omega)
 rw[b2o a0e,List.length_map];refine key.trans ?_;rw[List.drop_zero]
 by_cases ha:qs.all fitN=true
 ·rw[if_pos ha,if_pos ha];congr 3;refine List.map_congr_left fun r hr=> ?_
  unfold giveN;rw[if_pos (List.all_eq_true.1 ha r hr)]
 ·rw[if_neg ha,if_neg ha]
def P.c1u (k:Nat) (x:Int×Unit):Option (Int×Unit):=
 if decide (x.1<(0:Int))then some (IntKind.wrap .u64 ((0:Int) - (IntKind.wrap .u64 x.1)),())else some (IntKind.wrap .u64 x.1,())
def S.b4l (x:(Int×Unit)):(Option (Int×Unit)):=if -9223372036854775808≤x.1∧x.1≤9223372036854775807 then some (((x.1.natAbs:Nat):Int),())else none
theorem S.i_magnitude_ok (x r) (h:S.b4l x=some r):∃k,P.c1u k x=some r:=by
 obtain⟨n,u⟩:=x;unfold S.b4l at h;dsimp only at h;split at h
 case isFalse=>cases h
 rename_i hc;cases h;refine⟨0,?_⟩;unfold P.c1u;dsimp only;have hw:∀y:Int,IntKind.wrap .u64 y=y%18446744073709551616:=fun _=>rfl
 rw[hw,hw]
 by_cases h0:n<0
 ·rw[if_pos (decide_eq_true h0)];congr 2;omega
 ·rw[if_neg (by simpa using h0)];congr 2;omega
def P.i_natOf (k:Nat) (x:Int×Unit):Option (List Int×Unit):=
 (S.a3t ((IntKind.wrap .u32 x.1)::[IntKind.wrap .u32 (Int.fdiv x.1 (4294967296:Int))],())).bind fun y0=>some (y0.1,())
def S.a3d (x:(Int×Unit)):(Option ((List Int)×Unit)):=if 0≤x.1∧x.1<18446744073709551616 then some (nd B32 x.1.toNat,())else none
theorem S.i_natOf_ok (x r) (h:S.a3d x=some r):∃k,P.i_natOf k x=some r:=by
 obtain⟨n,u⟩:=x;unfold S.a3d at h;dsimp only at h;split at h
 case isFalse=>cases h
 rename_i hc;cases h;refine⟨0,?_⟩;unfold P.i_natOf;dsimp only;have hf:Int.fdiv n 4294967296=n/4294967296:=Int.fdiv_eq_ediv_of_nonneg _ (by omega);rw[hf,b8z n hc.1,b8z _ (by omega)];have hd:dig B32 [n%4294967296,n/4294967296%4294967296]=true:=by
  rw[a2j,a2j];refine⟨⟨by omega,?_⟩,⟨by omega,?_⟩,rfl⟩
  ·show _<(4294967296:Int);omega
  ·show _<(4294967296:Int);omega
 rw[trim_i _ hd (by simp),Option.bind_some];have:a0b B32 [n%4294967296,n/4294967296%4294967296]=n.toNat:=by
  simp only[a0b];show(n%4294967296).toNat+4294967296*((n/4294967296%4294967296).toNat+4294967296*0)=n.toNat;omega
 rw[this]
def P.i_whole (k:Nat) (x:Int×Unit):Option (RB×Unit):=
 (S.b4l (x.1,())).bind fun y0=>(S.a3d (y0.1,())).bind fun y1=>(S.a3d ((1:Int),())).bind fun y2=>some ((decide (x.1<(0:Int)),y1.1,y2.1),())
def S.a5g (x:(Int×Unit)):(Option (RB×Unit)):=if -9223372036854775808≤x.1∧x.1≤9223372036854775807 then some (rp B32 (wholeQ x.1),())else none
theorem S.i_whole_ok (x r) (h:S.a5g x=some r):∃k,P.i_whole k x=some r:=by
 obtain⟨n,u⟩:=x;unfold S.a5g at h;dsimp only at h;split at h
 case isFalse=>cases h
 rename_i hc;cases h;refine⟨0,?_⟩;unfold P.i_whole S.b4l S.a3d;dsimp only;rw[if_pos hc,Option.bind_some];dsimp only;rw[if_pos ⟨by omega,by omega⟩,Option.bind_some,Int.toNat_natCast,if_pos ⟨by decide,by decide⟩,Option.bind_some];rfl
abbrev P.b5j (x1:Int×List Int×List Int×Unit) (g2:Int×List Int×List Int×Unit→Option (Int×Unit)):Option (Int×Unit):=
 (fun(a:Int) (b c:List Int)=>if decide (a≥(0:Int))then if decide ((0:Int)≤a)then if decide (a<(b.length:Int))then if decide ((0:Int)≤a)then if decide (a<(c.length:Int))then if(b.getD a.toNat (0:Int)) != (c.getD a.toNat (0:Int))then if decide ((0:Int)≤a)then if decide (a<(b.length:Int))then if decide ((0:Int)≤a)then if decide (a<(c.length:Int))then if decide ((b.getD a.toNat (0:Int))<(c.getD a.toNat (0:Int)))then some ((-1:Int),())else some ((1:Int),())else none else none else none else none else g2 (IntKind.wrap .i64 (a - (1:Int)),b,c,())else none else none else none else none else some ((0:Int),())) x1.1 x1.2.1 x1.2.2.1
def P.i_nat_cmp (k:Nat) (x:List Int×List Int×Unit):Option (Int×Unit):=
 if(x.1.length:Int) != (x.2.1.length:Int)then if decide ((x.1.length:Int)<(x.2.1.length:Int))then some ((-1:Int),())else some ((1:Int),())else loopP P.b5j k (IntKind.wrap .i64 ((x.1.length:Int) - (1:Int)),x.1,x.2.1,())
def S.a1h (x:((List Int)×((List Int)×Unit))):(Option (Int×Unit)):=if a2s B32 x.1=true∧a2s B32 x.2.1=true∧x.1.length≤1000000000000 then some (b0q (a0b B32 x.1) (a0b B32 x.2.1),())else none
theorem S.i_nat_cmp_ok (x r) (h:S.a1h x=some r):∃k,P.i_nat_cmp k x=some r:=by
 obtain⟨xs,ys,u⟩:=x;unfold S.a1h at h;dsimp only at h;split at h
 case isFalse=>cases h
 rename_i hc;obtain⟨cx,cy,hl⟩:=hc;cases h;refine⟨xs.length+1,?_⟩;unfold P.i_nat_cmp;dsimp only
 by_cases hn:xs.length=ys.length
 ·rw[if_neg (by simp [hn]),wr (by omega) (by omega)];have key:=a0h (k:=xs.length+1) (b:=P.b5j) (n:=xs.length) (st:=fun j=>((xs.length:Int) - 1 - (j:Int),xs,ys,())) (F:=fun j=>some (b0q (a0b B32 (xs.take (xs.length - j))) (a0b B32 (ys.take (xs.length - j))),())) (fun j g hj hg=>by
   unfold P.b5j;dsimp only at hg ⊢;have e1:(xs.length:Int) - 1 - (j:Int)≥0:=by omega
   have e3:(0:Int)≤(xs.length:Int) - 1 - (j:Int):=by omega
   have e4:(xs.length:Int) - 1 - (j:Int)<(xs.length:Int):=by omega
   have e4':(xs.length:Int) - 1 - (j:Int)<(ys.length:Int):=by omega
   simp only[e1,e4,e4',decide_true,if_true];have hi:xs.length - (j+1)<xs.length:=by omega
   have hi':xs.length - (j+1)<ys.length:=by omega
   have e5:(xs.length:Int) - 1 - (j:Int)=((xs.length - (j+1):Nat):Int):=by omega
   have e6:xs.length - j=(xs.length - (j+1))+1:=by omega
   rw[e5,a0o xs _ _ hi,a0o ys _ _ hi',e6];generalize xs.length - (j+1)=i at*
   by_cases hq:xs[i]=ys[i]
   ·rw[if_neg (by simp [hq]),wr (by omega) (by omega)];have e7:((i:Nat):Int) - 1=(xs.length:Int) - 1 - ((j+1:Nat):Int):=by omega
    rw[e7,hg,←List.take_append_getElem hi,←List.take_append_getElem hi',a0w,a0w,hq];have hlx:(xs.take i).length=i:=by simp;omega
    have hly:(ys.take i).length=i:=by simp;omega
    rw[hlx,hly];unfold b0q;simp only[Nat.add_lt_add_iff_right]
   ·rw[if_pos (by simp [hq])]
    by_cases hlt:xs[i]<ys[i]
    ·have:=c8j xs ys i hi hi' (a1o cx) (a1o cy) hlt;rw[if_pos (decide_eq_true hlt),b0q,if_pos this]
    ·have:=c8j ys xs i hi' hi (a1o cy) (a1o cx) (by omega);rw[if_neg (by simpa using hlt),b0q,if_neg (by omega),if_pos this]) (fun g=>by
   unfold P.b5j;dsimp only;rw[if_neg (by simp;omega),Nat.sub_self,List.take_zero,List.take_zero];rfl) (by omega)
  rw[show(xs.length:Int) - 1 - ((0:Nat):Int)=(xs.length:Int) - 1 by omega,Nat.sub_zero,List.take_length,List.take_of_length_le (by omega)]at key;exact key
 ·rw[if_pos (by simp;omega)]
  by_cases hlt:xs.length<ys.length
  ·rw[if_pos (decide_eq_true (by omega)),b0q,if_pos (b0r a0e cx cy hlt)]
  ·have:=b0r a0e cy cx (by omega);rw[if_neg (by simp;omega),b0q,if_neg (by omega),if_pos this]
abbrev i_nat_mul.A:=Int×Int×List Int×Int×Int×List Int×Int×List Int×Int×Int×List Int×Unit
abbrev i_nat_mul.B:=Int×Int×List Int×List Int×List Int×Unit
abbrev i_nat_mul.C:=Option (List Int×Unit)
abbrev P.b2b (g2:i_nat_mul.B→i_nat_mul.C) (x4:i_nat_mul.A) (g5:i_nat_mul.A→i_nat_mul.C):i_nat_mul.C:=
 (fun(a b d e h j l:Int) (c f i m:List Int)=>if decide (a<b)then if decide ((0:Int)≤a)then if decide (a<(c.length:Int))then if decide ((0:Int)≤(IntKind.wrap .i64 (h+a)))then if decide ((IntKind.wrap .i64 (h+a))<(f.length:Int))then if decide ((0:Int)≤(IntKind.wrap .i64 (h+a)))then if decide ((IntKind.wrap .i64 (h+a))<(f.length:Int))then g5 (IntKind.wrap .i64 (a+(1:Int)),b,c,Int.fdiv (IntKind.wrap .u64 (d+(IntKind.wrap .u64 ((IntKind.wrap .u64 ((IntKind.wrap .u64 e)*(IntKind.wrap .u64 (c.getD a.toNat (0:Int)))))+(IntKind.wrap .u64 (f.getD ((0:Nat)+(Int.toNat (IntKind.wrap .i64 (h+a)))) (0:Int))))))) (4294967296:Int),e,f.set ((0:Nat)+(Int.toNat (IntKind.wrap .i64 (h+a)))) (IntKind.wrap .u32 (IntKind.wrap .u64 (d+(IntKind.wrap .u64 ((IntKind.wrap .u64 ((IntKind.wrap .u64 e)*(IntKind.wrap .u64 (c.getD a.toNat (0:Int)))))+(IntKind.wrap .u64 (f.getD ((0:Nat)+(Int.toNat (IntKind.wrap .i64 (h+a)))) (0:Int)))))))),h,i,j,l,m,())else none else none else none else none else none else none else if decide ((0:Int)≤(IntKind.wrap .i64 (h+(i.length:Int))))then if decide ((IntKind.wrap .i64 (h+(i.length:Int)))<(f.length:Int))then g2 (IntKind.wrap .i64 (j+(1:Int)),l,m,i,f.set ((0:Nat)+(Int.toNat (IntKind.wrap .i64 (h+(i.length:Int))))) (IntKind.wrap .u32 d),())else none else none) x4.1 x4.2.1 x4.2.2.2.1 x4.2.2.2.2.1 x4.2.2.2.2.2.2.1 x4.2.2.2.2.2.2.2.2.1 x4.2.2.2.2.2.2.2.2.2.1 x4.2.2.1 x4.2.2.2.2.2.1 x4.2.2.2.2.2.2.2.1 x4.2.2.2.2.2.2.2.2.2.2.1
abbrev P.b5k (k:Nat) (x1:i_nat_mul.B) (g2:i_nat_mul.B→i_nat_mul.C):i_nat_mul.C:=
 if decide (x1.1<x1.2.1)then if decide ((0:Int)≤x1.1)then if decide (x1.1<(x1.2.2.1.length:Int))then loopP (P.b2b g2) k ((0:Int),(x1.2.2.2.1.length:Int),x1.2.2.2.1,(0:Int),x1.2.2.1.getD x1.1.toNat (0:Int),x1.2.2.2.2.1,x1.1,x1.2.2.2.1,x1.1,x1.2.1,x1.2.2.1,())else none else none else(S.a3t (x1.2.2.2.2.1,())).bind fun y6=>some (y6.1,())
def P.i_nat_mul (k:Nat) (x:List Int×List Int×Unit):i_nat_mul.C:=
 if decide ((0:Int)≤(IntKind.wrap .i64 ((x.1.length:Int)+(x.2.1.length:Int))))then if decide ((IntKind.wrap .i64 ((x.1.length:Int)+(x.2.1.length:Int)))≤(IntKind.wrap .i64 ((x.1.length:Int)+(x.2.1.length:Int))))then if decide (((IntKind.wrap .i64 ((x.1.length:Int)+(x.2.1.length:Int)))*(4:Int))≤(281474976710656:Int))then loopP (P.b5k k) k ((0:Int),(x.1.length:Int),x.1,x.2.1,List.replicate (Int.toNat (IntKind.wrap .i64 ((x.1.length:Int)+(x.2.1.length:Int)))) (0:Int),())else none else none else none
theorem im_inner (g:(Int×(Int×((List Int)×((List Int)×((List Int)×Unit)))))→(Option ((List Int)×Unit))) (F:Option ((List Int)×Unit)) {xs ys:List Int} (hx:dig B32 xs=true) (hy:dig B32 ys=true) (hlx:xs.length≤10000000000) (hly:ys.length≤10000000000) {i:Nat} (hi:i<xs.length) (K:Nat) (hK:ys.length<K)
  (hg:g (((i+1:Nat):Int),((xs.length:Int),(xs,(ys,(fd B32 (xs.length+ys.length) (a0b B32 (xs.take (i+1))*a0b B32 ys),())))))=F):
  loopP (P.b2b g) K ((0:Int),((ys.length:Int),(ys,((0:Int),(xs.getD i 0,(fd B32 (xs.length+ys.length) (a0b B32 (xs.take i)*a0b B32 ys),((i:Int),(ys,((i:Int),((xs.length:Int),(xs,())))))))))))=F:=by
 have hA:=b6e a0e hx hy i (by omega);have hA':=b6e a0e hx hy (i+1) (by omega);have gx:=a0z (B:=B32) (by decide) hx i;have gx1:xs.getD i 0<4294967296:=gx.2;have gx0:=gx.1;rw[a2k,Nat.add_mul,Nat.mul_assoc]at hg hA';generalize a0b B32 (xs.take i)*a0b B32 ys=A at*;obtain⟨x,hxe⟩:∃x:Nat,xs.getD i 0=(x:Int):=⟨(xs.getD i 0).toNat,by omega⟩
 rw[hxe,Int.toNat_natCast]at hg hA';rw[hxe]at gx1 ⊢;have hxB:x<B32:=by show x<4294967296;omega
 have hsh:=mul_shape a0e hi hA;rw[hsh];have hlw:(fd B32 ys.length (A/B32^i)).length=ys.length:=a3b _ _ _;have hdw:dig B32 (fd B32 ys.length (A/B32^i))=true:=b5d (by decide) _ _;have hvw:a0b B32 (fd B32 ys.length (A/B32^i))=A/B32^i:=by
  rw[b7h,Nat.mod_eq_of_lt];rw[Nat.div_lt_iff_lt_mul (Nat.pow_pos (by decide)),←Nat.pow_add,Nat.add_comm];exact hA
 have hnext:=mul_next a0e (la:=xs.length) (lb:=ys.length) (R:=x*a0b B32 ys) hi hA';generalize hR:List.replicate (xs.length - 1 - i) (0:Int)=R at*;have hRl:R.length=xs.length - 1 - i:=by rw[←hR,List.length_replicate]
 generalize hW:fd B32 ys.length (A/B32^i)=W at*;have hl0:(fd B32 i A).length=i:=a3b _ _ _;have key:=a0h (k:=K) (b:=P.b2b g) (n:=ys.length) (st:=fun k=>((k:Int),(ys.length:Int),ys,((b8b B32 x W ys k).2:Int),(x:Int),(fd B32 i A++(b8b B32 x W ys k).1)++(W.drop k++(0:Int)::R),(i:Int),ys,(i:Int),(xs.length:Int),xs,())) (F:=fun k=>F) (fun k g' hk hg'=>by
  unfold P.b2b;dsimp only at hg' ⊢;refine Eq.trans ?_ hg';clear hg';obtain⟨q1,q2,q3,q4⟩:=maUp_ok (x:=x) a0e hxB hdw hy k;have q4':(b8b B32 x W ys k).2<4294967296:=q4;have gy:=a0z (B:=B32) (by decide) hy k;have gw:=a0z (B:=B32) (by decide) hdw k;have gy1:ys.getD k 0<4294967296:=gy.2;have gw1:W.getD k 0<4294967296:=gw.2;have gy0:=gy.1;have gw0:=gw.1;have hAl:(fd B32 i A++(b8b B32 x W ys k).1).length=i+k:=by rw[List.length_append,hl0,q2]
  have hlen:((fd B32 i A++(b8b B32 x W ys k).1)++(W.drop k++(0:Int)::R)).length=xs.length+ys.length:=by
   rw[List.length_append,hAl,List.length_append,List.length_drop,List.length_cons,hlw,hRl];omega
  have e1:(k:Int)<(ys.length:Int):=by omega
  have e2:(0:Int)≤(k:Int):=by omega
  have e3:(0:Int)≤((i+k:Nat):Int):=by omega
  have e4:((i+k:Nat):Int)<((xs.length+ys.length:Nat):Int):=by omega
  rw[hlen,←Int.natCast_add i k,wr (x:=((i+k:Nat):Int)) (by omega) (by omega)];simp only[e1,e2,e3,e4,decide_true,if_true,Nat.zero_add,Int.toNat_natCast];rw[a2w (xs:=W) (i:=k) (by omega),List.cons_append,b0t hAl];simp only[b2m hAl];rw[b8b];dsimp only;generalize W.getD k 0=w at*;generalize ys.getD k 0=y at*;generalize b8b B32 x W ys k=p at*;obtain⟨pl,c0⟩:=p;dsimp only at*;obtain⟨Y,rfl⟩:∃Y:Nat,y=(Y:Int):=⟨y.toNat,by omega⟩
  obtain⟨w',rfl⟩:∃Y:Nat,w=(Y:Int):=⟨w.toNat,by omega⟩
  rw[Int.toNat_natCast,Int.toNat_natCast];have hxY:x*Y≤4294967295*4294967295:=Nat.mul_le_mul (by omega) (by omega);rw[wu (x:=(x:Int)) (by omega) (by omega),wu (x:=(Y:Int)) (by omega) (by omega),←Int.natCast_mul,wu (x:=((x*Y:Nat):Int)) (by omega) (by omega),wu (x:=(w':Int)) (by omega) (by omega),←Int.natCast_add,wu (x:=((x*Y+w':Nat):Int)) (by omega) (by omega),←Int.natCast_add,wu (x:=((c0+(x*Y+w'):Nat):Int)) (by omega) (by omega),Int.fdiv_eq_ediv_of_nonneg _ (by omega),c2v,wr (x:=(k:Int)+1) (by omega) (by omega)];have e8:((c0+(x*Y+w'):Nat):Int)%4294967296=(((c0+(x*Y+w'))%B32:Nat):Int):=by
   show _=(((c0+(x*Y+w'))%4294967296:Nat):Int)
   omega
  have e9:((c0+(x*Y+w'):Nat):Int)/4294967296=(((c0+(x*Y+w'))/B32:Nat):Int):=by
   show _=(((c0+(x*Y+w'))/4294967296:Nat):Int)
   omega
  rw[e8,e9,←List.append_assoc (fd B32 i A)];rfl) (fun g'=>by
  unfold P.b2b;dsimp only;obtain⟨q1,q2,q3,q4⟩:=maUp_ok (x:=x) a0e hxB hdw hy ys.length;have q4':(b8b B32 x W ys ys.length).2<4294967296:=q4;rw[List.take_length,←hlw,List.take_length,hlw,hvw]at q3;have hAl:(fd B32 i A++(b8b B32 x W ys ys.length).1).length=i+ys.length:=by rw[List.length_append,hl0,q2]
  have hlen:((fd B32 i A++(b8b B32 x W ys ys.length).1)++(W.drop ys.length++(0:Int)::R)).length=xs.length+ys.length:=by
   rw[List.length_append,hAl,List.length_append,List.length_drop,List.length_cons,hlw,hRl];omega
  have e1:¬((ys.length:Int)<(ys.length:Int)):=by omega
  have e3:(0:Int)≤((i+ys.length:Nat):Int):=by omega
  have e4:((i+ys.length:Nat):Int)<((xs.length+ys.length:Nat):Int):=by omega
  rw[hlen,←Int.natCast_add i ys.length,wr (x:=((i+ys.length:Nat):Int)) (by omega) (by omega)];simp only[e1,e3,e4,decide_true,decide_false,if_true,if_false,Bool.false_eq_true,Nat.zero_add,Int.toNat_natCast];rw[List.drop_of_length_le (by omega),List.nil_append,b2m hAl,w32 (by omega) (by omega),wr (x:=(i:Int)+1) (by omega) (by omega)];generalize b8b B32 x W ys ys.length=p at*;obtain⟨pl,c0⟩:=p;dsimp only at*;have hlt:=a1l q1;rw[q2]at hlt;have hpl:pl=fd B32 ys.length (A/B32^i+x*a0b B32 ys):=by
   have:=fd_eq a0e q1 q2 rfl;rw[this,←q3,←c0r B32 ys.length (_+_),Nat.add_mul_mod_self_left,c0r]
  have hc0:c0=(A/B32^i+x*a0b B32 ys)/B32^ys.length:=by
   rw[←q3,Nat.add_mul_div_left _ _ (Nat.pow_pos (by decide)),Nat.div_eq_of_lt hlt,Nat.zero_add]
  rw[List.append_assoc _ [_],List.singleton_append,hpl,hc0,hnext];exact hg) hK
 rw[show(fd B32 i A++(b8b B32 x W ys 0).1)++(W.drop 0++(0:Int)::R)=(fd B32 i A++W)++(0:Int)::R by rw[show(b8b B32 x W ys 0).1=[]from rfl,List.append_nil,List.drop_zero,List.append_assoc]]at key;exact key
def S.a2t (x:((List Int)×((List Int)×Unit))):(Option ((List Int)×Unit)):=if dig B32 x.1=true∧dig B32 x.2.1=true∧x.1.length≤10000000000∧x.2.1.length≤10000000000 then some (nd B32 (a0b B32 x.1*a0b B32 x.2.1),())else none
theorem S.i_nat_mul_ok (x r) (h:S.a2t x=some r):∃k,P.i_nat_mul k x=some r:=by
 obtain⟨xs,ys,u⟩:=x;unfold S.a2t at h;dsimp only at h;split at h
 case isFalse=>cases h
 rename_i hc;obtain⟨dx,dy,lx,ly⟩:=hc;cases h;refine⟨xs.length+ys.length+1,?_⟩;unfold P.i_nat_mul;dsimp only;have a1:(0:Int)≤((xs.length+ys.length:Nat):Int):=by omega
 have a2:((xs.length+ys.length:Nat):Int)*4≤281474976710656:=by omega
 rw[←Int.natCast_add,wr (x:=((xs.length+ys.length:Nat):Int)) (by omega) (by omega)];simp only[a1,a2,decide_true,if_true,Int.le_refl,Int.toNat_natCast];have key:=a0h (k:=xs.length+ys.length+1) (b:=P.b5k (xs.length+ys.length+1)) (n:=xs.length) (st:=fun i=>((i:Int),(xs.length:Int),xs,ys,fd B32 (xs.length+ys.length) (a0b B32 (xs.take i)*a0b B32 ys),())) (F:=fun i=>some (nd B32 (a0b B32 xs*a0b B32 ys),())) (fun i g hi hg=>by
  unfold P.b5k;dsimp only at hg ⊢;have e1:(i:Int)<(xs.length:Int):=by omega
  have e2:(0:Int)≤(i:Int):=by omega
  simp only[e1,e2,decide_true,if_true,Int.toNat_natCast];exact im_inner g _ dx dy lx ly hi _ (by omega) hg) (fun g=>by
  unfold P.b5k;dsimp only;rw[if_neg (by simp),List.take_length];unfold S.a3t;dsimp only;have hb:=b6e a0e dx dy xs.length (Nat.le_refl _);rw[List.take_length]at hb;rw[if_pos ⟨b5d (by decide) _ _,by rw[a3b];omega⟩,Option.bind_some,nd_fd a0e hb]) (by omega)
 rw[List.take_zero,show a0b B32 []*a0b B32 ys=0 by simp [a0b],fd_zero]at key;exact key
def P.c6c (k:Nat) (x:RB×Unit):Option (Int×Unit):=
 if(x.1.2.1.length:Int)==(0:Int)then some ((0:Int),())else if x.1.1 then some ((-1:Int),())else some ((1:Int),())
def S.a0t (x:(RB×Unit)):(Option (Int×Unit)):=if a2s B32 x.1.2.1=true then some (sgnQ x.1.1 (a0b B32 x.1.2.1),())else none
theorem S.i_rat_sign_ok (x r) (h:S.a0t x=some r):∃k,P.c6c k x=some r:=by
 obtain⟨⟨n,as,bs⟩,u⟩:=x;unfold S.a0t at h;dsimp only at h;split at h
 case isFalse=>cases h
 rename_i ca;cases h;refine⟨0,?_⟩;unfold P.c6c sgnQ;dsimp only;have h:=a9t a0e ca
 by_cases h0:as=[]
 ·rw[if_pos (h.1 h0),h0,if_pos (by rfl)]
 ·rw[if_neg (fun q=>h0 (h.2 q)),if_neg (by simpa using h0)];cases n<;>rfl
def P.c3s (k:Nat) (x:RB×RB×Unit):Option (Int×Unit):=
 (S.a0t ((x.1.1,x.1.2.1,x.1.2.2),())).bind fun y0=>(S.a0t ((x.2.1.1,x.2.1.2.1,x.2.1.2.2),())).bind fun y1=>if y0.1 != y1.1 then(S.a0t ((x.1.1,x.1.2.1,x.1.2.2),())).bind fun y2=>(S.a0t ((x.2.1.1,x.2.1.2.1,x.2.1.2.2),())).bind fun y3=>some (IntKind.wrap .i64 (y2.1 - y3.1),())else(S.a2t (x.1.2.1,x.2.1.2.2,())).bind fun y4=>(S.a2t (x.2.1.2.1,x.1.2.2,())).bind fun y5=>(S.a1h (y4.1,y5.1,())).bind fun y6=>if x.1.1 then some (IntKind.wrap .i64 ((0:Int) - y6.1),())else some (y6.1,())
def S.c3t (x:(RB×(RB×Unit))):(Option (Int×Unit)):=P.c3s 0 x
theorem S.i_rat_cmp_ok (x r) (h:S.c3t x=some r):∃k,P.c3s k x=some r:=⟨0,h⟩
def P.c1v (k:Nat) (x:RB×Unit):Option (Bool×Unit):=
 (S.a5g ((1:Int),())).bind fun y0=>(S.c3t ((x.1.1,x.1.2.1,x.1.2.2),(y0.1.1,y0.1.2.1,y0.1.2.2),())).bind fun y1=>some (y1.1==(0:Int),())
def S.a8c (x:(RB×Unit)):(Option (Bool×Unit)):=if rok B32 40000000 x.1=true∧qok (rv B32 x.1)=true then some (c3e (rv B32 x.1),())else none
theorem S.i_rat_isOne_ok (x r) (h:S.a8c x=some r):∃k,P.c1v k x=some r:=by
 obtain⟨x,u⟩:=x;unfold S.a8c at h;dsimp only at h;split at h
 case isFalse=>cases h
 rename_i hc;obtain⟨hr,hq⟩:=hc;obtain⟨n,p,q,rfl,l1,l2⟩:=b1t hr;rw[b9g a0e]at h hq;rw[d1p]at hq;obtain⟨h0,h1⟩:=hq;dsimp only at h0 h1;cases h;refine⟨0,?_⟩;have hw:S.a5g (1,())=some ((false,(nd B32 1,nd B32 1)),()):=by rfl
 unfold P.c1v c3e;dsimp only;rw[hw,Option.bind_some];dsimp only;unfold S.c3t P.c3s;dsimp only;have hs:∀(n:Bool) (p:Nat) (ys:List Int),S.a0t ((n,(nd B32 p,ys)),())=some (sgnQ n p,()):=by
  intro n p ys;unfold S.a0t;dsimp only;rw[if_pos (a0l a0e _),a0j a0e]
 have o1:(nd B32 1).length≤40000000:=by rw[nd_one a0e];decide
 have em:∀p q,(nd B32 p).length≤40000000→(nd B32 q).length≤40000000→S.a2t (nd B32 p,(nd B32 q,()))=some (nd B32 (p*q),()):=by
  intro p q hp hq;unfold S.a2t;dsimp only;rw[if_pos ⟨a3x a0e _,a3x a0e _,by omega,by omega⟩,a0j a0e,a0j a0e]
 have ec:S.a1h (nd B32 (p*1),(nd B32 (1*q),()))=some (b0q (p*1) (1*q),()):=by
  unfold S.a1h;dsimp only;rw[if_pos ⟨a0l a0e _,a0l a0e _,by rw[Nat.mul_one];omega⟩,a0j a0e,a0j a0e]
 rw[hs,Option.bind_some,hs,Option.bind_some];dsimp only;have s1:sgnQ false 1=1:=rfl;rw[s1]
 by_cases hp:p=0
 ·subst hp;rw[decide_eq_false (fun z=>by have:=z.2;omega)];rfl
 ·cases n
  ·have s2:sgnQ false p=1:=by
    unfold sgnQ;rw[if_neg hp];rfl
   rw[s2,if_neg (by decide),em _ _ l1 o1,Option.bind_some,em _ _ o1 l2,Option.bind_some];dsimp only;rw[ec,Option.bind_some];dsimp only;rw[if_neg (by decide),Option.bind_some];have hz:=a4s (a:=p*1) (b:=1*q);rw[Nat.mul_one,Nat.one_mul]at hz ⊢
   by_cases he:p=q
   ·rw[decide_eq_true ⟨rfl,he⟩,hz.2 he];rfl
   ·rw[decide_eq_false (fun z=>he z.2)];dsimp only;rw[beq_eq_false_iff_ne.2 (fun z=>he (hz.1 z))]
  ·have s2:sgnQ true p= -1:=by
    unfold sgnQ;rw[if_neg hp];rfl
   rw[s2,decide_eq_false (fun z=>by cases z.1)];rfl
def S.b4m (x:(ByteArray×(ByteArray×Unit))):(Option ((ByteArray×(ByteArray×Bool))×Unit)):=if x.1.size<4294967281 then some ((⟨(Go.Lib.cut x.1.data.toList x.2.1.data.toList).1.toArray⟩,(⟨(Go.Lib.cut x.1.data.toList x.2.1.data.toList).2.1.toArray⟩,(Go.Lib.cut x.1.data.toList x.2.1.data.toList).2.2)),())else none
def S.a6x (x:(ByteArray×(ByteArray×Unit))):(Option ((ByteArray×Bool)×Unit)):=some ((⟨(Go.Lib.trimPrefix x.1.data.toList x.2.1.data.toList).toArray⟩,Go.Lib.hasPrefix x.1.data.toList x.2.1.data.toList),())
abbrev P.a7n (x1:Int×List Int×Int×Unit) (g2:Int×List Int×Int×Unit→Option ((Int×Bool)×Unit)):Option ((Int×Bool)×Unit):=
 if decide (x1.1≥(0:Int))then if decide ((x1.2.1.length:Int)≤(2:Int))then if decide ((0:Int)≤x1.1)then if decide (x1.1<(x1.2.1.length:Int))then g2 (IntKind.wrap .i64 (x1.1 - (1:Int)),x1.2.1,IntKind.wrap .u64 ((IntKind.wrap .u64 (x1.2.2.1*(4294967296:Int)))+(IntKind.wrap .u64 (x1.2.1.getD x1.1.toNat (0:Int)))),())else none else none else some ((x1.2.2.1,decide ((x1.2.1.length:Int)≤(2:Int))),())else some ((x1.2.2.1,decide ((x1.2.1.length:Int)≤(2:Int))),())
def P.b7t (k:Nat) (x:List Int×Unit):Option ((Int×Bool)×Unit):=
 loopP P.a7n k (IntKind.wrap .i64 ((x.1.length:Int) - (1:Int)),x.1,(0:Int),())
def S.a5h (x:((List Int)×Unit)):(Option ((Int×Bool)×Unit)):=if dig B32 x.1=true∧x.1.length≤1000000000000 then some ((if x.1.length≤2 then((a0b B32 x.1:Nat):Int)else 0,decide (x.1.length≤2)),())else none
theorem S.i_nat_small_ok (x r) (h:S.a5h x=some r):∃k,P.b7t k x=some r:=by
 obtain⟨xs,u⟩:=x;unfold S.a5h at h;dsimp only at h;split at h
 case isFalse=>cases h
 rename_i hc;obtain⟨hd,hl⟩:=hc;cases h
 by_cases h2:xs.length≤2
 ·refine⟨xs.length+1,?_⟩;unfold P.b7t;dsimp only;rw[if_pos h2,decide_eq_true h2,wr (by omega) (by omega)];have key:=a0h (k:=xs.length+1) (b:=P.a7n) (n:=xs.length) (st:=fun j=>((xs.length:Int) - 1 - (j:Int),xs,((a0b B32 (xs.drop (xs.length - j)):Nat):Int),())) (F:=fun j=>some ((((a0b B32 xs:Nat):Int),true),())) (fun j g hj hg=>by
   unfold P.a7n;dsimp only at hg ⊢;have e1:(xs.length:Int) - 1 - (j:Int)≥0:=by omega
   have e2:(xs.length:Int)≤2:=by omega
   have e3:(0:Int)≤(xs.length:Int) - 1 - (j:Int):=by omega
   have e4:(xs.length:Int) - 1 - (j:Int)<(xs.length:Int):=by omega
   simp only[e1,e2,e4,decide_true,if_true];have hi:xs.length - (j+1)<xs.length:=by omega
   have e5:(xs.length:Int) - 1 - (j:Int)=((xs.length - (j+1):Nat):Int):=by omega
   rw[e5,a0o xs _ _ hi];have e6:xs.drop (xs.length - (j+1))=xs[xs.length - (j+1)]::xs.drop (xs.length - j):=by
    rw[List.drop_eq_getElem_cons hi];congr 2;omega
   have hx:=b5n hd hi;have hv:a0b B32 (xs.drop (xs.length - j))<B32^1:=by
    have hdd:dig B32 (xs.drop (xs.length - j))=true:=by
     have:=List.take_append_drop (xs.length - j) xs;rw[←this,a1k,Bool.and_eq_true]at hd;exact hd.2
    have:=a1l hdd;have hp:B32^(xs.drop (xs.length - j)).length≤B32^1:=Nat.pow_le_pow_right (by decide) (by simp;omega);omega
   have hv':a0b B32 (xs.drop (xs.length - j))<4294967296:=hv;have hx':xs[xs.length - (j+1)]<4294967296:=hx.2;rw[e6]at hg;rw[←hg,wr (by omega) (by omega),wu (x:=(a0b B32 (xs.drop (xs.length - j)):Int)*4294967296) (by omega) (by omega),wu (x:=xs[xs.length - (j+1)]) (by omega) (by omega),wu (by omega) (by omega)];congr 1;simp only[Prod.mk.injEq,a0b];refine⟨by omega,trivial,?_,trivial⟩;show _=(((xs[xs.length - (j+1)]).toNat+4294967296*a0b B32 (xs.drop (xs.length - j)):Nat):Int)
   omega) (fun g=>by
   unfold P.a7n;dsimp only;rw[if_neg (by simp;omega),Nat.sub_self,List.drop_zero,decide_eq_true (by omega)]) (by omega)
  have e0:a0b B32 (xs.drop (xs.length - 0))=0:=by rw[Nat.sub_zero,List.drop_length];rfl
  rw[show(xs.length:Int) - 1 - ((0:Nat):Int)=(xs.length:Int) - 1 by omega,e0]at key;exact key
 ·refine⟨1,?_⟩;unfold P.b7t;rw[a0k];unfold P.a7n;dsimp only;rw[wr (by omega) (by omega),if_pos (decide_eq_true (by omega)),if_neg (by simp;omega),if_neg h2,decide_eq_false h2,decide_eq_false (by omega)]
def S.a3g (x:(Int×Unit)):(Option (Int×Unit)):=if 0≤x.1∧x.1≤4294967295 then some (32 - (Go.Lib.bitLen x.1.toNat:Int),())else none
abbrev P.a7w (x1:Int×Int×List Int×Int×List Int×Unit) (g2:Int×Int×List Int×Int×List Int×Unit→Option (List Int×Unit)):Option (List Int×Unit):=
 (fun(a b d:Int) (c e:List Int)=>if decide (a<b)then if decide ((0:Int)≤a)then if decide (a<(c.length:Int))then if decide (d<(0:Int))then none else if decide ((0:Int)≤a)then if decide (a<(e.length:Int))then if decide ((0:Int)≤a)then if decide (a<(e.length:Int))then if decide ((0:Int)≤(IntKind.wrap .i64 (a+(1:Int))))then if decide ((IntKind.wrap .i64 (a+(1:Int)))<(List.length (e.set ((0:Nat)+a.toNat) (IntKind.wrap .u32 ((BitVec.toNat ((BitVec.ofInt 32 (e.getD ((0:Nat)+a.toNat) (0:Int)))|||(BitVec.ofInt 32 (IntKind.wrap .u32 (IntKind.wrap .u64 ((IntKind.wrap .u64 (c.getD a.toNat (0:Int)))*((2:Int)^(Min.min d.toNat 64))))))):Nat):Int))):Int))then g2 (IntKind.wrap .i64 (a+(1:Int)),b,c,d,List.set (e.set ((0:Nat)+a.toNat) (IntKind.wrap .u32 ((BitVec.toNat ((BitVec.ofInt 32 (e.getD ((0:Nat)+a.toNat) (0:Int)))|||(BitVec.ofInt 32 (IntKind.wrap .u32 (IntKind.wrap .u64 ((IntKind.wrap .u64 (c.getD a.toNat (0:Int)))*((2:Int)^(Min.min d.toNat 64))))))):Nat):Int))) ((0:Nat)+(Int.toNat (IntKind.wrap .i64 (a+(1:Int))))) (IntKind.wrap .u32 (Int.fdiv (IntKind.wrap .u64 ((IntKind.wrap .u64 (c.getD a.toNat (0:Int)))*((2:Int)^(Min.min d.toNat 64)))) (4294967296:Int))),())else none else none else none else none else none else none else none else none else some (e,())) x1.1 x1.2.1 x1.2.2.2.1 x1.2.2.1 x1.2.2.2.2.1
def P.b7u (k:Nat) (x:List Int×Int×Unit):Option (List Int×Unit):=
 if decide ((0:Int)≤(IntKind.wrap .i64 ((x.1.length:Int)+(1:Int))))then if decide ((IntKind.wrap .i64 ((x.1.length:Int)+(1:Int)))≤(IntKind.wrap .i64 ((x.1.length:Int)+(1:Int))))then if decide (((IntKind.wrap .i64 ((x.1.length:Int)+(1:Int)))*(4:Int))≤(281474976710656:Int))then loopP P.a7w k ((0:Int),(x.1.length:Int),x.1,x.2.1,List.replicate (Int.toNat (IntKind.wrap .i64 ((x.1.length:Int)+(1:Int)))) (0:Int),())else none else none else none
def S.a3q (x:((List Int)×(Int×Unit))):(Option ((List Int)×Unit)):=if dig B32 x.1=true∧0≤x.2.1∧x.2.1≤31∧x.1.length≤10000000000 then some (fd B32 (x.1.length+1) (a0b B32 x.1*2^x.2.1.toNat),())else none
theorem S.c8d (x r) (h:S.a3q x=some r):∃k,P.b7u k x=some r:=by
 obtain⟨xs,by',u⟩:=x;unfold S.a3q at h;dsimp only at h;split at h
 case isFalse=>cases h
 rename_i hc;obtain⟨hd,hb0,hb1,hl⟩:=hc;cases h;obtain⟨s,rfl⟩:∃d:Nat,by'=(d:Int):=⟨by'.toNat,by omega⟩
 rw[Int.toNat_natCast];have hs:s≤31:=by omega
 have hpow:0<2^s:=Nat.pow_pos (by decide);have hpow32:2^s≤2147483648:=Nat.le_trans (Nat.pow_le_pow_right (by decide) hs) (by decide);refine⟨xs.length+1,?_⟩;unfold P.b7u;dsimp only;rw[wr (by omega) (by omega)];have a1:(0:Int)≤(xs.length:Int)+1:=by omega
 have a3:((xs.length:Int)+1)*4≤281474976710656:=by omega
 rw[if_pos (decide_eq_true a1),if_pos (decide_eq_true (Int.le_refl _)),if_pos (decide_eq_true a3)];have e0:List.replicate ((xs.length:Int)+1).toNat (0:Int)=(b0s B32 (2^s) xs 0).1++(((b0s B32 (2^s) xs 0).2:Int)::List.replicate (xs.length - 0) 0):=by
  rw[show((xs.length:Int)+1).toNat=xs.length+1 by omega,List.replicate_succ];rfl
 rw[e0];have key:=a0h (k:=xs.length+1) (b:=P.a7w) (n:=xs.length) (st:=fun i=>((i:Int),(xs.length:Int),xs,(s:Int),(b0s B32 (2^s) xs i).1++(((b0s B32 (2^s) xs i).2:Int)::List.replicate (xs.length - i) 0),())) (F:=fun i=>some (fd B32 (xs.length+1) (a0b B32 xs*2^s),())) (fun i g hi hg=>by
  unfold P.a7w;dsimp only at hg ⊢;obtain⟨q1,q2,q3,q4⟩:=c8l (d:=2^s) a0e hd i (by omega);have hlen:((b0s B32 (2^s) xs i).1++(((b0s B32 (2^s) xs i).2:Int)::List.replicate (xs.length - i) 0)).length=xs.length+1:=by rw[List.length_append,q2,List.length_cons,List.length_replicate];omega
  have e1:(i:Int)<(xs.length:Int):=by omega
  have e2:(0:Int)≤(i:Int):=by omega
  have e3:(i:Int)<((xs.length+1:Nat):Int):=by omega
  have e4:¬((s:Int)<0):=by omega
  rw[hlen];simp only[e1,e2,e3,e4,decide_true,decide_false,if_true,Nat.zero_add,Int.toNat_natCast,List.length_set,hlen,Bool.false_eq_true,if_false];rw[wr (x:=(i:Int)+1) (by omega) (by omega)];have e5:(0:Int)≤(i:Int)+1:=by omega
  have e6:(i:Int)+1<((xs.length+1:Nat):Int):=by omega
  simp only[e5,e6,decide_true,if_true];have hgD:xs.getD i 0=xs[i]:=by simp [hi]
  have hx:=b5n hd hi;have hx1:xs[i]<4294967296:=hx.2;have hx0:=hx.1;rw[b0s,hgD]at hg;rw[hgD];have hcar:(b0s B32 (2^s) xs i).2<2^s:=by
   have h1:a0b B32 (xs.take i)<B32^i:=by
    have h0:dig B32 (xs.take i)=true:=by
     have:=List.take_append_drop i xs;rw[←this,a1k,Bool.and_eq_true]at hd;exact hd.1
    have:=a1l h0;rwa [show(xs.take i).length=i by simp;omega]at this
   have h2:a0b B32 (xs.take i)*2^s<B32^i*2^s:=Nat.mul_lt_mul_of_pos_right h1 hpow;exact Nat.lt_of_mul_lt_mul_left (a:=B32^i) (by omega)
  generalize hP:b0s B32 (2^s) xs i=p at*;obtain⟨z,hz⟩:∃z:Nat,xs[i]=(z:Int):=⟨xs[i].toNat,(Int.toNat_of_nonneg hx0).symm⟩
  rw[hz]at hx1 hg ⊢;rw[Int.toNat_natCast]at hg;have hz32:z<2^32:=by omega
  have hzp:z*2^s<18446744073709551616:=Nat.lt_of_lt_of_le (Nat.mul_lt_mul_of_pos_right hz32 hpow) (by have:=Nat.mul_le_mul_left (2^32) hpow32;omega);have emin:Min.min s 64=s:=by omega
  have ep:((2:Int)^s)=((2^s:Nat):Int):=by rw[Int.natCast_pow];rfl
  have em:(z:Int)*((2^s:Nat):Int)=((z*2^s:Nat):Int):=(Int.natCast_mul _ _).symm;rw[wu (x:=(z:Int)) (by omega) (by omega),emin,ep,em,wu (x:=((z*2^s:Nat):Int)) (by omega) (by omega)];have g1:(p.1++((p.2:Int)::List.replicate (xs.length - i) 0)).getD i 0=(p.2:Int):=by
   rw[List.getD_eq_getElem?_getD,List.getElem?_append_right (by omega),q2,Nat.sub_self];rfl
  rw[g1,b8z ((z*2^s:Nat):Int) (by omega)];have e7:((z*2^s:Nat):Int)%4294967296=((z*2^s%2^32:Nat):Int):=by
   show _=((z*2^s%4294967296:Nat):Int)
   omega
  have hlow:=shl_low z s (by omega);have hor:p.2|||(z*2^s%2^32)=p.2+z*2^s%2^32:=by rw[hlow,or_apart _ _ _ hcar]
  have hmlt:z*2^s%2^32<2^32:=Nat.mod_lt _ (by decide);have hsum:p.2+z*2^s%2^32<2^32:=by
   have h1:z%2^(32 - s)+1≤2^(32 - s):=Nat.mod_lt _ (Nat.pow_pos (by decide));have h2:2^s*(z%2^(32 - s)+1)≤2^s*2^(32 - s):=Nat.mul_le_mul_left _ h1;rw[←Nat.pow_add,show s+(32 - s)=32 by omega,Nat.mul_add]at h2;omega
  rw[e7,bv_or _ _ (by omega) hmlt,hor,w32 (by omega) (by omega),Int.fdiv_eq_ediv_of_nonneg _ (by omega)];have hq:z*2^s/4294967296<4294967296:=(Nat.div_lt_iff_lt_mul (by decide)).2 (by omega);have e8:((z*2^s:Nat):Int)/4294967296=((z*2^s/4294967296:Nat):Int):=by omega
  rw[e8,w32 (by omega) (by omega)];have e9:(z*2^s+p.2)%B32=p.2+z*2^s%2^32:=by
   show(z*2^s+p.2)%4294967296=p.2+z*2^s%4294967296;omega
  have e10:(z*2^s+p.2)/B32=z*2^s/4294967296:=by
   show(z*2^s+p.2)/4294967296=_;omega
  rw[e9,e10]at hg;have z1:xs.length - i=(xs.length - (i+1))+1:=by omega
  rw[z1,List.replicate_succ,List.set_append_right _ _ (by omega),q2,Nat.sub_self,List.set_cons_zero,List.set_append_right _ _ (by omega),q2,show((i:Int)+1).toNat - i=1 by omega,List.set_cons_succ,List.set_cons_zero];rw[List.append_assoc]at hg;exact hg) (fun g=>by
  unfold P.a7w;dsimp only;obtain⟨q1,q2,q3,q4⟩:=c8l (d:=2^s) a0e hd xs.length (Nat.le_refl _);rw[List.take_length]at q3;have hcar:(b0s B32 (2^s) xs xs.length).2<2^s:=by
   have h2:a0b B32 xs*2^s<B32^xs.length*2^s:=Nat.mul_lt_mul_of_pos_right (a1l hd) hpow;exact Nat.lt_of_mul_lt_mul_left (a:=B32^xs.length) (by omega)
  rw[if_neg (by simp),Nat.sub_self];generalize b0s B32 (2^s) xs xs.length=p at*;have hdd:dig B32 (p.1++[(p.2:Int)])=true:=by
   rw[a1k,q1,Bool.true_and,a2j];refine⟨⟨Int.natCast_nonneg _,?_⟩,rfl⟩;show(p.2:Int)<4294967296;omega
  have:=c4y (B:=B32) (by decide) hdd;rw[a0w,q2,show a0b B32 [(p.2:Int)]=p.2 by simp [a0b],q3,List.length_append,q2]at this;show some (p.1++[(p.2:Int)],())=_;rw[←this];rfl) (by omega)
 exact key
abbrev i_takeAway.A:=Option (Bool×List Int×Unit)
abbrev P.a5i (x4:Int×Int×Int×List Int×List Int×Unit) (g5:Int×Int×Int×List Int×List Int×Unit→i_takeAway.A):i_takeAway.A:=
 (fun(a b c:Int) (d e:List Int)=>if decide (a<b)then if decide ((0:Int)≤a)then if decide (a<(d.length:Int))then if decide (a<(e.length:Int))then if decide ((0:Int)≤a)then if decide (a<(e.length:Int))then if decide ((0:Int)≤a)then if decide (a<(d.length:Int))then g5 (IntKind.wrap .i64 (a+(1:Int)),b,Int.fdiv (IntKind.wrap .u64 ((IntKind.wrap .u64 (c+(IntKind.wrap .u64 (d.getD ((0:Nat)+a.toNat) (0:Int)))))+(IntKind.wrap .u64 (e.getD a.toNat (0:Int))))) (4294967296:Int),d.set ((0:Nat)+a.toNat) (IntKind.wrap .u32 (IntKind.wrap .u64 ((IntKind.wrap .u64 (c+(IntKind.wrap .u64 (d.getD ((0:Nat)+a.toNat) (0:Int)))))+(IntKind.wrap .u64 (e.getD a.toNat (0:Int)))))),e,())else none else none else none else none else if decide ((0:Int)≤a)then if decide (a<(d.length:Int))then g5 (IntKind.wrap .i64 (a+(1:Int)),b,Int.fdiv (IntKind.wrap .u64 (c+(IntKind.wrap .u64 (d.getD ((0:Nat)+a.toNat) (0:Int))))) (4294967296:Int),d.set ((0:Nat)+a.toNat) (IntKind.wrap .u32 (IntKind.wrap .u64 (c+(IntKind.wrap .u64 (d.getD ((0:Nat)+a.toNat) (0:Int)))))),e,())else none else none else none else none else some (true,d,())) x4.1 x4.2.1 x4.2.2.1 x4.2.2.2.1 x4.2.2.2.2.1
abbrev P.b3j (k:Nat) (x1:Int×Int×List Int×Int×Int×List Int×Int×Unit) (g2:Int×Int×List Int×Int×Int×List Int×Int×Unit→i_takeAway.A):i_takeAway.A:=
 (fun(a b d e h:Int) (c f:List Int)=>if decide (a<b)then if decide (a<(c.length:Int))then if decide ((0:Int)≤a)then if decide (a<(c.length:Int))then if decide ((0:Int)≤a)then if decide (a<(f.length:Int))then if decide ((IntKind.wrap .i64 ((IntKind.wrap .i64 ((IntKind.wrap .i64 (f.getD ((0:Nat)+a.toNat) (0:Int))) - (IntKind.wrap .i64 (IntKind.wrap .u32 (IntKind.wrap .u64 (d+(IntKind.wrap .u64 (e*(IntKind.wrap .u64 (c.getD a.toNat (0:Int))))))))))) - h))<(0:Int))then if decide ((0:Int)≤a)then if decide (a<(f.length:Int))then g2 (IntKind.wrap .i64 (a+(1:Int)),b,c,Int.fdiv (IntKind.wrap .u64 (d+(IntKind.wrap .u64 (e*(IntKind.wrap .u64 (c.getD a.toNat (0:Int))))))) (4294967296:Int),e,f.set ((0:Nat)+a.toNat) (IntKind.wrap .u32 (IntKind.wrap .i64 ((IntKind.wrap .i64 ((IntKind.wrap .i64 (f.getD ((0:Nat)+a.toNat) (0:Int))) - (IntKind.wrap .i64 (IntKind.wrap .u32 (IntKind.wrap .u64 (d+(IntKind.wrap .u64 (e*(IntKind.wrap .u64 (c.getD a.toNat (0:Int))))))))))) - h))),(1:Int),())else none else none else if decide ((0:Int)≤a)then if decide (a<(f.length:Int))then g2 (IntKind.wrap .i64 (a+(1:Int)),b,c,Int.fdiv (IntKind.wrap .u64 (d+(IntKind.wrap .u64 (e*(IntKind.wrap .u64 (c.getD a.toNat (0:Int))))))) (4294967296:Int),e,f.set ((0:Nat)+a.toNat) (IntKind.wrap .u32 (IntKind.wrap .i64 ((IntKind.wrap .i64 ((IntKind.wrap .i64 (f.getD ((0:Nat)+a.toNat) (0:Int))) - (IntKind.wrap .i64 (IntKind.wrap .u32 (IntKind.wrap .u64 (d+(IntKind.wrap .u64 (e*(IntKind.wrap .u64 (c.getD a.toNat (0:Int))))))))))) - h))),(0:Int),())else none else none else none else none else none else none else if decide ((0:Int)≤a)then if decide (a<(f.length:Int))then if decide ((IntKind.wrap .i64 ((IntKind.wrap .i64 ((IntKind.wrap .i64 (f.getD ((0:Nat)+a.toNat) (0:Int))) - (IntKind.wrap .i64 (IntKind.wrap .u32 d)))) - h))<(0:Int))then if decide ((0:Int)≤a)then if decide (a<(f.length:Int))then g2 (IntKind.wrap .i64 (a+(1:Int)),b,c,Int.fdiv d (4294967296:Int),e,f.set ((0:Nat)+a.toNat) (IntKind.wrap .u32 (IntKind.wrap .i64 ((IntKind.wrap .i64 ((IntKind.wrap .i64 (f.getD ((0:Nat)+a.toNat) (0:Int))) - (IntKind.wrap .i64 (IntKind.wrap .u32 d)))) - h))),(1:Int),())else none else none else if decide ((0:Int)≤a)then if decide (a<(f.length:Int))then g2 (IntKind.wrap .i64 (a+(1:Int)),b,c,Int.fdiv d (4294967296:Int),e,f.set ((0:Nat)+a.toNat) (IntKind.wrap .u32 (IntKind.wrap .i64 ((IntKind.wrap .i64 ((IntKind.wrap .i64 (f.getD ((0:Nat)+a.toNat) (0:Int))) - (IntKind.wrap .i64 (IntKind.wrap .u32 d)))) - h))),(0:Int),())else none else none else none else none else if h==(0:Int)then if d==(0:Int)then some (false,f,())else loopP P.a5i k ((0:Int),(f.length:Int),(0:Int),f,c,())else loopP P.a5i k ((0:Int),(f.length:Int),(0:Int),f,c,())) x1.1 x1.2.1 x1.2.2.2.1 x1.2.2.2.2.1 x1.2.2.2.2.2.2.1 x1.2.2.1 x1.2.2.2.2.2.1
def P.c6d (k:Nat) (x:List Int×List Int×Int×Unit):i_takeAway.A:=
 loopP (P.b3j k) k ((0:Int),(x.1.length:Int),x.2.1,(0:Int),x.2.2.1,x.1,(0:Int),())
theorem takeBack (b:(Int×(Int×(Int×((List Int)×((List Int)×Unit)))))→((Int×(Int×(Int×((List Int)×((List Int)×Unit)))))→Option (Bool×((List Int)×Unit)))→Option (Bool×((List Int)×Unit))) (hb:b=P.a5i)
  (xs ys:List Int) (hx:dig B32 xs=true) (hy:dig B32 ys=true) (hl:ys.length≤xs.length) (hbig:xs.length≤100000000000):
  loopP b (xs.length+1) ((0:Int),((xs.length:Int),((0:Int),(xs,(ys,())))))=some (true,fd B32 xs.length (a0b B32 xs+a0b B32 ys),()):=by
 subst hb;have key:=a0h (k:=xs.length+1) (b:=P.a5i) (n:=xs.length) (st:=fun i=>((i:Int),(xs.length:Int),((a1d B32 xs ys i).2:Int),(a1d B32 xs ys i).1++xs.drop i,ys,())) (F:=fun i=>some (true,fd B32 xs.length (a0b B32 xs+a0b B32 ys),())) (fun i g hi hg=>by
  unfold P.a5i;dsimp only at hg ⊢;obtain⟨q1,q2,q3,q4⟩:=b3a a0e hx hy i;have gx:=a0z (B:=B32) (by decide) hx i;have gy:=a0z (B:=B32) (by decide) hy i;have gx1:xs.getD i 0<4294967296:=gx.2;have gy1:ys.getD i 0<4294967296:=gy.2;have gx0:=gx.1;have gy0:=gy.1;have hlen:((a1d B32 xs ys i).1++xs.drop i).length=xs.length:=by rw[List.length_append,q2,List.length_drop];omega
  have e1:(i:Int)<(xs.length:Int):=by omega
  have e2:(0:Int)≤(i:Int):=by omega
  rw[hlen];simp only[e1,e2,decide_true,if_true,Nat.zero_add,Int.toNat_natCast];rw[a2w hi,b0t q2];simp only[b2m q2];have hnat:∀n:Nat,n=(a1d B32 xs ys i).2+(xs.getD i 0).toNat+(ys.getD i 0).toNat→(((n%B32:Nat):Int)=(n:Int)%4294967296∧((n/B32:Nat):Int)=(n:Int)/4294967296):=by
   intro n _;constructor
   ·show((n%4294967296:Nat):Int)=_;omega
   ·show((n/4294967296:Nat):Int)=_;omega
  obtain⟨n1,n2⟩:=hnat _ rfl;rw[a1d]at hg;dsimp only at hg;rw[n1,n2]at hg
  by_cases hj:(i:Int)<(ys.length:Int)
  ·rw[if_pos (decide_eq_true hj),if_pos (decide_eq_true hj)];rw[wu (x:=xs.getD i 0) (by omega) (by omega),wu (x:=ys.getD i 0) (by omega) (by omega),wu (x:=((a1d B32 xs ys i).2:Int)+xs.getD i 0) (by omega) (by omega),wu (x:=((a1d B32 xs ys i).2:Int)+xs.getD i 0+ys.getD i 0) (by omega) (by omega),b8z _ (by omega),Int.fdiv_eq_ediv_of_nonneg _ (by omega),wr (by omega) (by omega)];have e:(((a1d B32 xs ys i).2+(xs.getD i 0).toNat+(ys.getD i 0).toNat:Nat):Int)=((a1d B32 xs ys i).2:Int)+xs.getD i 0+ys.getD i 0:=by omega
   rw[e]at hg;exact hg
  ·rw[if_neg (by simpa using hj)];have y0:ys.getD i 0=0:=by rw[List.getD_eq_getElem?_getD,List.getElem?_eq_none (by omega)];rfl
   rw[wu (x:=xs.getD i 0) (by omega) (by omega),wu (x:=((a1d B32 xs ys i).2:Int)+xs.getD i 0) (by omega) (by omega),b8z _ (by omega),Int.fdiv_eq_ediv_of_nonneg _ (by omega),wr (by omega) (by omega)];have e:(((a1d B32 xs ys i).2+(xs.getD i 0).toNat+(ys.getD i 0).toNat:Nat):Int)=((a1d B32 xs ys i).2:Int)+xs.getD i 0:=by omega
   rw[e]at hg;exact hg) (fun g=>by
  unfold P.a5i;dsimp only;rw[if_neg (by simp),List.drop_length,List.append_nil,addUp_fd a0e hx hy hl]) (by omega)
 have e0:(a1d B32 xs ys 0).1++xs.drop 0=xs:=rfl;rw[e0]at key;exact key
def S.a8s (x:((List Int)×((List Int)×(Int×Unit)))):(Option (Bool×((List Int)×Unit))):=
 if dig B32 x.1=true∧dig B32 x.2.1=true∧0≤x.2.2.1∧x.2.2.1<4294967296∧x.2.1.length≤x.1.length∧x.1.length≤10000000000∧a0b B32 x.2.1*x.2.2.1.toNat≤a0b B32 x.1+a0b B32 x.2.1 then
  (if a0b B32 x.2.1*x.2.2.1.toNat≤a0b B32 x.1 then some (false,fd B32 x.1.length (a0b B32 x.1 - a0b B32 x.2.1*x.2.2.1.toNat),())
   else some (true,fd B32 x.1.length (a0b B32 x.1+a0b B32 x.2.1 - a0b B32 x.2.1*x.2.2.1.toNat),()))else none
theorem S.i_takeAway_ok (x r) (h:S.a8s x=some r):∃k,P.c6d k x=some r:=by
 obtain⟨xs,ys,t',u⟩:=x;unfold S.a8s at h;dsimp only at h;split at h
 case isFalse=>cases h
 rename_i hc;obtain⟨hx,hy,ht0,ht1,hl,hbig,hfit⟩:=hc;obtain⟨t,rfl⟩:∃d:Nat,t'=(d:Int):=⟨t'.toNat,by omega⟩
 rw[Int.toNat_natCast]at h hfit;have ht:t≤4294967295:=by omega
 refine⟨xs.length+1,?_⟩;rw[←h];unfold P.c6d;dsimp only;have key:=a0h (k:=xs.length+1) (b:=P.b3j (xs.length+1)) (n:=xs.length) (st:=fun i=>((i:Int),(xs.length:Int),ys,((a2i B32 t xs ys i).2.1:Int),(t:Int),(a2i B32 t xs ys i).1++xs.drop i,((a2i B32 t xs ys i).2.2:Int),())) (F:=fun i=>(if a0b B32 ys*t≤a0b B32 xs then some (false,fd B32 xs.length (a0b B32 xs - a0b B32 ys*t),())
   else some (true,fd B32 xs.length (a0b B32 xs+a0b B32 ys - a0b B32 ys*t),()))) (fun i g hi hg=>by
  unfold P.b3j;dsimp only at hg ⊢;obtain⟨q1,q2,q3,q4,q5⟩:=b9a (t:=t) a0e hx hy i;have gx:=a0z (B:=B32) (by decide) hx i;have gy:=a0z (B:=B32) (by decide) hy i;have gx1:xs.getD i 0<4294967296:=gx.2;have gy1:ys.getD i 0<4294967296:=gy.2;have gx0:=gx.1;have gy0:=gy.1;have hlen:((a2i B32 t xs ys i).1++xs.drop i).length=xs.length:=by rw[List.length_append,q2,List.length_drop];omega
  have e1:(i:Int)<(xs.length:Int):=by omega
  have e2:(0:Int)≤(i:Int):=by omega
  rw[hlen];simp only[e1,e2,decide_true,if_true,Nat.zero_add,Int.toNat_natCast];rw[a2w hi,b0t q2];simp only[b2m q2];rw[a2i]at hg;dsimp only at hg;have y0:¬((i:Int)<(ys.length:Int))→ys.getD i 0=0:=by
   intro hj;rw[List.getD_eq_getElem?_getD,List.getElem?_eq_none (by omega)];rfl
  generalize xs.getD i 0=x at*;generalize ys.getD i 0=y at*;generalize a2i B32 t xs ys i=p at*;obtain⟨pl,c0,l0⟩:=p;dsimp only at*;obtain⟨Y,rfl⟩:∃Y:Nat,y=(Y:Int):=⟨y.toNat,by omega⟩
  rw[Int.toNat_natCast]at hg;have htY:t*Y≤4294967295*4294967295:=Nat.mul_le_mul ht (by omega);have em:(t:Int)*(Y:Int)=((t*Y:Nat):Int):=(Int.natCast_mul _ _).symm;have fin:∀c:Nat,c=c0+t*Y→(let n:=IntKind.wrap .i64 (IntKind.wrap .i64 (IntKind.wrap .i64 x - IntKind.wrap .i64 (IntKind.wrap .u32 (c:Int))) - (l0:Int))
    (if decide (n<0)=true then g (IntKind.wrap .i64 ((i:Int)+1),(xs.length:Int),ys,Int.fdiv (c:Int) 4294967296,(t:Int),(pl++[IntKind.wrap .u32 n])++xs.drop (i+1),1,())
     else g (IntKind.wrap .i64 ((i:Int)+1),(xs.length:Int),ys,Int.fdiv (c:Int) 4294967296,(t:Int),(pl++[IntKind.wrap .u32 n])++xs.drop (i+1),0,()))=(if a0b B32 ys*t≤a0b B32 xs then some (false,fd B32 xs.length (a0b B32 xs - a0b B32 ys*t),())
   else some (true,fd B32 xs.length (a0b B32 xs+a0b B32 ys - a0b B32 ys*t),()))):=by
   intro c hcc;rw[←hcc]at hg;have e8:(c:Int)%4294967296=((c%B32:Nat):Int):=by
    show _=((c%4294967296:Nat):Int)
    omega
   have e9:Int.fdiv (c:Int) 4294967296=((c/B32:Nat):Int):=by
    rw[Int.fdiv_eq_ediv_of_nonneg _ (by omega)];show _=((c/4294967296:Nat):Int)
    omega
   have e10:c%B32<4294967296:=Nat.mod_lt _ (by decide);rw[b8z (c:Int) (by omega),e8,e9,wr (x:=(i:Int)+1) (by omega) (by omega),wr (x:=x) (by omega) (by omega),wr (x:=((c%B32:Nat):Int)) (by omega) (by omega),wr (x:=x - ((c%B32:Nat):Int)) (by omega) (by omega),wr (x:=x - ((c%B32:Nat):Int) - (l0:Int)) (by omega) (by omega)];dsimp only;rw[c2v]
   by_cases hn:x - ((c%B32:Nat):Int) - (l0:Int)<0
   ·rw[if_pos hn]at hg;rw[if_pos (decide_eq_true hn)];exact hg
   ·rw[if_neg hn]at hg;rw[if_neg (by simpa using hn)];exact hg
  by_cases hj:(i:Int)<(ys.length:Int)
  ·simp only[hj,decide_true,if_true];rw[wu (x:=(Y:Int)) (by omega) (by omega),em,wu (x:=((t*Y:Nat):Int)) (by omega) (by omega),←Int.natCast_add,wu (x:=((c0+t*Y:Nat):Int)) (by omega) (by omega)];exact fin _ rfl
  ·rw[if_neg (by simpa using hj)];have hY:Y=0:=by have:=y0 hj;omega
   subst hY;exact fin c0 rfl) (fun g=>by
  unfold P.b3j;dsimp only;obtain⟨q1,q2,q3,q4,q5⟩:=b9a (t:=t) a0e hx hy xs.length;rw[List.take_length,List.take_of_length_le hl]at q3;rw[if_neg (by simp),List.drop_length,List.append_nil];generalize a2i B32 t xs ys xs.length=p at*;obtain⟨pl,c0,l0⟩:=p;dsimp only at*;have hlt:=a1l q1;rw[q2]at hlt;have hback:∀b,b=P.a5i→0<c0+l0→loopP b (xs.length+1) ((0:Int),((pl.length:Int),((0:Int),(pl,(ys,())))))=(if a0b B32 ys*t≤a0b B32 xs then some (false,fd B32 xs.length (a0b B32 xs - a0b B32 ys*t),())
   else some (true,fd B32 xs.length (a0b B32 xs+a0b B32 ys - a0b B32 ys*t),())):=by
   intro b hb hpos;have hge:B32^xs.length*1≤B32^xs.length*(c0+l0):=Nat.mul_le_mul_left _ hpos;rw[if_neg (by omega)];have:=takeBack b hb pl ys q1 hy (by omega) (by omega);rw[q2]at this;rw[q2,this];congr 2;have e1:a0b B32 pl+a0b B32 ys=(a0b B32 xs+a0b B32 ys - a0b B32 ys*t)+B32^xs.length*(c0+l0):=by omega
   rw[e1,←c0r B32 xs.length (_+_),Nat.add_mul_mod_self_left,c0r]
  by_cases hl0:l0=0
  ·subst hl0;rw[if_pos (by rfl)]
   by_cases hc0:c0=0
   ·subst hc0;rw[if_pos (by rfl),if_pos (by omega)];congr 2;have:pl=fd B32 xs.length (a0b B32 xs - a0b B32 ys*t):=fd_eq a0e q1 q2 (by omega);rw[this]
   ·rw[if_neg (by simp;omega)];exact hback _ rfl (by omega)
  ·rw[if_neg (by simp;omega)];exact hback _ rfl (by omega)) (by omega)
 exact key
end Go.Cm
end
