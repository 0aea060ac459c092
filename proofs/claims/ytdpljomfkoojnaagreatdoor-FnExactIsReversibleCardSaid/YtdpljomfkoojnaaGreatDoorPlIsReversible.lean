import Derived.Test.YtdpljomfkoojnaaGreatDoorPlIsReversiblec
set_option linter.unusedVariables false
set_option maxRecDepth 100000
noncomputable section
namespace Go.Cm
open IntKind (wrap)
abbrev i_classes.A:=Int×Int×List (List Bool)×Int×List Int×List Bool×Bool×Int×Int×List (List RB)×Unit
abbrev i_classes.B:=Int×Int×List Int×List (List RB)×List (List Bool)×List Bool×Unit
abbrev i_classes.C:=Option ((List Int×List Bool)×Unit)
abbrev P.i_classes_b5 (g4:i_classes.B->i_classes.C) (x6:i_classes.A) (g7:i_classes.A->i_classes.C):i_classes.C:=
 (fun(a b d i j:Int) (c:List (List Bool)) (e:List Int) (f:List Bool) (h:Bool) (l:List (List RB))=>if decide (a<b)then if decide (0<=d)then if decide (d<(c.length:Int))then if decide (0<=a)then if decide (a<(List.length (c.getD d.toNat []):Int))then if List.getD (c.getD d.toNat []) a.toNat false then if decide (0<=a)then if decide (a<(c.length:Int))then if decide (0<=d)then if decide (d<(List.length (c.getD a.toNat []):Int))then if List.getD (c.getD a.toNat []) d.toNat false then if decide (0<=a)then if decide (a<(e.length:Int))then if h then if decide (0<=d)then if decide (d<(c.length:Int))then if decide (0<=a)then if decide (a<(List.length (c.getD d.toNat []):Int))then if ! (List.getD (c.getD d.toNat []) a.toNat false)then g7 (wrap .i64 (a+1),b,c,d,e.set (0+a.toNat) (f.length:Int),f,true,i,j,l,())else if decide (0<=a)then if decide (a<(c.length:Int))then if decide (0<=d)then if decide (d<(List.length (c.getD a.toNat []):Int))then g7 (wrap .i64 (a+1),b,c,d,e.set (0+a.toNat) (f.length:Int),f,List.getD (c.getD a.toNat []) d.toNat false,i,j,l,())else none else none else none else none else none else none else none else none else g7 (wrap .i64 (a+1),b,c,d,e.set (0+a.toNat) (f.length:Int),f,false,i,j,l,())else none else none else if h then if decide (0<=d)then if decide (d<(c.length:Int))then if decide (0<=a)then if decide (a<(List.length (c.getD d.toNat []):Int))then if ! (List.getD (c.getD d.toNat []) a.toNat false)then g7 (wrap .i64 (a+1),b,c,d,e,f,true,i,j,l,())else if decide (0<=a)then if decide (a<(c.length:Int))then if decide (0<=d)then if decide (d<(List.length (c.getD a.toNat []):Int))then g7 (wrap .i64 (a+1),b,c,d,e,f,List.getD (c.getD a.toNat []) d.toNat false,i,j,l,())else none else none else none else none else none else none else none else none else g7 (wrap .i64 (a+1),b,c,d,e,f,false,i,j,l,())else none else none else none else none else if h then if decide (0<=d)then if decide (d<(c.length:Int))then if decide (0<=a)then if decide (a<(List.length (c.getD d.toNat []):Int))then if ! (List.getD (c.getD d.toNat []) a.toNat false)then g7 (wrap .i64 (a+1),b,c,d,e,f,true,i,j,l,())else if decide (0<=a)then if decide (a<(c.length:Int))then if decide (0<=d)then if decide (d<(List.length (c.getD a.toNat []):Int))then g7 (wrap .i64 (a+1),b,c,d,e,f,List.getD (c.getD a.toNat []) d.toNat false,i,j,l,())else none else none else none else none else none else none else none else none else g7 (wrap .i64 (a+1),b,c,d,e,f,false,i,j,l,())else none else none else none else none else if decide (((f.length+(List.length [h]))*1)<=140737488355328)then g4 (wrap .i64 (i+1),j,e,l,c,f++[h],())else none) x6.1 x6.2.1 x6.2.2.2.1 x6.2.2.2.2.2.2.2.1 x6.2.2.2.2.2.2.2.2.1 x6.2.2.1 x6.2.2.2.2.1 x6.2.2.2.2.2.1 x6.2.2.2.2.2.2.1 x6.2.2.2.2.2.2.2.2.2.1
abbrev P.i_classes_b2 (k:Nat) (x3:i_classes.B) (g4:i_classes.B->i_classes.C):i_classes.C:=
 if decide (x3.1<x3.2.1)then if decide (0<=x3.1)then if decide (x3.1<(x3.2.2.1.length:Int))then if decide ((x3.2.2.1.getD (0+x3.1.toNat) 0)>=0)then g4 (wrap .i64 (x3.1+1),x3.2.1,x3.2.2.1,x3.2.2.2.1,x3.2.2.2.2.1,x3.2.2.2.2.2.1,())else loopP (P.i_classes_b5 g4) k (0,(x3.2.2.2.1.length:Int),x3.2.2.2.2.1,x3.1,x3.2.2.1,x3.2.2.2.2.2.1,true,x3.1,x3.2.1,x3.2.2.2.1,())else none else none else some ((x3.2.2.1,x3.2.2.2.2.2.1),())
def P.i_classes (k:Nat) (x:List (List RB)×Unit):i_classes.C:=
 (S.i_reaches (x.1,())).bind fun y0=>(S.slices_Repeat__int64_int64 ([(-1:Int)],(x.1.length:Int),())).bind fun y1=>loopP (P.i_classes_b2 k) k (0,(x.1.length:Int),y1.1,x.1,y0.1,[],())
theorem rowsR_at {M:List (List Q3)} {i j:Nat} (hi:i<M.length):((rowsR M).getD i []).getD j false=rcB M i j:=by
 unfold rowsR rcB;rw[tab_getD _ _ hi]
theorem rowsR_len {M:List (List Q3)} :(rowsR M).length=M.length:=by
 unfold rowsR;rw[tab_len]
theorem rowsR_row {M:List (List Q3)} {i:Nat} (hi:i<M.length):((rowsR M).getD i []).length=M.length:=by
 unfold rowsR;rw[tab_getD _ _ hi,reachB_len hi]
theorem icl_inner {M:List (List Q3)} {i:Nat} (hi:i<M.length) (hn:M.length<=12) (f:Nat->Int) (cl:List Bool) (hcl:cl.length<=12)
  (g) {K:Nat} (hK:M.length<K) (p:List (List RB)):
  loopP (P.i_classes_b5 g) K ((0:Int),(M.length:Int),rowsR M,(i:Int),tab M.length f,cl,true,(i:Int),(M.length:Int),p,())=g (((i+1:Nat):Int),(M.length:Int),tab M.length (fun j=>if(rcB M i j&&rcB M j i)=true then(cl.length:Int)else f j),p,rowsR M,cl++[(List.range M.length).all fun j=> !rcB M i j||rcB M j i],()):=by
 have key:=loop_up0 (k:=K) (b:=P.i_classes_b5 g) (n:=M.length) (st:=fun j=>((j:Int),(M.length:Int),rowsR M,(i:Int),upT M.length f (fun j=>rcB M i j&&rcB M j i) (cl.length:Int) j,cl,(List.range j).all (fun j=> !rcB M i j||rcB M j i),(i:Int),(M.length:Int),p,())) (F:=fun _=>g (((i+1:Nat):Int),(M.length:Int),tab M.length (fun j=>if(rcB M i j&&rcB M j i)=true then(cl.length:Int)else f j),p,rowsR M,cl++[(List.range M.length).all fun j=> !rcB M i j||rcB M j i],())) (fun j g' hj hg=>by
  unfold P.i_classes_b5;dsimp only at hg ⊢;have e1:(j:Int)<(M.length:Int):=by omega
  have e2:(0:Int)<=(j:Int):=by omega
  have e3:(0:Int)<=(i:Int):=by omega
  have e4:(i:Int)<(M.length:Int):=by omega
  have e5:∀k,(upT M.length f (fun j=>rcB M i j&&rcB M j i) (cl.length:Int) k).length=M.length:=fun k=>tab_len _ _
  simp only[rowsR_len,Int.toNat_natCast,rowsR_row hi,rowsR_row hj,rowsR_at hi,rowsR_at hj,e1,e2,e3,e4,e5,decide_true,if_true,Nat.zero_add];rw[wr (by omega) (by omega)];rw[all_succ]at hg;cases h1:rcB M i j
  ·rw[<-upT_no (by rw[h1];rfl),h1,Bool.not_false,Bool.true_or,Bool.and_true]at hg;cases hs:(List.range j).all fun j=> !rcB M i j||rcB M j i
   ·rw[hs]at hg;exact hg
   ·rw[hs]at hg;exact hg
  ·cases h2:rcB M j i
   ·rw[<-upT_no (by rw[h1,h2];rfl),h1,h2,Bool.not_true,Bool.false_or,Bool.and_false]at hg;cases hs:(List.range j).all fun j=> !rcB M i j||rcB M j i
    ·exact hg
    ·exact hg
   ·rw[<-upT_yes (by rw[h1,h2];rfl),h1,h2,Bool.not_true,Bool.false_or,Bool.and_true]at hg;cases hs:(List.range j).all fun j=> !rcB M i j||rcB M j i
    ·rw[hs]at hg;exact hg
    ·rw[hs]at hg;exact hg) (fun g'=>by
  unfold P.i_classes_b5;dsimp only;have e1:(cl.length+1)*1<=140737488355328:=by omega
  rw[if_neg (by simp),upT_all];simp only[List.length_cons,List.length_nil,Nat.zero_add,e1,decide_true,if_true];rw[wr (by omega) (by omega)];rfl) hK
 refine Eq.trans ?_ key;unfold upT;congr 2
open Classical in
def S.i_classes (x:((List (List RB))×Unit)):(Option (((List Int)×(List Bool))×Unit)):=if ∃M,isM M/\x.1=mp B32 M then some (clsM (mv B32 x.1),())else none
theorem S.i_classes_ok (x r) (h:S.i_classes x=some r):∃k,P.i_classes k x=some r:=by
 obtain⟨m,u⟩:=x;unfold S.i_classes at h;dsimp only at h;split at h
 case isFalse=>cases h
 rename_i hc;obtain⟨M,hM,rfl⟩:=hc;cases h;rw[mv_mp (by decide)];have hn:=hM.1;refine⟨M.length+1,?_⟩;unfold P.i_classes;dsimp only;have er:S.i_reaches (mp B32 M,())=some (rowsR M,()):=by
  unfold S.i_reaches;dsimp only;rw[if_pos ⟨M,hM,rfl⟩,mv_mp (by decide)]
 have ep:S.slices_Repeat__int64_int64 ([-1],(M.length:Int),())=some (List.replicate M.length (-1),()):=by
  unfold S.slices_Repeat__int64_int64;dsimp only;rw[if_pos ⟨rfl,by omega,by omega⟩,Int.toNat_natCast];rfl
 rw[er,mp_len,Option.bind_some,ep,Option.bind_some];have key:=loop_up0 (k:=M.length+1) (b:=P.i_classes_b2 (M.length+1)) (n:=M.length) (st:=fun i=>((i:Int),(M.length:Int),((List.range i).foldl (clsStep (rcB M) M.length) (List.replicate M.length (-1),[])).1,mp B32 M,rowsR M,((List.range i).foldl (clsStep (rcB M) M.length) (List.replicate M.length (-1),[])).2,())) (F:=fun _=>some (clsM M,())) (fun i g hi hg=>by
  unfold P.i_classes_b2;dsimp only at hg ⊢;obtain⟨l1,l2⟩:=clsF_len (rcB M) M.length i;rw[fold_succ]at hg;generalize (List.range i).foldl (clsStep (rcB M) M.length) (List.replicate M.length (-1),[])=s at l1 l2 hg ⊢;have e1:(i:Int)<(M.length:Int):=by omega
  have e2:(0:Int)<=(i:Int):=by omega
  have e3:(i:Int)<(s.1.length:Int):=by omega
  have e4:s.1.getD i 0=s.1.getD i (-1):=by
   rw[List.getD_eq_getElem?_getD,List.getD_eq_getElem?_getD,List.getElem?_eq_getElem (by omega)];rfl
  simp only[e1,e2,e3,decide_true,if_true,Int.toNat_natCast,Nat.zero_add,e4,mp_len];unfold clsStep at hg
  by_cases h0:0<=s.1.getD i (-1)
  ·rw[if_pos h0]at hg;rw[if_pos (decide_eq_true h0),wr (by omega) (by omega)];exact hg
  ·rw[if_neg h0]at hg;rw[if_neg (by simpa using h0)];have hs:s.1=tab M.length fun v=>s.1.getD v (-1):=by
    conv=>lhs;rw[tab_of s.1 (-1),l1]
   rw[hs];refine Eq.trans (icl_inner hi hn (fun v=>s.1.getD v (-1)) s.2 (by omega) g (by omega) _) ?_;exact hg) (fun g=>by
  unfold P.i_classes_b2;dsimp only;rw[if_neg (by simp)];rfl) (by omega)
 exact key
def P.i_oneClass (k:Nat) (x:List (List RB)×Unit):Option (Bool×Unit):=
 (S.i_classes (x.1,())).bind fun y0=>some ((y0.1.2.length:Int)==1,())
def S.i_oneClass (x:((List (List RB))×Unit)):(Option (Bool×Unit)):=P.i_oneClass 0 x
theorem S.i_oneClass_ok (x r) (h:S.i_oneClass x=some r):∃k,P.i_oneClass k x=some r:=⟨0,h⟩
def P.i_rat_mul (k:Nat) (x:RB×RB×Unit):Option (RB×Unit):=
 (S.i_rat_sign ((x.1.1,x.1.2.1,x.1.2.2),())).bind fun y0=>if y0.1==0 then(S.i_whole (0,())).bind fun y1=>some ((y1.1.1,y1.1.2.1,y1.1.2.2),())else(S.i_rat_sign ((x.2.1.1,x.2.1.2.1,x.2.1.2.2),())).bind fun y2=>if y2.1==0 then(S.i_whole (0,())).bind fun y3=>some ((y3.1.1,y3.1.2.1,y3.1.2.2),())else(S.i_lowest (false,x.1.2.1,x.2.1.2.2,())).bind fun y4=>(S.i_lowest (false,x.2.1.2.1,x.1.2.2,())).bind fun y5=>(S.i_nat_mul (y4.1.2.1,y5.1.2.1,())).bind fun y6=>(S.i_nat_mul (y4.1.2.2,y5.1.2.2,())).bind fun y7=>some ((! (x.1.1==x.2.1.1),y6.1,y7.1),())
theorem rm_mul (p q:Nat) (hp:(nd B32 p).length<=100000000) (hq:(nd B32 q).length<=100000000):S.i_nat_mul (nd B32 p,(nd B32 q,()))=some (nd B32 (p*q),()):=by
 unfold S.i_nat_mul;dsimp only;rw[if_pos ⟨dig_nd B32_le _,dig_nd B32_le _,by omega,by omega⟩,dval_nd B32_le,dval_nd B32_le]
theorem rm_low (n:Bool) (p q:Nat) (hp:(nd B32 p).length<=100000000) (hq:(nd B32 q).length<=100000000) (h0:q≠0):S.i_lowest (n,(nd B32 p,(nd B32 q,())))=some (rp B32 (lowN n p q),()):=by
 unfold S.i_lowest;dsimp only;rw[if_pos ⟨canon_nd B32_le _,canon_nd B32_le _,nd_ne B32_le h0,by omega,by omega⟩,dval_nd B32_le,dval_nd B32_le]
theorem rm_sign (n:Bool) (p:Nat) (bs:List Int):S.i_rat_sign ((n,(nd B32 p,bs)),())=some (sgnQ n p,()):=by
 unfold S.i_rat_sign;dsimp only;rw[if_pos (canon_nd B32_le _),dval_nd B32_le]
theorem rm_zero:S.i_whole (0,())=some (rp B32 (false,(0,1)),()):=by
 unfold S.i_whole;rfl
def S.i_rat_mul (x:(RB×(RB×Unit))):(Option (RB×Unit)):=if lowb B32 40000000 x.1=true/\lowb B32 40000000 x.2.1=true then some (rp B32 (mulQ (rv B32 x.1) (rv B32 x.2.1)),())else none
theorem S.i_rat_mul_ok (x r) (h:S.i_rat_mul x=some r):∃k,P.i_rat_mul k x=some r:=by
 obtain⟨x,y,u⟩:=x;unfold S.i_rat_mul at h;dsimp only at h;split at h
 case isFalse=>cases h
 rename_i hc;obtain⟨hx,hy⟩:=hc;cases h;rw[lowb_iff]at hx hy;obtain⟨hx,lx⟩:=hx;obtain⟨hy,ly⟩:=hy;obtain⟨n1,p1,q1,rfl,x1,x2⟩:=rok_nd hx;obtain⟨n2,p2,q2,rfl,y1,y2⟩:=rok_nd hy;rw[rv_nd B32_le]at lx ly ⊢;rw[rv_nd B32_le];have hq1:0<q1:=lx.1;have hq2:0<q2:=ly.1;refine⟨0,?_⟩;unfold P.i_rat_mul mulQ;dsimp only;rw[rm_sign,Option.bind_some,rm_zero,Option.bind_some];dsimp only
 by_cases h1:p1=0
 ·rw[if_pos (by simpa using sgnQ_zero.2 h1),h1,Nat.zero_mul,lowN_zero _ (Nat.mul_pos hq1 hq2)]
 ·rw[if_neg (by simpa using fun q=>h1 (sgnQ_zero.1 q)),rm_sign,Option.bind_some];dsimp only
  by_cases h2:p2=0
  ·rw[if_pos (by simpa using sgnQ_zero.2 h2),h2,Nat.mul_zero,lowN_zero _ (Nat.mul_pos hq1 hq2)]
  ·have d1:=nd_div_len B32_le p1 (Nat.gcd p1 q2);have d2:=nd_div_len B32_le p2 (Nat.gcd p2 q1);have d3:=nd_div_len B32_le q2 (Nat.gcd p1 q2);have d4:=nd_div_len B32_le q1 (Nat.gcd p2 q1);rw[if_neg (by simpa using fun q=>h2 (sgnQ_zero.1 q)),rm_low false p1 q2 (by omega) (by omega) (by omega),Option.bind_some,rm_low false p2 q1 (by omega) (by omega) (by omega),Option.bind_some,cross_mul _ (fun _=>⟨h1,h2⟩) hq1 hq2 lx.2.2 ly.2.2];unfold rp lowN;dsimp only;rw[rm_mul _ _ (by omega) (by omega),Option.bind_some,rm_mul _ _ (by omega) (by omega),Option.bind_some];rfl
def P.i_rat_over (k:Nat) (x:RB×RB×Unit):Option (RB×Unit):=
 (S.i_rat_mul ((x.1.1,x.1.2.1,x.1.2.2),(x.2.1.1,x.2.1.2.2,x.2.1.2.1),())).bind fun y0=>some ((y0.1.1,y0.1.2.1,y0.1.2.2),())
def S.i_rat_over (x:(RB×(RB×Unit))):(Option (RB×Unit)):=if lowb B32 40000000 x.1=true/\lowb B32 40000000 x.2.1=true/\(rv B32 x.2.1).2.1≠0 then some (rp B32 (overQ (rv B32 x.1) (rv B32 x.2.1)),())else none
theorem S.i_rat_over_ok (x r) (h:S.i_rat_over x=some r):∃k,P.i_rat_over k x=some r:=by
 obtain⟨x,y,u⟩:=x;unfold S.i_rat_over at h;dsimp only at h;split at h
 case isFalse=>cases h
 rename_i hc;obtain⟨hx,hy,h0⟩:=hc;cases h;have hy':=lowb_iff.1 hy;refine⟨0,?_⟩;have e2:S.i_rat_mul (x,((y.1,(y.2.2,y.2.1)),()))=some (rp B32 (overQ (rv B32 x) (rv B32 y)),()):=by
  unfold S.i_rat_mul;dsimp only;have hz:lowb B32 40000000 (y.1,(y.2.2,y.2.1))=true:=by
   rw[lowb_iff];obtain⟨r1,l1⟩:=hy';have r2:=rok_iff.1 r1;refine⟨rok_iff.2 ⟨r2.2.1,r2.1,r2.2.2.2,r2.2.2.1⟩,?_⟩;obtain⟨l1,l2,l3⟩:=l1;refine⟨Nat.pos_of_ne_zero h0,fun _=>Nat.ne_of_gt l1,?_⟩;rw[Nat.gcd_comm];exact l3
  rw[if_pos ⟨hx,hz⟩];rfl
 show Option.bind (S.i_rat_mul (x,((y.1,(y.2.2,y.2.1)),()))) (fun y0=>some (y0.1,()))=_;rw[e2,Option.bind_some]
theorem ri_over {x y:Q3} {m n:Nat} (hx:low x) (bx:below m x) (hy:low y) (bY:below n y) (h0:y.2.1≠0) (hm:m<=350000000) (hn:n<=350000000):S.i_rat_over (rp B32 x,(rp B32 y,()))=some (rp B32 (overQ x y),()):=by
 unfold S.i_rat_over;dsimp only;rw[if_pos ⟨lowb_rp9 (by decide) hx bx (by omega),lowb_rp9 (by decide) hy bY (by omega),by rw[rv_rp B32_le];exact h0⟩,rv_rp B32_le,rv_rp B32_le]
abbrev P.slices_Repeat__i_rat_i_rat_b1 (x2:(Int×((List RB)×Unit))) (g3:(Int×((List RB)×Unit))->Option ((List RB)×Unit)):Option ((List RB)×Unit):=
 (if((decide (x2.1<((List.length x2.2.1):Int)))=true)then(if((decide ((0:Int)<=((List.length x2.2.1):Int)))=true)then(if((decide ((((List.length x2.2.1):Int)+(0:Int))<=((List.length x2.2.1):Int)))=true)then(if((decide ((0:Int)<=x2.1))=true)then(if((decide (x2.1<=((List.length x2.2.1):Int)))=true)then(if((decide ((0:Int)<=x2.1))=true)then(if((decide ((x2.1+(0:Int))<=((List.length x2.2.1):Int)))=true)then(if((decide ((0:Int)<=x2.1))=true)then(g3 ((IntKind.wrap .i64 (x2.1+(((Min.min (List.length (seen x2.2.1 (0:Nat) ((Int.toNat x2.1) - (0:Nat)))) ((Int.toNat ((List.length x2.2.1):Int)) - (Int.toNat x2.1))):Nat):Int))),((splice x2.2.1 (List.take ((Int.toNat ((List.length x2.2.1):Int)) - (Int.toNat x2.1)) (seen x2.2.1 (0:Nat) ((Int.toNat x2.1) - (0:Nat)))) ((0:Nat)+(Int.toNat x2.1))),())))
 else none)
 else none)
 else none)
 else none)
 else none)
 else none)
 else none)
 else(some (x2.2.1,())))
def P.slices_Repeat__i_rat_i_rat (k:Nat) (x:((List RB)×(Int×Unit))):(Option ((List RB)×Unit)):=
 (if((decide (x.2.1<(0:Int)))=true)then none
 else(Option.bind (S.math_bits_Mul ((IntKind.wrap .u64 ((List.length x.1):Int)),((IntKind.wrap .u64 x.2.1),()))) (fun(y0:((Int×Int)×Unit))=>(if((decide (y0.1.1>(0:Int)))=true)then none
 else(if((decide (y0.1.2>(9223372036854775807:Int)))=true)then none
 else(if((decide ((0:Int)<=(IntKind.wrap .i64 y0.1.2)))=true)then(if((decide ((IntKind.wrap .i64 y0.1.2)<=(IntKind.wrap .i64 y0.1.2)))=true)then(if((decide (((IntKind.wrap .i64 y0.1.2)*(56:Int))<=(281474976710656:Int)))=true)then(loopP (X:=(Int×((List RB)×Unit))) (R:=((List RB)×Unit)) (P.slices_Repeat__i_rat_i_rat_b1) k ((((Min.min (List.length x.1) (List.length (List.replicate (Int.toNat (IntKind.wrap .i64 y0.1.2)) (false,(([]:List Int),([]:List Int)))))):Nat):Int),((splice (List.replicate (Int.toNat (IntKind.wrap .i64 y0.1.2)) (false,(([]:List Int),([]:List Int)))) (List.take (List.length (List.replicate (Int.toNat (IntKind.wrap .i64 y0.1.2)) (false,(([]:List Int),([]:List Int))))) x.1) (0:Nat)),())))
 else none)
 else none)
 else none))))))
def PP.slices_Repeat__i_rat_i_rat (k:Nat) (x:((List RB)×(Int×Unit))):(Option ((List RB)×Unit)):=
 (Decidable.rec (motive:=fun _=>(Option ((List RB)×Unit))) (fun _=>(Option.bind (S.math_bits_Mul ((IntKind.wrap .u64 ((List.length x.1):Int)),((IntKind.wrap .u64 x.2.1),()))) (fun(y0:((Int×Int)×Unit))=>(Decidable.rec (motive:=fun _=>(Option ((List RB)×Unit))) (fun _=>(Decidable.rec (motive:=fun _=>(Option ((List RB)×Unit))) (fun _=>(Decidable.rec (motive:=fun _=>(Option ((List RB)×Unit))) (fun _=>none) (fun _=>(Decidable.rec (motive:=fun _=>(Option ((List RB)×Unit))) (fun _=>none) (fun _=>(Decidable.rec (motive:=fun _=>(Option ((List RB)×Unit))) (fun _=>none) (fun _=>(loopP (X:=(Int×((List RB)×Unit))) (R:=((List RB)×Unit)) (P.slices_Repeat__i_rat_i_rat_b1) k ((((Min.min (List.length x.1) (List.length (List.replicate (Int.toNat (IntKind.wrap .i64 y0.1.2)) (false,(([]:List Int),([]:List Int)))))):Nat):Int),((splice (List.replicate (Int.toNat (IntKind.wrap .i64 y0.1.2)) (false,(([]:List Int),([]:List Int)))) (List.take (List.length (List.replicate (Int.toNat (IntKind.wrap .i64 y0.1.2)) (false,(([]:List Int),([]:List Int))))) x.1) (0:Nat)),())))) (instDecidableEqBool (decide (((IntKind.wrap .i64 y0.1.2)*(56:Int))<=(281474976710656:Int))) true))) (instDecidableEqBool (decide ((IntKind.wrap .i64 y0.1.2)<=(IntKind.wrap .i64 y0.1.2))) true))) (instDecidableEqBool (decide ((0:Int)<=(IntKind.wrap .i64 y0.1.2))) true))) (fun _=>none) (instDecidableEqBool (decide (y0.1.2>(9223372036854775807:Int))) true))) (fun _=>none) (instDecidableEqBool (decide (y0.1.1>(0:Int))) true))))) (fun _=>none) (instDecidableEqBool (decide (x.2.1<(0:Int))) true))
theorem PP.slices_Repeat__i_rat_i_rat_eq (k:Nat) (x:((List RB)×(Int×Unit))):PP.slices_Repeat__i_rat_i_rat k x=P.slices_Repeat__i_rat_i_rat k x:=rfl
theorem mul_one_bits:∀n:Fin 21,S.math_bits_Mul (1,((n.val:Int),()))=some ((0,(n.val:Int)),()):=by decide
def S.slices_Repeat__i_rat_i_rat (x:((List RB)×(Int×Unit))):(Option ((List RB)×Unit)):=if x.1.length=1/\0<=x.2.1/\x.2.1<=20 then some (List.replicate x.2.1.toNat (x.1.getD 0 (false,([],[]))),())else none
theorem S.slices_Repeat__i_rat_i_rat_ok (x r) (h:S.slices_Repeat__i_rat_i_rat x=some r):∃k,P.slices_Repeat__i_rat_i_rat k x=some r:=by
 obtain⟨xs,m,u⟩:=x;unfold S.slices_Repeat__i_rat_i_rat at h;dsimp only at h;split at h
 case isFalse=>cases h
 rename_i hc;cases h;obtain⟨hx,h1,h2⟩:=hc;obtain⟨a,rfl⟩:∃a,xs=[a]:=by
  match xs,hx with
  | [a],_=>exact⟨a,rfl⟩
 obtain⟨M,rfl⟩:∃M:Nat,m=(M:Int):=⟨m.toNat,by omega⟩
 rw[Int.toNat_natCast];refine⟨M+2,?_⟩;unfold P.slices_Repeat__i_rat_i_rat;dsimp only;have hmul:=mul_one_bits ⟨M,by omega⟩;dsimp only at hmul;have e0:IntKind.wrap .u64 (M:Int)=(M:Int):=IntWalk.u64_in _ (by omega);rw[if_neg (by simp),e0];show Option.bind (S.math_bits_Mul (1,((M:Int),()))) _=_;rw[hmul,Option.bind_some];dsimp only;rw[if_neg (show ¬((decide ((0:Int)>0))=true) by simp),if_neg (by simpa using(show ¬(M:Int)>9223372036854775807 by omega)),wr (by omega) (by omega),if_pos (decide_eq_true (show(0:Int)<=(M:Int) by omega)),if_pos (by simp),if_pos (decide_eq_true (show(M:Int)*56<=281474976710656 by omega)),Int.toNat_natCast];simp only[List.length_replicate,List.length_cons,List.length_nil,Nat.zero_add];have key:∀(d j k:Nat),j+d=M->1<=j->d<k->loopP P.slices_Repeat__i_rat_i_rat_b1 k ((j:Int),List.replicate j a++List.replicate d (false,(([]:List Int),([]:List Int))),())=some (List.replicate M a,()):=by
  intro d
  induction d using Nat.strongRecOn with
  |ind d ih=>
   intro j k hj h1 hk;cases k with
   |zero=>omega
   |succ k=>
    rw[loopP_succ];unfold P.slices_Repeat__i_rat_i_rat_b1;have hlen:(List.replicate j a++List.replicate d (false,(([]:List Int),([]:List Int)))).length=M:=by simp;omega
    dsimp only;rw[hlen]
    by_cases hd:d=0
    ·subst hd;rw[if_neg (by simpa using(show ¬(j:Int)<(M:Int) by omega))];rw[show j=M by omega];simp
    ·have c1:(j:Int)<(M:Int):=by omega
     have c2:(0:Int)<=(M:Int):=by omega
     have c3:(M:Int)+0<=(M:Int):=by omega
     have c4:(0:Int)<=(j:Int):=by omega
     have c5:(j:Int)<=(M:Int):=by omega
     have c6:(j:Int)+0<=(M:Int):=by omega
     simp only[c1,c2,c3,c4,c5,c6,decide_true,if_true];have hs:seen (List.replicate j a++List.replicate d (false,(([]:List Int),([]:List Int)))) 0 ((j:Int).toNat - 0)=List.replicate j a:=by
      unfold seen;rw[Int.toNat_natCast,Nat.sub_zero,List.drop_zero,List.take_left' (by simp)]
     rw[hs,List.length_replicate,Int.toNat_natCast,Int.toNat_natCast];have hsp:splice (List.replicate j a++List.replicate d (false,(([]:List Int),([]:List Int)))) (List.take (M - j) (List.replicate j a)) (0+j)=List.replicate (j+min j d) a++List.replicate (d - min j d) (false,(([]:List Int),([]:List Int))):=by
      unfold splice;rw[Nat.zero_add,List.take_left' (by simp),List.take_replicate,List.length_replicate,show M - j=d by omega,List.drop_append];simp only[List.length_replicate];rw[List.drop_of_length_le (by simp),List.nil_append,List.drop_replicate,<-List.replicate_append_replicate,show j+min d j - j=min d j by omega,Nat.min_comm d j]
     rw[hsp,show M - j=d by omega,wr (by omega) (by omega)];have:=ih (d - min j d) (by omega) (j+min j d) k (by omega) (by omega) (by omega);rw[<-this];congr 2
 match M,h2 with
 |0,_=>
  rfl
 |M+1,h2=>
  have:=key M 1 (M+1+2) (by omega) (by omega) (by omega);have a1:min 1 (M+1)=1:=by omega
  have a2:splice (List.replicate (M+1) (false,(([]:List Int),([]:List Int)))) (List.take (M+1) [a]) 0=List.replicate 1 a++List.replicate M (false,(([]:List Int),([]:List Int))):=by
   unfold splice;simp [List.replicate_succ]
  rw[a1,a2];exact this
abbrev i_zeros.A:=Option ((List (List RB×Nat)×Nat)×Unit)
abbrev P.i_zeros_b1 (x2:Int×Int×List (List RB×Nat)×Int×Unit) (g3:Int×Int×List (List RB×Nat)×Int×Unit->i_zeros.A):i_zeros.A:=
 if decide (x2.1<x2.2.1)then(S.i_whole (0,())).bind fun y4=>(S.slices_Repeat__i_rat_i_rat ([(y4.1.1,y4.1.2.1,y4.1.2.2)],x2.2.2.2.1,())).bind fun y5=>if decide (0<=x2.1)then if decide (x2.1<(List.length (hd0 x2.2.2.1):Int))then if dup (List.map (fun(y6:Nat×Nat)=>y6.1) (List.set (hd0 x2.2.2.1) (0+x2.1.toNat) (List.length (in0 x2.2.2.1),y5.1.length)))then none else g3 (wrap .i64 (x2.1+1),x2.2.1,nrm (List.set (hd0 x2.2.2.1) (0+x2.1.toNat) (List.length (in0 x2.2.2.1),y5.1.length)) ((in0 x2.2.2.1)++[y5.1]),x2.2.2.2.1,())else none else none else if dup (List.map (fun(y7:Nat×Nat)=>y7.1) (hd0 x2.2.2.1))then none else some ((nrm (hd0 x2.2.2.1) (in0 x2.2.2.1),List.length (hd0 x2.2.2.1)),())
def P.i_zeros (k:Nat) (x:Int×Unit):i_zeros.A:=
 if decide (0<=x.1)then if decide (x.1<=x.1)then if decide ((x.1*24)<=281474976710656)then if dup (List.map (fun(y0:Nat×Nat)=>y0.1) (hd0 (List.replicate x.1.toNat (([]:List RB),0))))then none else loopP P.i_zeros_b1 k (0,(List.length (hd0 (List.replicate x.1.toNat (([]:List RB),0))):Int),nrm (hd0 (List.replicate x.1.toNat (([]:List RB),0))) (in0 (List.replicate x.1.toNat (([]:List RB),0))),x.1,())else none else none else none
theorem zrow {n:Nat} (h:n<=12):S.slices_Repeat__i_rat_i_rat ([((rp B32 zeroQ).1,(rp B32 zeroQ).2.1,(rp B32 zeroQ).2.2)],(n:Int),())=some (List.replicate n (rp B32 zeroQ),()):=by
 unfold S.slices_Repeat__i_rat_i_rat;dsimp only;rw[if_pos ⟨rfl,by omega,by omega⟩,Int.toNat_natCast];rfl
def S.i_zeros (x:(Int×Unit)):(Option (((List ((List RB)×Nat))×Nat)×Unit)):=if 0<=x.1/\x.1<=12 then some ((List.replicate x.1.toNat (List.replicate x.1.toNat (rp B32 zeroQ),x.1.toNat),x.1.toNat),())else none
theorem S.i_zeros_ok (x r) (h:S.i_zeros x=some r):∃k,P.i_zeros k x=some r:=by
 obtain⟨n,u⟩:=x;unfold S.i_zeros at h;dsimp only at h;split at h
 case isFalse=>cases h
 rename_i hc;obtain⟨h0,h1⟩:=hc;cases h;obtain⟨n,rfl⟩:=Int.eq_ofNat_of_zero_le h0;rw[Int.toNat_natCast];have hn:n<=12:=by omega
 refine⟨n+1,?_⟩;unfold P.i_zeros;dsimp only;have e1:(n:Int)*24<=281474976710656:=by omega
 simp only[h0,e1,Int.le_refl,hd0_dup,nrm_hd0,hd0_length,List.length_replicate,Int.toNat_natCast,decide_true,if_true,Bool.false_eq_true,if_false];have hz:S.i_whole (0,())=some (rp B32 zeroQ,()):=by rfl
 have key:=loop_up0 (k:=n+1) (b:=P.i_zeros_b1) (n:=n) (st:=fun i=>((i:Int),(n:Int),List.replicate i (List.replicate n (rp B32 zeroQ),n)++List.replicate (n - i) ([],0),(n:Int),())) (F:=fun i=>some ((List.replicate n (List.replicate n (rp B32 zeroQ),n),n),())) (fun i g hi hg=>by
  unfold P.i_zeros_b1;dsimp only at hg ⊢;have hlen:(List.replicate i (List.replicate n (rp B32 zeroQ),n)++List.replicate (n - i) (([]:List RB),0)).length=n:=by simp;omega
  have e1:(i:Int)<(n:Int):=by omega
  have e2:(0:Int)<=(i:Int):=by omega
  simp only[e1,e2,hz,Option.bind_some,zrow hn,hd0_length,hlen,decide_true,if_true];simp only[hd0_dup_set,nrm_store,Bool.false_eq_true,if_false,List.length_replicate];rw[wr (by omega) (by omega),<-hg];congr 1;have e3:n - i=(n - (i+1))+1:=by omega
  have e4:(0+(i:Int).toNat)=(List.replicate i (List.replicate n (rp B32 zeroQ),n)).length:=by rw[List.length_replicate];omega
  rw[e3,e4,set_fill,List.replicate_succ'];rfl) (fun g=>by
  unfold P.i_zeros_b1;dsimp only;have e1:¬(n:Int)<(n:Int):=by omega
  simp only[e1,decide_false,hd0_dup,nrm_hd0,hd0_length,Bool.false_eq_true,if_false,Nat.sub_self,List.replicate_zero,List.append_nil,List.length_replicate]) (by omega)
 refine Eq.trans ?_ key;simp
abbrev P.i_setOf_b0 (x1:Int×Int×List Bool×List Int×Unit) (g2:Int×Int×List Bool×List Int×Unit->Option (List Int×Unit)):Option (List Int×Unit):=
 (fun(a b:Int) (c:List Bool) (d:List Int)=>if decide (a<b)then if decide (0<=a)then if decide (a<(c.length:Int))then if c.getD a.toNat false then if decide (((d.length+(List.length [a]))*8)<=140737488355328)then g2 (wrap .i64 (a+1),b,c,d++[a],())else none else g2 (wrap .i64 (a+1),b,c,d,())else none else none else some (d,())) x1.1 x1.2.1 x1.2.2.1 x1.2.2.2.1
def P.i_setOf (k:Nat) (x:List Bool×Unit):Option (List Int×Unit):=
 loopP P.i_setOf_b0 k (0,(x.1.length:Int),x.1,[],())
def S.i_setOf (x:((List Bool)×Unit)):(Option ((List Int)×Unit)):=if x.1.length<=1000000 then some (posF 0 x.1,())else none
theorem S.i_setOf_ok (x r) (h:S.i_setOf x=some r):∃k,P.i_setOf k x=some r:=by
 obtain⟨sn,u⟩:=x;unfold S.i_setOf at h;dsimp only at h;split at h
 case isFalse=>cases h
 rename_i hc;cases h;refine⟨sn.length+1,?_⟩;unfold P.i_setOf;dsimp only;have key:=loop_up0 (k:=sn.length+1) (b:=P.i_setOf_b0) (n:=sn.length) (st:=fun i=>((i:Int),(sn.length:Int),sn,posF 0 (sn.take i),())) (F:=fun i=>some (posF 0 sn,())) (fun i g hi hg=>by
  unfold P.i_setOf_b0;dsimp only at hg ⊢;have e1:(i:Int)<(sn.length:Int):=by omega
  have e2:(0:Int)<=(i:Int):=by omega
  have e3:=posF_len 0 (sn.take i);rw[List.length_take]at e3;have e4:((posF 0 (sn.take i)).length+1)*8<=140737488355328:=by omega
  simp only[e1,e2,decide_true,if_true,List.length_cons,List.length_nil,Nat.zero_add,e4];rw[getD_cast sn i _ hi,wr (by omega) (by omega)];rw[<-List.take_append_getElem hi,posF_snoc]at hg;cases hb:sn[i]
  ·rw[hb,if_neg (by decide),List.append_nil]at hg;rw[if_neg (by decide)];exact hg
  ·rw[hb,if_pos rfl]at hg;rw[if_pos rfl,<-hg];congr 1;simp;omega) (fun g=>by
  unfold P.i_setOf_b0;dsimp only;rw[if_neg (by simp),List.take_length]) (by omega)
 exact key
abbrev P.i_scaled_b0 (x1:Int×Int×List RB×List RB×RB×Unit) (g2:Int×Int×List RB×List RB×RB×Unit->Option (List RB×Unit)):Option (List RB×Unit):=
 (fun(a b:Int) (c d:List RB) (e:RB)=>if decide (a<b)then if decide (0<=a)then if decide (a<(c.length:Int))then(S.i_rat_over (((c.getD a.toNat (false,[],[])).1,(c.getD a.toNat (false,[],[])).2.1,(c.getD a.toNat (false,[],[])).2.2),(e.1,e.2.1,e.2.2),())).bind fun y3=>if decide (((d.length+(List.length [(y3.1.1,y3.1.2.1,y3.1.2.2)]))*56)<=140737488355328)then g2 (wrap .i64 (a+1),b,c,d++[(y3.1.1,y3.1.2.1,y3.1.2.2)],(e.1,e.2.1,e.2.2),())else none else none else none else some (d,())) x1.1 x1.2.1 x1.2.2.1 x1.2.2.2.1 x1.2.2.2.2.1
def P.i_scaled (k:Nat) (x:List RB×RB×Unit):Option (List RB×Unit):=
 loopP P.i_scaled_b0 k (0,(x.1.length:Int),x.1,[],(x.2.1.1,x.2.1.2.1,x.2.1.2.2),())
def normQ (qs:List Q3) (q:Q3):List Q3:=qs.map fun r=>overQ r q
theorem over_i {x y:Q3} (hx:low x) (bx:below 350000000 x) (hy:low y) (bY:below 350000000 y) (h0:y.2.1≠0):S.i_rat_over (((rp B32 x).1,(rp B32 x).2.1,(rp B32 x).2.2),((rp B32 y).1,(rp B32 y).2.1,(rp B32 y).2.2),())=some (rp B32 (overQ x y),()):=ri_over hx bx hy bY h0 (Nat.le_refl _) (Nat.le_refl _)
open Classical in
def S.i_scaled (x:((List RB)×(RB×Unit))):(Option ((List RB)×Unit)):=if ∃(qs:List Q3) (q:Q3),x.1=qs.map (rp B32)/\x.2.1=rp B32 q/\qs.length<=1000000/\(∀r∈qs,low r/\below 350000000 r)/\low q/\below 350000000 q/\q.2.1≠0 then some ((normQ (x.1.map (rv B32)) (rv B32 x.2.1)).map (rp B32),())else none
theorem S.i_scaled_ok (x r) (h:S.i_scaled x=some r):∃k,P.i_scaled k x=some r:=by
 obtain⟨xs,y,u⟩:=x;unfold S.i_scaled at h;dsimp only at h;split at h
 case isFalse=>cases h
 rename_i hc;obtain⟨qs,q,rfl,rfl,hl,hq,h1,h2,h3⟩:=hc;cases h;rw[map_rv B32_le,rv_rp B32_le];refine⟨qs.length+1,?_⟩;unfold P.i_scaled;dsimp only;rw[List.length_map];have key:=loop_up0 (k:=qs.length+1) (b:=P.i_scaled_b0) (n:=qs.length) (st:=fun i=>((i:Int),(qs.length:Int),qs.map (rp B32),(normQ (qs.take i) q).map (rp B32),rp B32 q,())) (F:=fun _=>some ((normQ qs q).map (rp B32),())) (fun i g hi hg=>by
  unfold P.i_scaled_b0;dsimp only at hg ⊢;have e1:(i:Int)<(qs.length:Int):=by omega
  have e2:(0:Int)<=(i:Int):=by omega
  have e3:(i+1)*56<=140737488355328:=by omega
  have e4:((normQ (qs.take i) q).map (rp B32)).length=i:=by
   unfold normQ;simp;omega
  simp only[e1,e2,e4,List.length_map,decide_true,if_true];rw[getD_cast (qs.map (rp B32)) i _ (by rw[List.length_map];exact hi),List.getElem_map,over_i (hq _ (List.getElem_mem hi)).1 (hq _ (List.getElem_mem hi)).2 h1 h2 h3,Option.bind_some];simp only[List.length_cons,List.length_nil,Nat.zero_add,e3,decide_true,if_true];rw[wr (by omega) (by omega),<-hg];have e5:(normQ (qs.take (i+1)) q).map (rp B32)=(normQ (qs.take i) q).map (rp B32)++[rp B32 (overQ qs[i] q)]:=by
   unfold normQ;rw[<-List.take_append_getElem hi,List.map_append,List.map_append];rfl
  rw[e5];rfl) (fun g=>by
  unfold P.i_scaled_b0;dsimp only;rw[if_neg (by simp),List.take_length]) (by omega)
 exact key
abbrev P.i_summ_b1 (x2:Int×Int×List RB×RB×RB×Unit) (g3:Int×Int×List RB×RB×RB×Unit->Option (RB×List RB×Unit)):Option (RB×List RB×Unit):=
 (fun(a b:Int) (c:List RB) (d e:RB)=>if decide (a<b)then if decide (0<=a)then if decide (a<(c.length:Int))then(S.i_rat_add ((d.1,d.2.1,d.2.2),((c.getD (0+a.toNat) (false,[],[])).1,(c.getD (0+a.toNat) (false,[],[])).2.1,(c.getD (0+a.toNat) (false,[],[])).2.2),())).bind fun y4=>g3 (wrap .i64 (a+1),b,c,(y4.1.1,y4.1.2.1,y4.1.2.2),(e.1,e.2.1,e.2.2),())else none else none else some ((d.1,d.2.1,d.2.2),c,())) x2.1 x2.2.1 x2.2.2.1 x2.2.2.2.1 x2.2.2.2.2.1
def P.i_summ (k:Nat) (x:List RB×Unit):Option (RB×List RB×Unit):=
 (S.i_whole (0,())).bind fun y0=>loopP P.i_summ_b1 k (0,(x.1.length:Int),x.1,(y0.1.1,y0.1.2.1,y0.1.2.2),(false,[],[]),())
open Classical in
def S.i_summ (x:((List RB)×Unit)):(Option (RB×((List RB)×Unit))):=if goodS B32 x.1 then some (rp B32 (sumQ (x.1.map (rv B32))),(x.1,()))else none
theorem i_summ_add (a b:Q3) (ha:lowb B32 40000000 (rp B32 a)=true) (hb:lowb B32 40000000 (rp B32 b)=true):S.i_rat_add (rp B32 a,(rp B32 b,()))=some (rp B32 (addQ a b),()):=by
 unfold S.i_rat_add;dsimp only;rw[if_pos ⟨ha,hb⟩,rv_rp B32_le,rv_rp B32_le]
theorem S.i_summ_ok (x r) (h:S.i_summ x=some r):∃k,P.i_summ k x=some r:=by
 obtain⟨xs,u⟩:=x;unfold S.i_summ at h;dsimp only at h;split at h
 case isFalse=>cases h
 rename_i hc;obtain⟨qs,rfl,hlen,hq,hg⟩:=hc;cases h;refine⟨qs.length+1,?_⟩;unfold P.i_summ;have hz:S.i_whole (0,())=some (rp B32 zeroQ,()):=by rfl
 dsimp only;rw[hz,Option.bind_some,map_rv B32_le,List.length_map];have key:=loop_up0 (k:=qs.length+1) (b:=P.i_summ_b1) (n:=qs.length) (st:=fun i=>((i:Int),(qs.length:Int),qs.map (rp B32),rp B32 (sumQ (qs.take i)),(false,(([]:List Int),([]:List Int))),())) (F:=fun i=>some (rp B32 (sumQ qs),(qs.map (rp B32),()))) (fun i g hi hg'=>by
  unfold P.i_summ_b1;dsimp only at hg' ⊢;have e1:(i:Int)<(qs.length:Int):=by omega
  have e2:(0:Int)<=(i:Int):=by omega
  have e3:(i:Int)<((qs.map (rp B32)).length:Int):=by rw[List.length_map];omega
  rw[if_pos (decide_eq_true e1),if_pos (decide_eq_true e2),if_pos (decide_eq_true e3),Nat.zero_add,getD_cast (qs.map (rp B32)) i _ (by rw[List.length_map];exact hi),List.getElem_map];have ea:=i_summ_add (sumQ (qs.take i)) qs[i] (lowb_rp9 (by decide) (hg i).1 (hg i).2 (by decide)) (lowb_rp9 (by decide) (hq _ (List.getElem_mem hi)).1 (hq _ (List.getElem_mem hi)).2 (by decide));rw[sumQ_take hi]at ea;show Option.bind (S.i_rat_add (rp B32 (sumQ (qs.take i)),(rp B32 qs[i],()))) _=_;rw[ea,Option.bind_some,wr (by omega) (by omega)];exact hg') (fun g=>by
  unfold P.i_summ_b1;dsimp only;rw[if_neg (by simp),List.take_length]) (by omega)
 exact key
abbrev i_restOf.A:=Int×Int×List (List RB×Nat)×Int×Int×Int×Int×RB×Unit
abbrev i_restOf.B:=Int×Int×RB×List RB×List (List RB×Nat)×Int×Unit
abbrev i_restOf.C:=Int×Int×List (List RB×Nat)×Int×RB×Unit
abbrev i_restOf.D:=Option (List RB×List (List RB×Nat)×Unit)
abbrev i_restOf.E:=Int×List (List RB×Nat)×List RB×Unit
abbrev P.i_restOf_b13 (g8:i_restOf.C->i_restOf.D) (x14:i_restOf.A) (g15:i_restOf.A->i_restOf.D):i_restOf.D:=
 (fun(a b d e f h:Int) (c:List (List RB×Nat)) (i:RB)=>if decide (a<b)then if decide (0<=d)then if decide (d<(List.length (hd0 c):Int))then if decide (0<=d)then if decide (d<(List.length (hd0 c):Int))then if decide (0<=a)then if decide (a<(((List.getD (hd0 c) (0+d.toNat) (0,0)).2:Nat):Int))then if decide (0<=d)then if decide (d<(List.length (hd0 c):Int))then if decide (0<=e)then if decide (e<(((List.getD (hd0 c) (0+d.toNat) (0,0)).2:Nat):Int))then if decide (0<=e)then if decide (e<(List.length (hd0 c):Int))then if decide (0<=a)then if decide (a<(((List.getD (hd0 c) (0+e.toNat) (0,0)).2:Nat):Int))then(S.i_rat_mul (((List.getD (List.getD (in0 c) (List.getD (hd0 c) (0+d.toNat) (0,0)).1 []) (0+e.toNat) (false,[],[])).1,(List.getD (List.getD (in0 c) (List.getD (hd0 c) (0+d.toNat) (0,0)).1 []) (0+e.toNat) (false,[],[])).2.1,(List.getD (List.getD (in0 c) (List.getD (hd0 c) (0+d.toNat) (0,0)).1 []) (0+e.toNat) (false,[],[])).2.2),((List.getD (List.getD (in0 c) (List.getD (hd0 c) (0+e.toNat) (0,0)).1 []) (0+a.toNat) (false,[],[])).1,(List.getD (List.getD (in0 c) (List.getD (hd0 c) (0+e.toNat) (0,0)).1 []) (0+a.toNat) (false,[],[])).2.1,(List.getD (List.getD (in0 c) (List.getD (hd0 c) (0+e.toNat) (0,0)).1 []) (0+a.toNat) (false,[],[])).2.2),())).bind fun y16=>(S.i_rat_add (((List.getD (List.getD (in0 c) (List.getD (hd0 c) (0+d.toNat) (0,0)).1 []) (0+a.toNat) (false,[],[])).1,(List.getD (List.getD (in0 c) (List.getD (hd0 c) (0+d.toNat) (0,0)).1 []) (0+a.toNat) (false,[],[])).2.1,(List.getD (List.getD (in0 c) (List.getD (hd0 c) (0+d.toNat) (0,0)).1 []) (0+a.toNat) (false,[],[])).2.2),(y16.1.1,y16.1.2.1,y16.1.2.2),())).bind fun y17=>if decide (0<=a)then if decide (a<(((List.getD (hd0 c) (0+d.toNat) (0,0)).2:Nat):Int))then if dup (List.map (fun(y18:Nat×Nat)=>y18.1) (hd0 c))then none else g15 (wrap .i64 (a+1),b,nrm (hd0 c) (List.set (in0 c) (List.getD (hd0 c) (0+d.toNat) (0,0)).1 (List.set (List.getD (in0 c) (List.getD (hd0 c) (0+d.toNat) (0,0)).1 []) (0+a.toNat) (y17.1.1,y17.1.2.1,y17.1.2.2))),d,e,f,h,(i.1,i.2.1,i.2.2),())else none else none else none else none else none else none else none else none else none else none else none else none else none else none else none else none else if dup (List.map (fun(y19:Nat×Nat)=>y19.1) (hd0 c))then none else g8 (wrap .i64 (f+1),h,nrm (hd0 c) (in0 c),e,(i.1,i.2.1,i.2.2),())) x14.1 x14.2.1 x14.2.2.2.1 x14.2.2.2.2.1 x14.2.2.2.2.2.1 x14.2.2.2.2.2.2.1 x14.2.2.1 x14.2.2.2.2.2.2.2.1
abbrev P.i_restOf_b6 (k:Nat) (g3:Int×List (List RB×Nat)×Unit->i_restOf.D) (x7:i_restOf.C) (g8:i_restOf.C->i_restOf.D):i_restOf.D:=
 (fun(a b d:Int) (c:List (List RB×Nat)) (e:RB)=>if decide (a<b)then if decide (0<=a)then if decide (a<(List.length (hd0 c):Int))then if decide (0<=a)then if decide (a<(List.length (hd0 c):Int))then if decide (0<=d)then if decide (d<(((List.getD (hd0 c) (0+a.toNat) (0,0)).2:Nat):Int))then(S.i_rat_over (((List.getD (List.getD (in0 c) (List.getD (hd0 c) (0+a.toNat) (0,0)).1 []) (0+d.toNat) (false,[],[])).1,(List.getD (List.getD (in0 c) (List.getD (hd0 c) (0+a.toNat) (0,0)).1 []) (0+d.toNat) (false,[],[])).2.1,(List.getD (List.getD (in0 c) (List.getD (hd0 c) (0+a.toNat) (0,0)).1 []) (0+d.toNat) (false,[],[])).2.2),(e.1,e.2.1,e.2.2),())).bind fun y9=>if decide (0<=d)then if decide (d<(((List.getD (hd0 c) (0+a.toNat) (0,0)).2:Nat):Int))then if decide (0<=a)then if decide (a<(List.length (hd0 c):Int))then if decide (0<=d)then if decide (d<(((List.getD (hd0 c) (0+a.toNat) (0,0)).2:Nat):Int))then(S.i_rat_sign (((List.getD (List.getD (List.set (in0 c) (List.getD (hd0 c) (0+a.toNat) (0,0)).1 (List.set (List.getD (in0 c) (List.getD (hd0 c) (0+a.toNat) (0,0)).1 []) (0+d.toNat) (y9.1.1,y9.1.2.1,y9.1.2.2))) (List.getD (hd0 c) (0+a.toNat) (0,0)).1 []) (0+d.toNat) (false,[],[])).1,(List.getD (List.getD (List.set (in0 c) (List.getD (hd0 c) (0+a.toNat) (0,0)).1 (List.set (List.getD (in0 c) (List.getD (hd0 c) (0+a.toNat) (0,0)).1 []) (0+d.toNat) (y9.1.1,y9.1.2.1,y9.1.2.2))) (List.getD (hd0 c) (0+a.toNat) (0,0)).1 []) (0+d.toNat) (false,[],[])).2.1,(List.getD (List.getD (List.set (in0 c) (List.getD (hd0 c) (0+a.toNat) (0,0)).1 (List.set (List.getD (in0 c) (List.getD (hd0 c) (0+a.toNat) (0,0)).1 []) (0+d.toNat) (y9.1.1,y9.1.2.1,y9.1.2.2))) (List.getD (hd0 c) (0+a.toNat) (0,0)).1 []) (0+d.toNat) (false,[],[])).2.2),())).bind fun y10=>if y10.1==0 then if dup (List.map (fun(y11:Nat×Nat)=>y11.1) (hd0 c))then none else g8 (wrap .i64 (a+1),b,nrm (hd0 c) (List.set (in0 c) (List.getD (hd0 c) (0+a.toNat) (0,0)).1 (List.set (List.getD (in0 c) (List.getD (hd0 c) (0+a.toNat) (0,0)).1 []) (0+d.toNat) (y9.1.1,y9.1.2.1,y9.1.2.2))),d,(e.1,e.2.1,e.2.2),())else if dup (List.map (fun(y12:Nat×Nat)=>y12.1) (hd0 c))then none else loopP (P.i_restOf_b13 g8) k (0,d,nrm (hd0 c) (List.set (in0 c) (List.getD (hd0 c) (0+a.toNat) (0,0)).1 (List.set (List.getD (in0 c) (List.getD (hd0 c) (0+a.toNat) (0,0)).1 []) (0+d.toNat) (y9.1.1,y9.1.2.1,y9.1.2.2))),a,d,a,b,(e.1,e.2.1,e.2.2),())else none else none else none else none else none else none else none else none else none else none else none else none else if dup (List.map (fun(y20:Nat×Nat)=>y20.1) (hd0 c))then none else g3 (wrap .i64 (d - 1),nrm (hd0 c) (in0 c),())) x7.1 x7.2.1 x7.2.2.2.1 x7.2.2.1 x7.2.2.2.2.1
abbrev P.i_restOf_b28 (g25:i_restOf.E->i_restOf.D) (x29:i_restOf.B) (g30:i_restOf.B->i_restOf.D):i_restOf.D:=
 (fun(a b f:Int) (c:RB) (d:List RB) (e:List (List RB×Nat))=>if decide (a<b)then if decide (0<=a)then if decide (a<(d.length:Int))then if decide (0<=a)then if decide (a<(List.length (hd0 e):Int))then if decide (0<=f)then if decide (f<(((List.getD (hd0 e) (0+a.toNat) (0,0)).2:Nat):Int))then(S.i_rat_mul (((d.getD (0+a.toNat) (false,[],[])).1,(d.getD (0+a.toNat) (false,[],[])).2.1,(d.getD (0+a.toNat) (false,[],[])).2.2),((List.getD (List.getD (in0 e) (List.getD (hd0 e) (0+a.toNat) (0,0)).1 []) (0+f.toNat) (false,[],[])).1,(List.getD (List.getD (in0 e) (List.getD (hd0 e) (0+a.toNat) (0,0)).1 []) (0+f.toNat) (false,[],[])).2.1,(List.getD (List.getD (in0 e) (List.getD (hd0 e) (0+a.toNat) (0,0)).1 []) (0+f.toNat) (false,[],[])).2.2),())).bind fun y31=>(S.i_rat_add ((c.1,c.2.1,c.2.2),(y31.1.1,y31.1.2.1,y31.1.2.2),())).bind fun y32=>if dup (List.map (fun(y33:Nat×Nat)=>y33.1) (hd0 e))then none else g30 (wrap .i64 (a+1),b,(y32.1.1,y32.1.2.1,y32.1.2.2),d,nrm (hd0 e) (in0 e),f,())else none else none else none else none else none else none else if decide (((d.length+(List.length [(c.1,c.2.1,c.2.2)]))*56)<=140737488355328)then if dup (List.map (fun(y34:Nat×Nat)=>y34.1) (hd0 e))then none else g25 (wrap .i64 (f+1),nrm (hd0 e) (in0 e),d++[(c.1,c.2.1,c.2.2)],())else none) x29.1 x29.2.1 x29.2.2.2.2.2.1 x29.2.2.1 x29.2.2.2.1 x29.2.2.2.2.1
abbrev P.i_restOf_b23 (k:Nat) (x24:i_restOf.E) (g25:i_restOf.E->i_restOf.D):i_restOf.D:=
 if decide (x24.1<(List.length (hd0 x24.2.1):Int))then(S.i_whole (0,())).bind fun y26=>if dup (List.map (fun(y27:Nat×Nat)=>y27.1) (hd0 x24.2.1))then none else loopP (P.i_restOf_b28 g25) k (0,x24.1,(y26.1.1,y26.1.2.1,y26.1.2.2),x24.2.2.1,nrm (hd0 x24.2.1) (in0 x24.2.1),x24.1,())else(S.i_summ (x24.2.2.1,())).bind fun y35=>(S.i_scaled (splice x24.2.2.1 y35.2.1 0,(y35.1.1,y35.1.2.1,y35.1.2.2),())).bind fun y36=>if dup (List.map (fun(y37:Nat×Nat)=>y37.1) (hd0 x24.2.1))then none else some (y36.1,nrm (hd0 x24.2.1) (in0 x24.2.1),())
abbrev P.i_restOf_b1 (k:Nat) (x2:Int×List (List RB×Nat)×Unit) (g3:Int×List (List RB×Nat)×Unit->i_restOf.D):i_restOf.D:=
 (fun(a:Int) (b:List (List RB×Nat))=>if decide (a>0)then if decide (0<=a)then if decide (a<(List.length (hd0 b):Int))then if decide (0<=a)then if decide ((a+((0:Nat):Int))<=(List.length (List.getD (in0 b) (List.getD (hd0 b) (0+a.toNat) (0,0)).1 []):Int))then if decide (0<=a)then(S.i_summ (seen (List.getD (in0 b) (List.getD (hd0 b) (0+a.toNat) (0,0)).1 []) (0+0) (a.toNat - 0),())).bind fun y4=>if dup (List.map (fun(y5:Nat×Nat)=>y5.1) (hd0 b))then none else loopP (P.i_restOf_b6 k g3) k (0,a,nrm (hd0 b) (List.set (in0 b) (List.getD (hd0 b) (0+a.toNat) (0,0)).1 (splice (List.getD (in0 b) (List.getD (hd0 b) (0+a.toNat) (0,0)).1 []) y4.2.1 (0+0))),a,(y4.1.1,y4.1.2.1,y4.1.2.2),())else none else none else none else none else none else(S.i_whole (1,())).bind fun y21=>if dup (List.map (fun(y22:Nat×Nat)=>y22.1) (hd0 b))then none else loopP (P.i_restOf_b23 k) k (1,nrm (hd0 b) (in0 b),[(y21.1.1,y21.1.2.1,y21.1.2.2)],())) x2.1 x2.2.1
def P.i_restOf (k:Nat) (x:List (List RB×Nat)×Unit):i_restOf.D:=
 if dup (List.map (fun(y0:Nat×Nat)=>y0.1) (hd0 x.1))then none else loopP (P.i_restOf_b1 k) k (wrap .i64 ((List.length (hd0 x.1):Int) - 1),nrm (hd0 x.1) (in0 x.1),())
theorem okq_lowb {q:Q3} (h:okq q):lowb B32 40000000 (rp B32 q)=true:=lowb_rp9 (by decide) h.1 h.2 (by decide)
def midM (a:Nat->Nat->Q3) (k i j:Nat):Nat->Nat->Q3:=fun x y=>if x<i\/(x=i/\(y=k\/y<j))then gS a k x y else a x y
theorem mulo_i {a b:Q3} (ha:okq a) (hb:okq b):S.i_rat_mul (((rp B32 a).1,(rp B32 a).2.1,(rp B32 a).2.2),((rp B32 b).1,(rp B32 b).2.1,(rp B32 b).2.2),())=some (rp B32 (mulQ a b),()):=by
 show S.i_rat_mul (rp B32 a,rp B32 b,())=_;unfold S.i_rat_mul;dsimp only;rw[if_pos ⟨okq_lowb ha,okq_lowb hb⟩,rv_rp B32_le,rv_rp B32_le]
theorem addo_i {a b:Q3} (ha:okq a) (hb:okq b):S.i_rat_add (((rp B32 a).1,(rp B32 a).2.1,(rp B32 a).2.2),((rp B32 b).1,(rp B32 b).2.1,(rp B32 b).2.2),())=some (rp B32 (addQ a b),()):=by
 show S.i_rat_add (rp B32 a,rp B32 b,())=_;unfold S.i_rat_add;dsimp only;rw[if_pos ⟨okq_lowb ha,okq_lowb hb⟩,rv_rp B32_le,rv_rp B32_le]
theorem overo_i {a b:Q3} (ha:okq a) (hb:okq b) (h0:b.2.1≠0):S.i_rat_over (((rp B32 a).1,(rp B32 a).2.1,(rp B32 a).2.2),((rp B32 b).1,(rp B32 b).2.1,(rp B32 b).2.2),())=some (rp B32 (overQ a b),()):=by
 show S.i_rat_over (rp B32 a,rp B32 b,())=_;unfold S.i_rat_over;dsimp only;rw[if_pos ⟨okq_lowb ha,okq_lowb hb,by rw[rv_rp B32_le];exact h0⟩,rv_rp B32_le,rv_rp B32_le]
theorem iro_inner {a:Nat->Nat->Q3} {n k:Nat} (h:rOk a n k) {i:Nat} (hi:i<k) (hf:(overQ (a i k) (outQ a k)).2.1≠0) (out:Bool×(List Int×List Int)) (g) {K:Nat} (hK:n<K):
  loopP (P.i_restOf_b13 g) K ((0:Int),(k:Int),om B32 n n (midM a k i 0),(i:Int),(k:Int),(i:Int),(k:Int),out,())=g (((i+1:Nat):Int),(k:Int),om B32 n n (midM a k i k),(k:Int),out,()):=by
 obtain⟨kn,n12,hnum,hF,hO,hP,hM⟩:=h;have key:=loop_up0 (k:=K) (b:=P.i_restOf_b13 g) (n:=k) (st:=fun j=>((j:Int),(k:Int),om B32 n n (midM a k i j),(i:Int),(k:Int),(i:Int),(k:Int),out,())) (F:=fun _=>g (((i+1:Nat):Int),(k:Int),om B32 n n (midM a k i k),(k:Int),out,())) (fun j g' hj hg=>by
  unfold P.i_restOf_b13;dsimp only at hg ⊢;have e1:(j:Int)<(k:Int):=by omega
  have e2:(0:Int)<=(j:Int):=by omega
  have e3:(0:Int)<=(i:Int):=by omega
  have e4:(i:Int)<(n:Int):=by omega
  have e5:(0:Int)<=(k:Int):=by omega
  have e6:(k:Int)<(n:Int):=by omega
  have e7:(j:Int)<(n:Int):=by omega
  have v1:midM a k i j i k=overQ (a i k) (outQ a k):=by
   unfold midM gS;rw[if_pos (Or.inr ⟨rfl,Or.inl rfl⟩),if_pos hi,if_pos rfl]
  have v2:midM a k i j k j=a k j:=by
   unfold midM;rw[if_neg (by omega)]
  have v3:midM a k i j i j=a i j:=by
   unfold midM;rw[if_neg (by omega)]
  have v4:gS a k i j=addQ (a i j) (mulQ (overQ (a i k) (outQ a k)) (a k j)):=by
   unfold gS;rw[if_pos hi,if_neg (by omega),if_pos ⟨hj,hf⟩]
  have v5:updM (midM a k i j) i j (addQ (a i j) (mulQ (overQ (a i k) (outQ a k)) (a k j)))=midM a k i (j+1):=by
   funext x y;unfold updM
   by_cases q:x=i/\y=j
   ·rw[if_pos q,q.1,q.2];unfold midM;rw[if_pos (Or.inr ⟨rfl,Or.inr (by omega)⟩),v4]
   ·rw[if_neg q];unfold midM
    by_cases w:x<i\/(x=i/\(y=k\/y<j))
    ·rw[if_pos w,if_pos (by omega)]
    ·rw[if_neg w,if_neg (by omega)]
  simp only[hd0_length,om_len,Int.toNat_natCast,Nat.zero_add,om_hd (show i<n by omega),om_hd kn,om_in (show i<n by omega),om_in kn,om_num kn,om_num (show j<n by omega),hd0_dup,e1,e2,e3,e4,e5,e6,e7,decide_true,if_true,Bool.false_eq_true,if_false,v1,v2,v3];rw[mulo_i (hF i hi) (hnum k (Nat.le_refl _) j (by omega)),Option.bind_some];dsimp only;rw[addo_i (hnum i (by omega) j (by omega)) (hM i hi j hj),Option.bind_some];dsimp only;rw[wr (by omega) (by omega),show((rp B32 (addQ (a i j) (mulQ (overQ (a i k) (outQ a k)) (a k j)))).1,(rp B32 (addQ (a i j) (mulQ (overQ (a i k) (outQ a k)) (a k j)))).2.1,(rp B32 (addQ (a i j) (mulQ (overQ (a i k) (outQ a k)) (a k j)))).2.2)=rp B32 (addQ (a i j) (mulQ (overQ (a i k) (outQ a k)) (a k j)))from rfl,om_write (show i<n by omega),v5];exact hg) (fun g'=>by
  unfold P.i_restOf_b13;dsimp only;rw[if_neg (by simp),hd0_dup,nrm_hd0,wr (by omega) (by omega)];rfl) (by omega)
 exact key
theorem signo_rp (q:Q3):S.i_rat_sign (((rp B32 q).1,(rp B32 q).2.1,(rp B32 q).2.2),())=some (sgnQ q.1 q.2.1,()):=by
 unfold S.i_rat_sign rp;dsimp only;rw[if_pos (canon_nd (by decide) _),dval_nd (by decide)]
def rowsM (a:Nat->Nat->Q3) (k i:Nat):Nat->Nat->Q3:=fun x y=>if x<i then gS a k x y else a x y
theorem set_at {α:Type} {xs:List α} {i:Nat} (h:i<xs.length) (v d:α):(xs.set i v).getD i d=v:=by
 rw[List.getD_eq_getElem?_getD,List.getElem?_eq_getElem (by rw[List.length_set];exact h)];simp
theorem iro_mid {a:Nat->Nat->Q3} {n k:Nat} (h:rOk a n k) (g) {K:Nat} (hK:n<K):
  loopP (P.i_restOf_b6 K g) K ((0:Int),(k:Int),om B32 n n (rowsM a k 0),(k:Int),rp B32 (outQ a k),())=g ((k:Int) - 1,om B32 n n (gS a k),()):=by
 have h':=h;obtain⟨kn,n12,hnum,hF,hO,hP,hM⟩:=h;have key:=loop_up0 (k:=K) (b:=P.i_restOf_b6 K g) (n:=k) (st:=fun i=>((i:Int),(k:Int),om B32 n n (rowsM a k i),(k:Int),rp B32 (outQ a k),())) (F:=fun _=>g ((k:Int) - 1,om B32 n n (gS a k),())) (fun i g' hi hg=>by
  unfold P.i_restOf_b6;dsimp only at hg ⊢;have e1:(i:Int)<(k:Int):=by omega
  have e3:(0:Int)<=(i:Int):=by omega
  have e4:(i:Int)<(n:Int):=by omega
  have e5:(0:Int)<=(k:Int):=by omega
  have e6:(k:Int)<(n:Int):=by omega
  have v1:rowsM a k i i k=a i k:=by
   unfold rowsM;rw[if_neg (by omega)]
  have v5:updM (rowsM a k i) i k (overQ (a i k) (outQ a k))=midM a k i 0:=by
   funext x y;unfold updM
   by_cases q:x=i/\y=k
   ·rw[if_pos q,q.1,q.2];unfold midM gS;rw[if_pos (Or.inr ⟨rfl,Or.inl rfl⟩),if_pos hi,if_pos rfl]
   ·rw[if_neg q];unfold midM rowsM
    by_cases w:x<i
    ·rw[if_pos w,if_pos (Or.inl w)]
    ·rw[if_neg w,if_neg (by omega)]
  simp only[hd0_length,om_len,Int.toNat_natCast,Nat.zero_add,om_hd (show i<n by omega),om_in (show i<n by omega),om_num kn,hd0_dup,e1,e3,e4,e5,e6,decide_true,if_true,Bool.false_eq_true,if_false,v1];rw[overo_i (hnum i (by omega) k (Nat.le_refl _)) hO.1 hO.2,Option.bind_some];dsimp only;have w1:∀v:List (Bool×(List Int×List Int)),((in0 (om B32 n n (rowsM a k i))).set i v).getD i []=v:=fun v=>set_at (by rw[in0_length,om_len];omega) _ _
  have w2:∀v d:Bool×(List Int×List Int),(((tab n (rowsM a k i i)).map (rp B32)).set k v).getD k d=v:=fun v d=>set_at (by rw[List.length_map,tab_len];omega) _ _
  rw[show((rp B32 (overQ (a i k) (outQ a k))).1,(rp B32 (overQ (a i k) (outQ a k))).2.1,(rp B32 (overQ (a i k) (outQ a k))).2.2)=rp B32 (overQ (a i k) (outQ a k))from rfl];simp only[w1,w2];rw[signo_rp,Option.bind_some];dsimp only;rw[om_write (show i<n by omega),v5,wr (x:=(i:Int)+1) (by omega) (by omega)]
  by_cases hf:(overQ (a i k) (outQ a k)).2.1=0
  ·rw[if_pos (by rw[beq_iff_eq,sgnQ_zero];exact hf),<-hg];have:om B32 n n (midM a k i 0)=om B32 n n (rowsM a k (i+1)):=om_congr fun x hx y hy=>by
    unfold midM rowsM
    by_cases w:x<i
    ·rw[if_pos (Or.inl w),if_pos (by omega)]
    ·by_cases w2:x=i
     ·subst w2
      by_cases w3:y=k
      ·rw[if_pos (Or.inr ⟨rfl,Or.inl w3⟩),if_pos (by omega)]
      ·rw[if_neg (by omega),if_pos (by omega)];unfold gS;rw[if_pos hi,if_neg w3,if_neg (fun q=>q.2 hf)]
     ·rw[if_neg (by omega),if_neg (by omega)]
   rw[this];rfl
  ·rw[if_neg (by rw[beq_iff_eq,sgnQ_zero];exact hf),iro_inner h' hi hf _ _ hK,<-hg];have:om B32 n n (midM a k i k)=om B32 n n (rowsM a k (i+1)):=om_congr fun x hx y hy=>by
    unfold midM rowsM
    by_cases w:x<i
    ·rw[if_pos (Or.inl w),if_pos (by omega)]
    ·by_cases w2:x=i
     ·subst w2
      by_cases w3:y=k\/y<k
      ·rw[if_pos (Or.inr ⟨rfl,w3⟩),if_pos (by omega)]
      ·rw[if_neg (by omega),if_pos (by omega)];unfold gS;rw[if_pos hi,if_neg (by omega),if_neg (by omega)]
     ·rw[if_neg (by omega),if_neg (by omega)]
   rw[this]) (fun g'=>by
  unfold P.i_restOf_b6;dsimp only;rw[if_neg (by simp),hd0_dup,nrm_hd0,wr (by omega) (by omega),if_neg (by decide)];have:om B32 n n (rowsM a k k)=om B32 n n (gS a k):=om_congr fun x hx y hy=>by
   unfold rowsM;split
   ·rfl
   ·unfold gS;rw[if_neg (by assumption)]
  rw[this]) (by omega)
 exact key
theorem summ_i {f:Nat->Q3} {k:Nat} (hk:k<=12) (h:∀j,j<k->okq (f j)) (hs:∀j,j<=k->okq (sumQ (tab j f))):S.i_summ ((tab k f).map (rp B32),())=some (rp B32 (sumQ (tab k f)),((tab k f).map (rp B32),())):=by
 unfold S.i_summ;dsimp only
 rw[if_pos ⟨tab k f,rfl,by rw[tab_len];omega,fun q hq=>by
  obtain⟨j,hj,rfl⟩:=tab_mem.1 hq;exact h j hj,fun j=>by
  rw[tab_take];exact hs _ (Nat.min_le_right ..)⟩,map_rv B32_le]
theorem iro_red {a:Nat->Nat->Q3} {n:Nat} (hr:∀k,0<k->k<n->rOk (gM n a (n - 1 - k)) n k) {K:Nat} (hK:n<K):∀(k F:Nat),k<n->k<F->
  loopP (P.i_restOf_b1 K) F ((k:Int),om B32 n n (gM n a (n - 1 - k)),())=loopP (P.i_restOf_b23 K) K ((1:Int),om B32 n n (gM n a (n - 1)),[rp B32 oneQ],()):=by
 intro k
 induction k with
 |zero=>
  intro F hk hF;obtain⟨F,rfl⟩:∃j,F=j+1:=⟨F - 1,by omega⟩
  rw[loopP_succ];unfold P.i_restOf_b1;dsimp only;have hz:S.i_whole (1,())=some (rp B32 oneQ,()):=by rfl
  rw[if_neg (by simp),hz,Option.bind_some,hd0_dup,nrm_hd0,if_neg (by decide)];rfl
 |succ k ih=>
  intro F hk hF;obtain⟨F,rfl⟩:∃j,F=j+1:=⟨F - 1,by omega⟩
  rw[loopP_succ];have h:=hr (k+1) (by omega) hk;have ih':=ih F (by omega) (by omega);have e0:n - 1 - k=(n - 1 - (k+1))+1:=by omega
  rw[e0]at ih';have e00:gM n a ((n - 1 - (k+1))+1)=gS (gM n a (n - 1 - (k+1))) (k+1):=by
   rw[gM,show n - 1 - (n - 1 - (k+1))=k+1 by omega]
  rw[e00]at ih';generalize gM n a (n - 1 - (k+1))=b at*;generalize loopP (P.i_restOf_b1 K) F=g at ih' ⊢;unfold P.i_restOf_b1;dsimp only;have e1:((k+1:Nat):Int)>0:=by omega
  have e2:(0:Int)<=((k+1:Nat):Int):=by omega
  have e3:((k+1:Nat):Int)<(n:Int):=by omega
  have e4:((k+1:Nat):Int)+((0:Nat):Int)<=(n:Int):=by omega
  have hse:seen ((tab n (b (k+1))).map (rp B32)) (0+0) (k+1 - 0)=(tab (k+1) (b (k+1))).map (rp B32):=by
   show List.take (k+1) (List.drop 0 _)=_;rw[List.drop_zero,<-List.map_take,tab_take,Nat.min_eq_left (by omega)]
  simp only[hd0_length,om_len,Int.toNat_natCast,Nat.zero_add,om_hd hk,om_in hk,List.length_map,tab_len,e1,e2,e3,e4,decide_true,if_true];rw[show seen ((tab n (b (k+1))).map (rp B32)) 0 (k+1 - 0)=(tab (k+1) (b (k+1))).map (rp B32)from hse,summ_i (by have:=h.n12;omega) (fun j hj=>h.num _ (Nat.le_refl _) j (by omega)) h.par,Option.bind_some];dsimp only;have hsp:splice ((tab n (b (k+1))).map (rp B32)) ((tab (k+1) (b (k+1))).map (rp B32)) 0=(tab n (b (k+1))).map (rp B32):=by
   have:(tab (k+1) (b (k+1))).map (rp B32)=((tab n (b (k+1))).map (rp B32)).take (k+1):=by rw[<-List.map_take,tab_take,Nat.min_eq_left (by omega)]
   rw[this];unfold splice;rw[List.take_zero,List.nil_append,List.length_take,List.length_map,tab_len,Nat.min_eq_left (by omega),Nat.zero_add,List.take_append_drop]
  rw[hd0_dup,hsp,om_back hk,if_neg (by decide)];have:=iro_mid h g hK;rw[show((k+1:Nat):Int) - 1=(k:Int) by omega,ih']at this;exact this
theorem iro_dot {G:Nat->Nat->Q3} {w:Nat->Q3} {n k:Nat} (kn:k<n) (n12:n<=12) (hw:∀i,i<k->okq (w i)) (hG:∀i,i<k->okq (G i k)) (hm:∀i,i<k->okq (mulQ (w i) (G i k))) (hd:∀i,i<=k->okq (dotQ w (fun i=>G i k) i)) (g) {K:Nat} (hK:n<K):
  loopP (P.i_restOf_b28 g) K ((0:Int),(k:Int),rp B32 zeroQ,(tab k w).map (rp B32),om B32 n n G,(k:Int),())=g (((k+1:Nat):Int),om B32 n n G,(tab k w).map (rp B32)++[rp B32 (dotQ w (fun i=>G i k) k)],()):=by
 have key:=loop_up0 (k:=K) (b:=P.i_restOf_b28 g) (n:=k) (st:=fun i=>((i:Int),(k:Int),rp B32 (dotQ w (fun i=>G i k) i),(tab k w).map (rp B32),om B32 n n G,(k:Int),())) (F:=fun _=>g (((k+1:Nat):Int),om B32 n n G,(tab k w).map (rp B32)++[rp B32 (dotQ w (fun i=>G i k) k)],())) (fun i g' hi hg=>by
  unfold P.i_restOf_b28;dsimp only at hg ⊢;have e1:(i:Int)<(k:Int):=by omega
  have e3:(0:Int)<=(i:Int):=by omega
  have e4:(i:Int)<(n:Int):=by omega
  have e5:(0:Int)<=(k:Int):=by omega
  have e6:(k:Int)<(n:Int):=by omega
  simp only[hd0_length,om_len,List.length_map,tab_len,Int.toNat_natCast,Nat.zero_add,om_hd (show i<n by omega),om_in (show i<n by omega),om_num kn,om_num hi,hd0_dup,nrm_hd0,e1,e3,e4,e5,e6,decide_true,if_true,Bool.false_eq_true,if_false];rw[mulo_i (hw i hi) (hG i hi),Option.bind_some];dsimp only;rw[addo_i (hd i (by omega)) (hm i hi),Option.bind_some,wr (by omega) (by omega)];exact hg) (fun g'=>by
  unfold P.i_restOf_b28;dsimp only;have e1:(k+1)*56<=140737488355328:=by omega
  rw[if_neg (by simp),hd0_dup,nrm_hd0,wr (by omega) (by omega)];simp only[List.length_map,tab_len,List.length_cons,List.length_nil,Nat.zero_add,e1,decide_true,if_true,Bool.false_eq_true,if_false];rfl) (by omega)
 exact key
def redQ (a:Nat->Nat->Q3) (n:Nat):List Q3:=normQ (tab n (wF (gM n a (n - 1)) (n - 1))) (sumQ (tab n (wF (gM n a (n - 1)) (n - 1))))
theorem iro_w {a:Nat->Nat->Q3} {n:Nat} (h:redOk a n) {K:Nat} (hK:n<K):∀(m k F:Nat),k+1+m=n->m<F->
  loopP (P.i_restOf_b23 K) F (((k+1:Nat):Int),om B32 n n (gM n a (n - 1)),(tab (k+1) (wF (gM n a (n - 1)) k)).map (rp B32),())=some ((redQ a n).map (rp B32),om B32 n n (gM n a (n - 1)),()):=by
 intro m
 induction m with
 |zero=>
  intro k F hk hF;obtain⟨F,rfl⟩:∃j,F=j+1:=⟨F - 1,by omega⟩
  rw[loopP_succ];have hn:=h.n12;have h0:=h.s0;have hw:=h.w (n - 1) (by omega);have hs:=h.s;unfold redQ;have e:k=n - 1:=by omega
  subst e;have e2:n - 1+1=n:=by omega
  rw[e2];generalize wF (gM n a (n - 1)) (n - 1)=f at*;unfold P.i_restOf_b23;dsimp only;have e3:¬(n:Int)<(n:Int):=by omega
  simp only[hd0_length,om_len,e3,decide_false,Bool.false_eq_true,if_false];rw[summ_i hn (fun j hj=>hw j (by omega)) hs,Option.bind_some];dsimp only;have hsp:splice ((tab n f).map (rp B32)) ((tab n f).map (rp B32)) 0=(tab n f).map (rp B32):=by
   unfold splice;simp
  rw[hsp];have ec:S.i_scaled ((tab n f).map (rp B32),((rp B32 (sumQ (tab n f))).1,(rp B32 (sumQ (tab n f))).2.1,(rp B32 (sumQ (tab n f))).2.2),())=some ((normQ (tab n f) (sumQ (tab n f))).map (rp B32),()):=by
   show S.i_scaled ((tab n f).map (rp B32),rp B32 (sumQ (tab n f)),())=_;unfold S.i_scaled;dsimp only
   rw[if_pos ⟨tab n f,_,rfl,rfl,by rw[tab_len];omega,fun q hq=>by
    obtain⟨j,hj,rfl⟩:=tab_mem.1 hq;exact hw j (by omega),(hs n (Nat.le_refl _)).1,(hs n (Nat.le_refl _)).2,h0⟩,map_rv B32_le,rv_rp B32_le]
  rw[ec,Option.bind_some,hd0_dup,nrm_hd0,if_neg (by decide)]
 |succ m ih=>
  intro k F hk hF;obtain⟨F,rfl⟩:∃j,F=j+1:=⟨F - 1,by omega⟩
  rw[loopP_succ];have ih':=ih (k+1) F (by omega) (by omega);have hn:=h.n12;have hw:=h.w k (by omega);have hg:=h.g (k+1) (by omega);have hm:=h.m k (by omega);have hd:=h.d k (by omega);have et:tab (k+1+1) (wF (gM n a (n - 1)) (k+1))=tab (k+1) (wF (gM n a (n - 1)) k)++[dotQ (wF (gM n a (n - 1)) k) (fun i=>gM n a (n - 1) i (k+1)) (k+1)]:=by
   rw[tab_succ,wF];dsimp only;rw[if_pos rfl];congr 1;apply tab_congr;intro i hi;rw[if_neg (by omega)]
  rw[et,List.map_append]at ih';generalize wF (gM n a (n - 1)) k=f at*;generalize gM n a (n - 1)=G at*;generalize loopP (P.i_restOf_b23 K) F=g' at ih' ⊢;unfold P.i_restOf_b23;dsimp only;have e1:((k+1:Nat):Int)<(n:Int):=by omega
  have hz:S.i_whole (0,())=some (rp B32 zeroQ,()):=by rfl
  simp only[hd0_length,om_len,e1,decide_true,if_true];rw[hz,Option.bind_some,hd0_dup,nrm_hd0,if_neg (by decide)];have:=iro_dot (G:=G) (w:=f) (n:=n) (k:=k+1) (by omega) hn (fun i hi=>hw i (by omega)) hg hm hd g' hK;exact this.trans ih'
open Classical in
def S.i_restOf (x:((List ((List RB)×Nat))×Unit)):(Option ((List RB)×((List ((List RB)×Nat))×Unit))):=
 if h:∃(a:Nat->Nat->Q3) (n:Nat),x.1=om B32 n n a/\redOk a n then some ((redQ h.choose h.choose_spec.choose).map (rp B32),om B32 h.choose_spec.choose h.choose_spec.choose (gM h.choose_spec.choose h.choose (h.choose_spec.choose - 1)),())else none
theorem S.i_restOf_ok (x r) (h:S.i_restOf x=some r):∃k,P.i_restOf k x=some r:=by
 obtain⟨m,u⟩:=x;unfold S.i_restOf at h;dsimp only at h;split at h
 case isFalse=>cases h
 rename_i hc;have hs:=hc.choose_spec.choose_spec;cases h;generalize hc.choose_spec.choose=n at*;generalize hc.choose=a at*;obtain⟨rfl,hr⟩:=hs;have n0:=hr.n0;have hn:=hr.n12;refine⟨n+1,?_⟩;unfold P.i_restOf;dsimp only;rw[hd0_dup,nrm_hd0,hd0_length,om_len,wr (by omega) (by omega),if_neg (by decide),show(n:Int) - 1=((n - 1:Nat):Int) by omega];have h1:=iro_red hr.red (K:=n+1) (by omega) (n - 1) (n+1) (by omega) (by omega);have h2:=iro_w hr (K:=n+1) (by omega) (n - 1) 0 (n+1) (by omega) (by omega);rw[Nat.sub_self]at h1;exact h1.trans h2
theorem rest_i {a:Nat->Nat->Q3} {n:Nat} (h:redOk a n):S.i_restOf (om B32 n n a,())=some ((redQ a n).map (rp B32),(om B32 n n (gM n a (n - 1)),())):=by
 unfold S.i_restOf;have hc:∃(b:Nat->Nat->Q3) (m:Nat),(om B32 n n a,()).1=om B32 m m b/\redOk b m:=⟨a,n,rfl,h⟩
 rw[dif_pos hc];obtain⟨e,_⟩:=hc.choose_spec.choose_spec;dsimp only at e;generalize hc.choose_spec.choose=m at*;generalize hc.choose=b at*;obtain⟨e1,e2⟩:=om_inj B32_le e;subst e1;have hab:∀i,i<n->∀j,j<n->b i j=a i j:=fun i hi j hj=>((e2 i hi).2 j hj).symm
 have h0:=h.n0;have hg:=gM_congr hab (n - 1);have hw:tab n (wF (gM n b (n - 1)) (n - 1))=tab n (wF (gM n a (n - 1)) (n - 1)):=tab_congr fun i hi=>wF_congr hg (n - 1) (by omega) i
 unfold redQ;rw[hw,om_congr hg]
abbrev i_rest.A:=Int×Int×List Int×List RB×List (List RB)×Int×List (List RB×Nat)×Int×Int×List Int×List Int×Unit
abbrev i_rest.B:=Int×Int×List Int×List Int×List (List RB)×List (List RB×Nat)×Unit
abbrev i_rest.C:=Int×Int×List Int×List Int×List Int×List (List RB)×Unit
abbrev i_rest.D:=Option ((List RB×Bool)×Unit)
abbrev P.i_rest_b9 (g7:i_rest.B->i_rest.D) (x10:i_rest.A) (g11:i_rest.A->i_rest.D):i_rest.D:=
 (fun(a b f i j:Int) (c l m:List Int) (d:List RB) (e:List (List RB)) (h:List (List RB×Nat))=>if decide (a<b)then if decide (0<=a)then if decide (a<(c.length:Int))then if decide (0<=f)then if decide (f<(e.length:Int))then if decide (0<=(c.getD a.toNat 0))then if decide ((c.getD a.toNat 0)<(List.length (e.getD f.toNat []):Int))then if decide (((d.length+(List.length [((List.getD (e.getD f.toNat []) (Int.toNat (c.getD a.toNat 0)) (false,[],[])).1,(List.getD (e.getD f.toNat []) (Int.toNat (c.getD a.toNat 0)) (false,[],[])).2.1,(List.getD (e.getD f.toNat []) (Int.toNat (c.getD a.toNat 0)) (false,[],[])).2.2)]))*56)<=140737488355328)then if dup (List.map (fun(y12:Nat×Nat)=>y12.1) (hd0 h))then none else g11 (wrap .i64 (a+1),b,c,d++[((List.getD (e.getD f.toNat []) (Int.toNat (c.getD a.toNat 0)) (false,[],[])).1,(List.getD (e.getD f.toNat []) (Int.toNat (c.getD a.toNat 0)) (false,[],[])).2.1,(List.getD (e.getD f.toNat []) (Int.toNat (c.getD a.toNat 0)) (false,[],[])).2.2)],e,f,nrm (hd0 h) (in0 h),i,j,l,m,())else none else none else none else none else none else none else none else if decide ((((List.length (hd0 h))+(List.length (hd0 [(d,d.length)])))*24)<=140737488355328)then if dup (List.map (fun(y13:Nat×Nat)=>y13.1) (joinH (List.length (in0 h)) (hd0 h) (hd0 [(d,d.length)])))then none else g7 (wrap .i64 (i+1),j,l,m,e,nrm (joinH (List.length (in0 h)) (hd0 h) (hd0 [(d,d.length)])) ((in0 h)++[d]),())else none) x10.1 x10.2.1 x10.2.2.2.2.2.1 x10.2.2.2.2.2.2.2.1 x10.2.2.2.2.2.2.2.2.1 x10.2.2.1 x10.2.2.2.2.2.2.2.2.2.1 x10.2.2.2.2.2.2.2.2.2.2.1 x10.2.2.2.1 x10.2.2.2.2.1 x10.2.2.2.2.2.2.1
abbrev P.i_rest_b18 (x19:Int×Int×List RB×List RB×List Int×Unit) (g20:Int×Int×List RB×List RB×List Int×Unit->i_rest.D):i_rest.D:=
 (fun(a b:Int) (c d:List RB) (e:List Int)=>if decide (a<b)then if decide (0<=a)then if decide (a<(c.length:Int))then if decide (0<=a)then if decide (a<(e.length:Int))then if decide (0<=(e.getD a.toNat 0))then if decide ((e.getD a.toNat 0)<(d.length:Int))then g20 (wrap .i64 (a+1),b,c,d.set (0+(Int.toNat (e.getD a.toNat 0))) ((c.getD a.toNat (false,[],[])).1,(c.getD a.toNat (false,[],[])).2.1,(c.getD a.toNat (false,[],[])).2.2),e,())else none else none else none else none else none else none else some ((d,true),())) x19.1 x19.2.1 x19.2.2.1 x19.2.2.2.1 x19.2.2.2.2.1
abbrev P.i_rest_b5 (k:Nat) (x6:i_rest.B) (g7:i_rest.B->i_rest.D):i_rest.D:=
 if decide (x6.1<x6.2.1)then if decide (0<=x6.1)then if decide (x6.1<(x6.2.2.1.length:Int))then if dup (List.map (fun(y8:Nat×Nat)=>y8.1) (hd0 x6.2.2.2.2.2.1))then none else loopP (P.i_rest_b9 g7) k (0,(x6.2.2.2.1.length:Int),x6.2.2.2.1,[],x6.2.2.2.2.1,x6.2.2.1.getD x6.1.toNat 0,nrm (hd0 x6.2.2.2.2.2.1) (in0 x6.2.2.2.2.2.1),x6.1,x6.2.1,x6.2.2.1,x6.2.2.2.1,())else none else none else(S.i_whole (0,())).bind fun y14=>(S.slices_Repeat__i_rat_i_rat ([(y14.1.1,y14.1.2.1,y14.1.2.2)],(x6.2.2.2.2.1.length:Int),())).bind fun y15=>if dup (List.map (fun(y16:Nat×Nat)=>y16.1) (hd0 x6.2.2.2.2.2.1))then none else(S.i_restOf (nrm (hd0 x6.2.2.2.2.2.1) (in0 x6.2.2.2.2.2.1),())).bind fun y17=>loopP P.i_rest_b18 k (0,(y17.1.length:Int),y17.1,y15.1,x6.2.2.2.1,())
abbrev P.i_rest_b2 (k:Nat) (x3:i_rest.C) (g4:i_rest.C->i_rest.D):i_rest.D:=
 (fun(a b:Int) (c d e:List Int) (f:List (List RB))=>if decide (a<b)then if decide (0<=a)then if decide (a<(c.length:Int))then if decide (0<(d.length:Int))then if(c.getD a.toNat 0)==(d.getD 0 0)then if decide (((e.length+(List.length [a]))*8)<=140737488355328)then g4 (wrap .i64 (a+1),b,c,d,e++[a],f,())else none else g4 (wrap .i64 (a+1),b,c,d,e,f,())else none else none else none else loopP (P.i_rest_b5 k) k (0,(e.length:Int),e,e,f,nrm (hd0 ([]:List (List RB×Nat))) (in0 ([]:List (List RB×Nat))),())) x3.1 x3.2.1 x3.2.2.1 x3.2.2.2.1 x3.2.2.2.2.1 x3.2.2.2.2.2.1
def P.i_rest (k:Nat) (x:List (List RB)×Unit):i_rest.D:=
 (S.i_classes (x.1,())).bind fun y0=>(S.i_setOf (y0.1.2,())).bind fun y1=>if(y1.1.length:Int) != 1 then some (([],false),())else loopP (P.i_rest_b2 k) k (0,(y0.1.1.length:Int),y0.1.1,y1.1,[],x.1,())
theorem irs_states {M:List (List Q3)} (h:isM M) {k:Int} {K:Nat} (hK:12<K):
  loopP (P.i_rest_b2 K) K ((0:Int),(M.length:Int),(clsM M).1,[k],([]:List Int),mp B32 M,())=loopP (P.i_rest_b5 K) K ((0:Int),((fl (clC M k) M.length).length:Int),zs (fl (clC M k) M.length),zs (fl (clC M k) M.length),mp B32 M,([]:List (List (Bool×(List Int×List Int))×Nat)),()):=by
 have hn:=h.1;have hl:(clsM M).1.length=M.length:=(clsF_len (rcB M) M.length M.length).1;have key:=loop_up0 (k:=K) (b:=P.i_rest_b2 K) (n:=M.length) (st:=fun i=>((i:Int),(M.length:Int),(clsM M).1,[k],zs (fl (clC M k) i),mp B32 M,())) (F:=fun _=>loopP (P.i_rest_b5 K) K ((0:Int),((fl (clC M k) M.length).length:Int),zs (fl (clC M k) M.length),zs (fl (clC M k) M.length),mp B32 M,([]:List (List (Bool×(List Int×List Int))×Nat)),())) (fun i g hi hg=>by
  unfold P.i_rest_b2;dsimp only at hg ⊢;have e1:(i:Int)<(M.length:Int):=by omega
  have e2:(0:Int)<=(i:Int):=by omega
  have e3:=fl_le (clC M k) i;have e4:((fl (clC M k) i).length+1)*8<=140737488355328:=by omega
  have e5:(0:Int)<((1:Nat):Int):=by decide
  simp only[hl,zs_len,e1,e2,e4,e5,List.length_cons,List.length_nil,Nat.zero_add,decide_true,if_true,Int.toNat_natCast];rw[show([k]:List Int).getD 0 0=k from rfl,clC_at hi,wr (by omega) (by omega)];rw[fl_succ]at hg;cases hc:clC M k i
  ·rw[hc,if_neg (by decide),List.append_nil]at hg;rw[if_neg (by decide)];exact hg
  ·rw[hc,if_pos rfl,zs_append]at hg;rw[if_pos rfl];exact hg) (fun g=>by
  unfold P.i_rest_b2;dsimp only;rw[if_neg (by simp),zs_len];rfl) (by omega)
 exact key
theorem irs_row {M:List (List Q3)} (h:isM M) {c:Nat->Bool} {a:Nat} (ha:a<(fl c M.length).length) (g) {K:Nat} (hK:12<K):
  loopP (P.i_rest_b9 g) K ((0:Int),((fl c M.length).length:Int),zs (fl c M.length),([]:List (Bool×(List Int×List Int))),mp B32 M,(((fl c M.length).getD a 0:Nat):Int),om B32 a (fl c M.length).length (subQ M c),(a:Int),((fl c M.length).length:Int),zs (fl c M.length),zs (fl c M.length),())=g (((a+1:Nat):Int),((fl c M.length).length:Int),zs (fl c M.length),zs (fl c M.length),mp B32 M,om B32 (a+1) (fl c M.length).length (subQ M c),()):=by
 have hn:=h.1;have hm:=fl_le c M.length;obtain⟨f1,f2⟩:=fl_at ha;have key:=loop_up0 (k:=K) (b:=P.i_rest_b9 g) (n:=(fl c M.length).length) (st:=fun b=>((b:Int),((fl c M.length).length:Int),zs (fl c M.length),(tab b (subQ M c a)).map (rp B32),mp B32 M,(((fl c M.length).getD a 0:Nat):Int),om B32 a (fl c M.length).length (subQ M c),(a:Int),((fl c M.length).length:Int),zs (fl c M.length),zs (fl c M.length),())) (F:=fun _=>g (((a+1:Nat):Int),((fl c M.length).length:Int),zs (fl c M.length),zs (fl c M.length),mp B32 M,om B32 (a+1) (fl c M.length).length (subQ M c),())) (fun b g' hb hg=>by
  unfold P.i_rest_b9;dsimp only at hg ⊢;obtain⟨q1,q2⟩:=fl_at hb;have e1:(b:Int)<((fl c M.length).length:Int):=by omega
  have e2:(0:Int)<=(b:Int):=by omega
  have e3:(0:Int)<=(((fl c M.length).getD a 0:Nat):Int):=by omega
  have e4:(((fl c M.length).getD a 0:Nat):Int)<(M.length:Int):=by omega
  have e5:(0:Int)<=(((fl c M.length).getD b 0:Nat):Int):=by omega
  have e6:(((fl c M.length).getD b 0:Nat):Int)<(M.length:Int):=by omega
  have e7:(b+1)*56<=140737488355328:=by omega
  have e8:((mp B32 M).getD ((fl c M.length).getD a 0) []).getD ((fl c M.length).getD b 0) (false,(([]:List Int),([]:List Int)))=rp B32 (subQ M c a b):=mq_held h f1 q1;simp only[zs_len,getD_zs,Int.toNat_natCast,mp_len,mq_wide h f1,List.length_map,tab_len,List.length_cons,List.length_nil,Nat.zero_add,hd0_dup,nrm_hd0,e1,e2,e3,e4,e5,e6,e7,e8,decide_true,if_true,Bool.false_eq_true,if_false];rw[wr (by omega) (by omega)];rw[<-tabm_snoc]at hg;exact hg) (fun g'=>by
  unfold P.i_rest_b9;dsimp only;have e1:(a+1)*24<=140737488355328:=by omega
  have e2:= @om_app B32 a (fl c M.length).length (subQ M c);rw[if_neg (by simp),wr (by omega) (by omega)];simp only[hd0_length,om_len,List.length_map,tab_len,List.length_cons,List.length_nil,Nat.zero_add,e1,e2.1,e2.2,decide_true,if_true,Bool.false_eq_true,if_false];rfl) (by omega)
 exact key
theorem irs_rep {n:Nat} (h:n<=12):S.slices_Repeat__i_rat_i_rat ([((rp B32 zeroQ).1,(rp B32 zeroQ).2.1,(rp B32 zeroQ).2.2)],(n:Int),())=some (List.replicate n (rp B32 zeroQ),()):=by
 unfold S.slices_Repeat__i_rat_i_rat;dsimp only;rw[if_pos ⟨rfl,by omega,by omega⟩,Int.toNat_natCast];rfl
open Classical in
def S.i_rest (x:((List (List RB))×Unit)):(Option (((List RB)×Bool)×Unit)):=if ∃M,isCh M/\x.1=mp B32 M then some (((restT (mv B32 x.1)).1.map (rp B32),(restT (mv B32 x.1)).2),())else none
theorem S.i_rest_ok (x r) (h:S.i_rest x=some r):∃k,P.i_rest k x=some r:=by
 obtain⟨m,u⟩:=x;unfold S.i_rest at h;dsimp only at h;split at h
 case isFalse=>cases h
 rename_i hc;obtain⟨M,hM,rfl⟩:=hc;cases h;rw[mv_mp (by decide)];have hI:=hM.2.1;have hn:=hI.1;have hl:=clsF_len (rcB M) M.length M.length;refine⟨13,?_⟩;unfold P.i_rest;dsimp only;have ec:S.i_classes (mp B32 M,())=some (clsM M,()):=by
  unfold S.i_classes;dsimp only;rw[if_pos ⟨M,hI,rfl⟩,mv_mp (by decide)]
 have es:S.i_setOf ((clsM M).2,())=some (posF 0 (clsM M).2,()):=by
  unfold S.i_setOf;dsimp only;rw[if_pos (by have:=hl.2;unfold clsM clsQ;omega)]
 rw[ec,Option.bind_some,es,Option.bind_some];dsimp only
 by_cases h1:(posF 0 (clsM M).2).length=1
 case neg=>
  rw[if_pos (by simpa using(show ¬((posF 0 (clsM M).2).length:Int)=1 by omega)),restT_none h1];rfl
 rw[if_neg (by simpa using(show((posF 0 (clsM M).2).length:Int)=1 by omega))];obtain⟨k,hk⟩:=len_one h1;rw[restT_one hk,hk];have hcl:(clsM M).1.length=M.length:=hl.1;rw[hcl,irs_states hI (by decide)];obtain⟨m0,m12,mi,_⟩:=sub_ok hM hk;obtain⟨D,hD⟩:=sub_allB hM (clC M k);have hro:=redOk_of m0 m12 rfl hD mi;have key:=loop_up0 (k:=13) (b:=P.i_rest_b5 13) (n:=(fl (clC M k) M.length).length) (st:=fun a=>((a:Int),((fl (clC M k) M.length).length:Int),zs (fl (clC M k) M.length),zs (fl (clC M k) M.length),mp B32 M,om B32 a (fl (clC M k) M.length).length (subQ M (clC M k)),())) (F:=fun _=>some (((tab M.length (restI M (clC M k))).map (rp B32),true),())) (fun a g ha hg=>by
  unfold P.i_rest_b5;dsimp only at hg ⊢;have e1:(a:Int)<((fl (clC M k) M.length).length:Int):=by omega
  have e2:(0:Int)<=(a:Int):=by omega
  simp only[zs_len,getD_zs,Int.toNat_natCast,hd0_dup,nrm_hd0,e1,e2,decide_true,if_true,Bool.false_eq_true,if_false];rw[irs_row hI ha g (by decide)];exact hg) (fun g=>by
  unfold P.i_rest_b5;dsimp only;have hz:S.i_whole (0,())=some (rp B32 zeroQ,()):=by rfl
  rw[if_neg (by simp),hz,Option.bind_some];dsimp only;rw[mp_len,irs_rep hn,Option.bind_some];simp only[hd0_dup,nrm_hd0,Bool.false_eq_true,if_false];rw[rest_i hro,Option.bind_some];dsimp only;have er:redQ (subQ M (clC M k)) (fl (clC M k) M.length).length=tab (fl (clC M k) M.length).length fun a=>overQ (wC M (clC M k) a) (sumQ (tab (fl (clC M k) M.length).length (wC M (clC M k)))):=by
   unfold redQ normQ;rw[tab_map];rfl
  rw[er,List.length_map,tab_len,tab_rep,show(tab M.length fun _=>rp B32 zeroQ)=(puts M.length (clC M k) (fun a=>overQ (wC M (clC M k) a) (sumQ (tab (fl (clC M k) M.length).length (wC M (clC M k))))) (fun _=>zeroQ) 0).map (rp B32) by rw[puts_zero,tab_map]];have key2:=loop_up0 (k:=13) (b:=P.i_rest_b18) (n:=(fl (clC M k) M.length).length) (st:=fun a=>((a:Int),((fl (clC M k) M.length).length:Int),(tab (fl (clC M k) M.length).length fun a=>overQ (wC M (clC M k) a) (sumQ (tab (fl (clC M k) M.length).length (wC M (clC M k))))).map (rp B32),(puts M.length (clC M k) (fun a=>overQ (wC M (clC M k) a) (sumQ (tab (fl (clC M k) M.length).length (wC M (clC M k))))) (fun _=>zeroQ) a).map (rp B32),zs (fl (clC M k) M.length),())) (F:=fun _=>some (((tab M.length (restI M (clC M k))).map (rp B32),true),())) (fun a g' ha hg=>by
   unfold P.i_rest_b18;dsimp only at hg ⊢;obtain⟨q1,q2⟩:=fl_at ha;have e1:(a:Int)<((fl (clC M k) M.length).length:Int):=by omega
   have e2:(0:Int)<=(a:Int):=by omega
   have e5:(0:Int)<=(((fl (clC M k) M.length).getD a 0:Nat):Int):=by omega
   have e6:(((fl (clC M k) M.length).getD a 0:Nat):Int)<(M.length:Int):=by omega
   simp only[zs_len,getD_zs,Int.toNat_natCast,List.length_map,tab_len,puts_len,om_num ha,Nat.zero_add,e1,e2,e5,e6,decide_true,if_true];rw[wr (by omega) (by omega)];rw[<-puts_set ha]at hg;exact hg) (fun g'=>by
   unfold P.i_rest_b18;dsimp only;rw[if_neg (by simp),puts_all];rfl) (by omega)
  exact key2) (by omega)
 exact key
abbrev i_reversed.A:=Int×Int×List (List RB×Nat)×Int×List RB×List (List RB)×Int×Int×Unit
abbrev i_reversed.B:=Int×Int×List (List RB)×List (List RB×Nat)×List RB×Unit
abbrev i_reversed.C:=Option ((List (List RB×Nat)×Nat)×Unit)
abbrev P.i_reversed_b7 (g5:i_reversed.B->i_reversed.C) (x8:i_reversed.A) (g9:i_reversed.A->i_reversed.C):i_reversed.C:=
 (fun(a b d h i:Int) (c:List (List RB×Nat)) (e:List RB) (f:List (List RB))=>if decide (a<b)then if decide (0<=d)then if decide (d<(List.length (hd0 c):Int))then if decide (0<=a)then if decide (a<(e.length:Int))then if decide (0<=a)then if decide (a<(f.length:Int))then if decide (0<=d)then if decide (d<(List.length (f.getD a.toNat []):Int))then(S.i_rat_mul (((e.getD a.toNat (false,[],[])).1,(e.getD a.toNat (false,[],[])).2.1,(e.getD a.toNat (false,[],[])).2.2),((List.getD (f.getD a.toNat []) d.toNat (false,[],[])).1,(List.getD (f.getD a.toNat []) d.toNat (false,[],[])).2.1,(List.getD (f.getD a.toNat []) d.toNat (false,[],[])).2.2),())).bind fun y10=>if decide (0<=d)then if decide (d<(e.length:Int))then(S.i_rat_over ((y10.1.1,y10.1.2.1,y10.1.2.2),((e.getD d.toNat (false,[],[])).1,(e.getD d.toNat (false,[],[])).2.1,(e.getD d.toNat (false,[],[])).2.2),())).bind fun y11=>if decide (0<=a)then if decide (a<(((List.getD (hd0 c) (0+d.toNat) (0,0)).2:Nat):Int))then if dup (List.map (fun(y12:Nat×Nat)=>y12.1) (hd0 c))then none else g9 (wrap .i64 (a+1),b,nrm (hd0 c) (List.set (in0 c) (List.getD (hd0 c) (0+d.toNat) (0,0)).1 (List.set (List.getD (in0 c) (List.getD (hd0 c) (0+d.toNat) (0,0)).1 []) (0+a.toNat) (y11.1.1,y11.1.2.1,y11.1.2.2))),d,e,f,h,i,())else none else none else none else none else none else none else none else none else none else none else none else none else if dup (List.map (fun(y13:Nat×Nat)=>y13.1) (hd0 c))then none else g5 (wrap .i64 (h+1),i,f,nrm (hd0 c) (in0 c),e,())) x8.1 x8.2.1 x8.2.2.2.1 x8.2.2.2.2.2.2.1 x8.2.2.2.2.2.2.2.1 x8.2.2.1 x8.2.2.2.2.1 x8.2.2.2.2.2.1
abbrev P.i_reversed_b3 (k:Nat) (x4:i_reversed.B) (g5:i_reversed.B->i_reversed.C):i_reversed.C:=
 if decide (x4.1<x4.2.1)then if dup (List.map (fun(y6:Nat×Nat)=>y6.1) (hd0 x4.2.2.2.1))then none else loopP (P.i_reversed_b7 g5) k (0,(x4.2.2.1.length:Int),nrm (hd0 x4.2.2.2.1) (in0 x4.2.2.2.1),x4.1,x4.2.2.2.2.1,x4.2.2.1,x4.1,x4.2.1,())else if dup (List.map (fun(y14:Nat×Nat)=>y14.1) (hd0 x4.2.2.2.1))then none else some ((nrm (hd0 x4.2.2.2.1) (in0 x4.2.2.2.1),List.length (hd0 x4.2.2.2.1)),())
def P.i_reversed (k:Nat) (x:List (List RB)×Unit):i_reversed.C:=
 (S.i_rest (x.1,())).bind fun y0=>(S.i_zeros ((x.1.length:Int),())).bind fun y1=>if decide (y1.1.2=(List.length (hd0 y1.1.1)))then if dup (List.map (fun(y2:Nat×Nat)=>y2.1) (hd0 y1.1.1))then none else loopP (P.i_reversed_b3 k) k (0,(x.1.length:Int),x.1,nrm (hd0 y1.1.1) (in0 y1.1.1),y0.1.1,())else none
def rvM (M:List (List Q3)) (i j:Nat):Nat->Nat->Q3:=fun x y=>if x<i\/(x=i/\y<j)then revQ M x y else zeroQ
theorem rvi_row {M:List (List Q3)} (h:isCh M) (h1:oneK M=true) {i:Nat} (hi:i<M.length) (g) {K:Nat} (hK:12<K):
  loopP (P.i_reversed_b7 g) K ((0:Int),(M.length:Int),om B32 M.length M.length (rvM M i 0),(i:Int),(tab M.length (restI M (clC M 0))).map (rp B32),mp B32 M,(i:Int),(M.length:Int),())=g (((i+1:Nat):Int),(M.length:Int),mp B32 M,om B32 M.length M.length (rvM M (i+1) 0),(tab M.length (restI M (clC M 0))).map (rp B32),()):=by
 have hn:=h.2.1.1;obtain⟨o1,o2⟩:=rev_ok h h1;have key:=loop_up0 (k:=K) (b:=P.i_reversed_b7 g) (n:=M.length) (st:=fun j=>((j:Int),(M.length:Int),om B32 M.length M.length (rvM M i j),(i:Int),(tab M.length (restI M (clC M 0))).map (rp B32),mp B32 M,(i:Int),(M.length:Int),())) (F:=fun _=>g (((i+1:Nat):Int),(M.length:Int),mp B32 M,om B32 M.length M.length (rvM M (i+1) 0),(tab M.length (restI M (clC M 0))).map (rp B32),())) (fun j g' hj hg=>by
  unfold P.i_reversed_b7;dsimp only at hg ⊢;have e1:(j:Int)<(M.length:Int):=by omega
  have e2:(0:Int)<=(j:Int):=by omega
  have e3:(0:Int)<=(i:Int):=by omega
  have e4:(i:Int)<(M.length:Int):=by omega
  have e8:((mp B32 M).getD j []).getD i (false,(([]:List Int),([]:List Int)))=rp B32 (mq M j i):=mq_held h.2.1 hj hi;have okc:=okq_200 ⟨(ch_at h hj hi).1,(ch_at h hj hi).2.1⟩;have em:S.i_rat_mul (((rp B32 (restI M (clC M 0) j)).1,(rp B32 (restI M (clC M 0) j)).2.1,(rp B32 (restI M (clC M 0) j)).2.2),((rp B32 (mq M j i)).1,(rp B32 (mq M j i)).2.1,(rp B32 (mq M j i)).2.2),())=some (rp B32 (mulQ (restI M (clC M 0) j) (mq M j i)),()):=by
   show S.i_rat_mul (rp B32 _,rp B32 _,())=_;unfold S.i_rat_mul;dsimp only;rw[if_pos ⟨okq_low (by decide) (o1 j hj),okq_low (by decide) okc⟩,rv_rp B32_le,rv_rp B32_le]
  have eo:S.i_rat_over (((rp B32 (mulQ (restI M (clC M 0) j) (mq M j i))).1,(rp B32 (mulQ (restI M (clC M 0) j) (mq M j i))).2.1,(rp B32 (mulQ (restI M (clC M 0) j) (mq M j i))).2.2),((rp B32 (restI M (clC M 0) i)).1,(rp B32 (restI M (clC M 0) i)).2.1,(rp B32 (restI M (clC M 0) i)).2.2),())=some (rp B32 (revQ M i j),()):=by
   show S.i_rat_over (rp B32 _,rp B32 _,())=_;unfold S.i_rat_over;dsimp only;rw[if_pos ⟨okq_low (by decide) (o2 i hi j hj).1,okq_low (by decide) (o1 i hi),by rw[rv_rp B32_le];exact one_rest h h1 hi⟩,rv_rp B32_le,rv_rp B32_le];rfl
  have hu:updM (rvM M i j) i j (revQ M i j)=rvM M i (j+1):=by
   funext x y;unfold updM rvM
   by_cases q:x=i/\y=j
   ·rw[if_pos q,q.1,q.2,if_pos (Or.inr ⟨rfl,by omega⟩)]
   ·rw[if_neg q]
    by_cases w:x<i\/(x=i/\y<j)
    ·rw[if_pos w,if_pos (by omega)]
    ·rw[if_neg w,if_neg (by omega)]
  simp only[hd0_length,om_len,mp_len,mq_wide h.2.1 hj,List.length_map,tab_len,Int.toNat_natCast,Nat.zero_add,om_hd hi,om_in hi,om_num hj,om_num hi,hd0_dup,e1,e2,e3,e4,e8,decide_true,if_true,Bool.false_eq_true,if_false];rw[em,Option.bind_some];dsimp only;rw[eo,Option.bind_some];dsimp only;rw[wr (by omega) (by omega)];rw[<-hu,<-om_write hi]at hg;exact hg) (fun g'=>by
  unfold P.i_reversed_b7;dsimp only;have hu:om B32 M.length M.length (rvM M i M.length)=om B32 M.length M.length (rvM M (i+1) 0):=om_congr fun x hx y hy=>by
   unfold rvM
   by_cases w:x<i\/(x=i/\y<M.length)
   ·rw[if_pos w,if_pos (by omega)]
   ·rw[if_neg w,if_neg (by omega)]
  rw[if_neg (by simp),hd0_dup,nrm_hd0,if_neg (by decide),wr (by omega) (by omega),hu];rfl) (by omega)
 exact key
open Classical in
def S.i_reversed (x:((List (List RB))×Unit)):(Option (((List ((List RB)×Nat))×Nat)×Unit)):=if ∃M,isCh M/\oneK M=true/\x.1=mp B32 M then some ((om B32 x.1.length x.1.length (revQ (mv B32 x.1)),x.1.length),())else none
theorem S.i_reversed_ok (x r) (h:S.i_reversed x=some r):∃k,P.i_reversed k x=some r:=by
 obtain⟨m,u⟩:=x;unfold S.i_reversed at h;dsimp only at h;split at h
 case isFalse=>cases h
 rename_i hc;obtain⟨M,hM,h1,rfl⟩:=hc;cases h;rw[mv_mp (by decide),mp_len];have hn:=hM.2.1.1;refine⟨13,?_⟩;unfold P.i_reversed;dsimp only;have hk:=one_pos hM h1;have er:S.i_rest (mp B32 M,())=some (((tab M.length (restI M (clC M 0))).map (rp B32),true),()):=by
  unfold S.i_rest;dsimp only;rw[if_pos ⟨M,hM,rfl⟩,mv_mp (by decide),restT_one hk]
 have ez:S.i_zeros ((M.length:Int),())=some ((om B32 M.length M.length (fun _ _=>zeroQ),M.length),()):=by
  unfold S.i_zeros;dsimp only;rw[if_pos ⟨by omega,by omega⟩,Int.toNat_natCast,zeros_om]
 rw[er,Option.bind_some,mp_len,ez,Option.bind_some];dsimp only;rw[hd0_length,om_len,if_pos (by simp),hd0_dup,nrm_hd0,if_neg (by decide)];have key:=loop_up0 (k:=13) (b:=P.i_reversed_b3 13) (n:=M.length) (st:=fun i=>((i:Int),(M.length:Int),mp B32 M,om B32 M.length M.length (rvM M i 0),(tab M.length (restI M (clC M 0))).map (rp B32),())) (F:=fun _=>some ((om B32 M.length M.length (revQ M),M.length),())) (fun i g hi hg=>by
  unfold P.i_reversed_b3;dsimp only at hg ⊢;rw[if_pos (decide_eq_true (by omega)),hd0_dup,nrm_hd0,if_neg (by decide),mp_len,<-hg];exact rvi_row hM h1 hi g (by decide)) (fun g=>by
  unfold P.i_reversed_b3;dsimp only;have hm:om B32 M.length M.length (rvM M M.length 0)=om B32 M.length M.length (revQ M):=om_congr fun x hx y hy=>by
   unfold rvM;rw[if_pos (Or.inl hx)]
  rw[if_neg (by simp),hd0_dup,nrm_hd0,hd0_length,om_len,hm,if_neg (by decide)]) (by omega)
 refine Eq.trans ?_ key;have h0:om B32 M.length M.length (fun _ _=>zeroQ)=om B32 M.length M.length (rvM M 0 0):=om_congr fun x hx y hy=>by
  unfold rvM;rw[if_neg (by omega)]
 rw[h0];rfl
def P.i_sameRows11 (k:Nat) (x:RB×RB×Unit):Option (Bool×Unit):=
 (S.i_rat_cmp ((x.1.1,x.1.2.1,x.1.2.2),(x.2.1.1,x.2.1.2.1,x.2.1.2.2),())).bind fun y0=>some (y0.1==0,())
def S.i_sameRows11 (x:(RB×(RB×Unit))):(Option (Bool×Unit)):=P.i_sameRows11 0 x
theorem S.i_sameRows11_ok (x r) (h:S.i_sameRows11 x=some r):∃k,P.i_sameRows11 k x=some r:=⟨0,h⟩
abbrev P.slices_EqualFunc__i_rat__i_rat_i_rat_i_rat_b0 (x1:Int×Int×List RB×List RB×Unit×Unit) (g2:Int×Int×List RB×List RB×Unit×Unit->Option (Bool×Unit)):Option (Bool×Unit):=
 (fun(a b:Int) (c d:List RB)=>if decide (a<b)then if decide (0<=a)then if decide (a<(c.length:Int))then if decide (0<=a)then if decide (a<(d.length:Int))then(S.i_sameRows11 (((c.getD a.toNat (false,[],[])).1,(c.getD a.toNat (false,[],[])).2.1,(c.getD a.toNat (false,[],[])).2.2),((d.getD a.toNat (false,[],[])).1,(d.getD a.toNat (false,[],[])).2.1,(d.getD a.toNat (false,[],[])).2.2),())).bind fun y3=>if !y3.1 then some (false,())else g2 (wrap .i64 (a+1),b,c,d,(),())else none else none else none else none else some (true,())) x1.1 x1.2.1 x1.2.2.1 x1.2.2.2.1
def P.slices_EqualFunc__i_rat__i_rat_i_rat_i_rat (k:Nat) (x:List RB×List RB×Unit×Unit):Option (Bool×Unit):=
 if(x.1.length:Int) != (x.2.1.length:Int)then some (false,())else loopP P.slices_EqualFunc__i_rat__i_rat_i_rat_i_rat_b0 k (0,(x.1.length:Int),x.1,x.2.1,(),())
theorem same11 {a b:Q3} (ha:okq a) (hb:okq b):S.i_sameRows11 (((rp B32 a).1,(rp B32 a).2.1,(rp B32 a).2.2),((rp B32 b).1,(rp B32 b).2.1,(rp B32 b).2.2),())=some (decide (a=b),()):=by
 unfold S.i_sameRows11 P.i_sameRows11;dsimp only;have ec:S.i_rat_cmp (((rp B32 a).1,(rp B32 a).2.1,(rp B32 a).2.2),((rp B32 b).1,(rp B32 b).2.1,(rp B32 b).2.2),())=some (cmpZ a b,()):=ri_cmp ha.1 hb.1 ha.2 hb.2;rw[ec,Option.bind_some];congr 2;rw[Bool.eq_iff_iff,beq_iff_eq,decide_eq_true_eq];exact cmpZ_eq ha.1 hb.1
open Classical in
def S.slices_EqualFunc__i_rat__i_rat_i_rat_i_rat (x:((List RB)×((List RB)×(Unit×Unit)))):(Option (Bool×Unit)):=if ∃as bs:List Q3,x.1=as.map (rp B32)/\x.2.1=bs.map (rp B32)/\as.length<=1000/\bs.length<=1000/\(∀q∈as,okq q)/\(∀q∈bs,okq q)then some (decide (x.1.map (rv B32)=x.2.1.map (rv B32)),())else none
theorem S.slices_EqualFunc__i_rat__i_rat_i_rat_i_rat_ok (x r) (h:S.slices_EqualFunc__i_rat__i_rat_i_rat_i_rat x=some r):∃k,P.slices_EqualFunc__i_rat__i_rat_i_rat_i_rat k x=some r:=by
 obtain⟨xs,ys,u⟩:=x;unfold S.slices_EqualFunc__i_rat__i_rat_i_rat_i_rat at h;dsimp only at h;split at h
 case isFalse=>cases h
 rename_i hc;obtain⟨as,bs',rfl,rfl,hla,hlb,ha,hb⟩:=hc;rw[map_rv B32_le,map_rv B32_le]at h;cases h;refine⟨as.length+1,?_⟩;unfold P.slices_EqualFunc__i_rat__i_rat_i_rat_i_rat;dsimp only;rw[List.length_map,List.length_map]
 by_cases hl:as.length=bs'.length
 case neg=>
  rw[if_pos (by simp;omega),decide_eq_false (fun e=>hl (by rw[e]))]
 rw[if_neg (by simp;omega)];have key:=loop_up0 (k:=as.length+1) (b:=P.slices_EqualFunc__i_rat__i_rat_i_rat_i_rat_b0) (n:=as.length) (st:=fun i=>((i:Int),(as.length:Int),as.map (rp B32),bs'.map (rp B32),(),())) (F:=fun i=>some (decide (as.drop i=bs'.drop i),())) (fun i g hi hg=>by
  unfold P.slices_EqualFunc__i_rat__i_rat_i_rat_i_rat_b0;dsimp only at hg ⊢;have hi':i<bs'.length:=by omega
  have e1:(i:Int)<(as.length:Int):=by omega
  have e2:(0:Int)<=(i:Int):=by omega
  have e3:(i:Int)<(bs'.length:Int):=by omega
  have ga:(as.map (rp B32)).getD i (false,(([]:List Int),([]:List Int)))=rp B32 as[i]:=by
   rw[List.getD_eq_getElem?_getD,List.getElem?_map,List.getElem?_eq_getElem hi];rfl
  have gb:(bs'.map (rp B32)).getD i (false,(([]:List Int),([]:List Int)))=rp B32 bs'[i]:=by
   rw[List.getD_eq_getElem?_getD,List.getElem?_map,List.getElem?_eq_getElem hi'];rfl
  simp only[List.length_map,Int.toNat_natCast,e1,e2,e3,ga,gb,decide_true,if_true];rw[same11 (ha _ (List.getElem_mem hi)) (hb _ (List.getElem_mem hi')),Option.bind_some,drop_eq hi hi'];dsimp only;cases hq:decide (as[i]=bs'[i])
  ·rw[if_pos (by decide),Bool.false_and]
  ·rw[if_neg (by decide),Bool.true_and,wr (by omega) (by omega)];exact hg) (fun g=>by
  unfold P.slices_EqualFunc__i_rat__i_rat_i_rat_i_rat_b0;dsimp only;rw[if_neg (by simp),hl,List.drop_length,<-hl,List.drop_eq_nil_of_le (Nat.le_refl _)];rfl) (by omega)
 exact key
def P.i_sameRows1 (k:Nat) (x:List RB×List RB×Unit):Option (Bool×Unit):=
 (S.slices_EqualFunc__i_rat__i_rat_i_rat_i_rat (x.1,x.2.1,(),())).bind fun y0=>some (y0.1,())
def S.i_sameRows1 (x:((List RB)×((List RB)×Unit))):(Option (Bool×Unit)):=P.i_sameRows1 0 x
theorem S.i_sameRows1_ok (x r) (h:S.i_sameRows1 x=some r):∃k,P.i_sameRows1 k x=some r:=⟨0,h⟩
abbrev P.slices_EqualFunc___i_rat___i_rat__i_rat__i_rat_b0 (x1:Int×Int×List (List RB)×List (List RB)×Unit×Unit) (g2:Int×Int×List (List RB)×List (List RB)×Unit×Unit->Option (Bool×Unit)):Option (Bool×Unit):=
 if decide (x1.1<x1.2.1)then if decide (0<=x1.1)then if decide (x1.1<(x1.2.2.1.length:Int))then if decide (0<=x1.1)then if decide (x1.1<(x1.2.2.2.1.length:Int))then(S.i_sameRows1 (x1.2.2.1.getD x1.1.toNat [],x1.2.2.2.1.getD x1.1.toNat [],())).bind fun y3=>if !y3.1 then some (false,())else g2 (wrap .i64 (x1.1+1),x1.2.1,x1.2.2.1,x1.2.2.2.1,(),())else none else none else none else none else some (true,())
def P.slices_EqualFunc___i_rat___i_rat__i_rat__i_rat (k:Nat) (x:List (List RB)×List (List RB)×Unit×Unit):Option (Bool×Unit):=
 if(x.1.length:Int) != (x.2.1.length:Int)then some (false,())else loopP P.slices_EqualFunc___i_rat___i_rat__i_rat__i_rat_b0 k (0,(x.1.length:Int),x.1,x.2.1,(),())
open Classical in
def S.slices_EqualFunc___i_rat___i_rat__i_rat__i_rat (x:((List (List RB))×((List (List RB))×(Unit×Unit)))):(Option (Bool×Unit)):=if ∃M N,okM M/\okM N/\x.1=mp B32 M/\x.2.1=mp B32 N then some (decide (mv B32 x.1=mv B32 x.2.1),())else none
theorem S.slices_EqualFunc___i_rat___i_rat__i_rat__i_rat_ok (x r) (h:S.slices_EqualFunc___i_rat___i_rat__i_rat__i_rat x=some r):∃k,P.slices_EqualFunc___i_rat___i_rat__i_rat__i_rat k x=some r:=by
 obtain⟨xs,ys,u⟩:=x;unfold S.slices_EqualFunc___i_rat___i_rat__i_rat__i_rat at h;dsimp only at h;split at h
 case isFalse=>cases h
 rename_i hc;obtain⟨as,bs',ha,hb,rfl,rfl⟩:=hc;rw[mv_mp B32_le,mv_mp B32_le]at h;cases h;have hla:=ha.1;have hlb:=hb.1;refine⟨as.length+1,?_⟩;unfold P.slices_EqualFunc___i_rat___i_rat__i_rat__i_rat;dsimp only;rw[mp_len,mp_len]
 by_cases hl:as.length=bs'.length
 case neg=>
  rw[if_pos (by simp;omega),decide_eq_false (fun e=>hl (by rw[e]))]
 rw[if_neg (by simp;omega)];have key:=loop_up0 (k:=as.length+1) (b:=P.slices_EqualFunc___i_rat___i_rat__i_rat__i_rat_b0) (n:=as.length) (st:=fun i=>((i:Int),(as.length:Int),mp B32 as,mp B32 bs',(),())) (F:=fun i=>some (decide (as.drop i=bs'.drop i),())) (fun i g hi hg=>by
  unfold P.slices_EqualFunc___i_rat___i_rat__i_rat__i_rat_b0;dsimp only at hg ⊢;have hi':i<bs'.length:=by omega
  have e1:(i:Int)<(as.length:Int):=by omega
  have e2:(0:Int)<=(i:Int):=by omega
  have e3:(i:Int)<(bs'.length:Int):=by omega
  have ga:as.getD i []=as[i]:=by rw[List.getD_eq_getElem?_getD,List.getElem?_eq_getElem hi];rfl
  have gb:bs'.getD i []=bs'[i]:=by rw[List.getD_eq_getElem?_getD,List.getElem?_eq_getElem hi'];rfl
  have es:S.i_sameRows1 (as[i].map (rp B32),bs'[i].map (rp B32),())=some (decide (as[i]=bs'[i]),()):=by
   unfold S.i_sameRows1 P.i_sameRows1 S.slices_EqualFunc__i_rat__i_rat_i_rat_i_rat;dsimp only;obtain⟨a1,a2⟩:=ha.2 _ (List.getElem_mem hi);obtain⟨b1,b2⟩:=hb.2 _ (List.getElem_mem hi');rw[if_pos ⟨_,_,rfl,rfl,by omega,by omega,a2,b2⟩,map_rv B32_le,map_rv B32_le,Option.bind_some]
  simp only[mp_len,mp_at hi,mp_at hi',Int.toNat_natCast,e1,e2,e3,ga,gb,decide_true,if_true];rw[es,Option.bind_some,drop_eq hi hi'];dsimp only;cases hq:decide (as[i]=bs'[i])
  ·rw[if_pos (by decide),Bool.false_and]
  ·rw[if_neg (by decide),Bool.true_and,wr (by omega) (by omega)];exact hg) (fun g=>by
  unfold P.slices_EqualFunc___i_rat___i_rat__i_rat__i_rat_b0;dsimp only;rw[if_neg (by simp),hl,List.drop_length,<-hl,List.drop_eq_nil_of_le (Nat.le_refl _)];rfl) (by omega)
 exact key
def P.i_sameRows (k:Nat) (x:List (List RB)×List (List RB)×Unit):Option (Bool×Unit):=
 (S.slices_EqualFunc___i_rat___i_rat__i_rat__i_rat (x.1,x.2.1,(),())).bind fun y0=>some (y0.1,())
def S.i_sameRows (x:((List (List RB))×((List (List RB))×Unit))):(Option (Bool×Unit)):=P.i_sameRows 0 x
theorem S.i_sameRows_ok (x r) (h:S.i_sameRows x=some r):∃k,P.i_sameRows k x=some r:=⟨0,h⟩
def P.i_IsReversible (k:Nat) (x:List (List ByteArray)×Unit):Option (Bool×Unit):=
 (S.i_chainOf (x.1,())).bind fun y0=>if y0.1.2 then(S.i_oneClass (y0.1.1,())).bind fun y1=>if y1.1 then(S.i_reversed (y0.1.1,())).bind fun y2=>(S.i_sameRows (y0.1.1,List.map (fun(y3:List RB×Nat)=>List.map (fun(y4:Bool×List Int×List Int)=>(y4.1,List.map (fun(y5:Int)=>y5) y4.2.1,List.map (fun(y6:Int)=>y6) y4.2.2)) (List.take y3.2 y3.1)) (seen (nrm (hd0 y2.1.1) (in0 y2.1.1)) 0 y2.1.2),())).bind fun y7=>some (y7.1,())else some (false,())else some (false,())
def S.i_IsReversible (x:((List (List ByteArray))×Unit)):(Option (Bool×Unit)):=P.i_IsReversible 0 x
theorem S.i_IsReversible_ok (x r) (h:S.i_IsReversible x=some r):∃k,P.i_IsReversible k x=some r:=⟨0,h⟩
def P.l_FnExactIsReversible (k:Nat) (x:List (List ByteArray)×Unit):Option (Bool×Unit):=
 (S.l_szChain (x.1,1000000,())).bind fun y0=>if decide (y0.1<0)then some (true,())else(S.l_toChain (x.1,false,())).bind fun y1=>(S.s_IsReversible (List.map (fun(y2:List ByteArray×Nat)=>List.map (fun(y3:ByteArray)=>y3) (List.take y2.2 y2.1)) (List.take y1.1.2 y1.1.1),())).bind fun y4=>(S.l_toChain (x.1,false,())).bind fun y5=>(S.i_IsReversible (List.map (fun(y6:List ByteArray×Nat)=>List.map (fun(y7:ByteArray)=>y7) (List.take y6.2 y6.1)) (List.take y5.1.2 y5.1.1),())).bind fun y8=>if ! (y8.1==y4.1)then some (false,())else(S.l_toChain (x.1,false,())).bind fun y9=>(S.l_intactChain ((y5.1.1,y5.1.2),(y9.1.1,y9.1.2),())).bind fun y10=>if !y10.1 then some (false,())else(S.l_toChain (x.1,true,())).bind fun y11=>(S.i_IsReversible (List.map (fun(y12:List ByteArray×Nat)=>List.map (fun(y13:ByteArray)=>y13) (List.take y12.2 y12.1)) (List.take y11.1.2 y11.1.1),())).bind fun y14=>if ! (y14.1==y4.1)then some (false,())else some (true,())
def S.l_FnExactIsReversible (x:((List (List ByteArray))×Unit)):(Option (Bool×Unit)):=P.l_FnExactIsReversible 0 x
theorem S.l_FnExactIsReversible_ok (x r) (h:S.l_FnExactIsReversible x=some r):∃k,P.l_FnExactIsReversible k x=some r:=⟨0,h⟩
end Go.Cm
end
