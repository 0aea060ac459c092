import Derived.Test.YtdpljomfkoojnaaGreatDoorPlAfterStepsc
set_option linter.unusedVariables false
set_option maxRecDepth 100000
noncomputable section
namespace Go.Cm
def P.i_rat_mul (k:Nat) (x:(Bool×List Int×List Int)×(Bool×List Int×List Int)×Unit):Option ((Bool×List Int×List Int)×Unit):=
 (S.i_rat_sign ((x.1.1,x.1.2.1,x.1.2.2),())).bind fun y0=>if y0.1==(0:Int)then(S.i_whole ((0:Int),())).bind fun y1=>some ((y1.1.1,y1.1.2.1,y1.1.2.2),())else(S.i_rat_sign ((x.2.1.1,x.2.1.2.1,x.2.1.2.2),())).bind fun y2=>if y2.1==(0:Int)then(S.i_whole ((0:Int),())).bind fun y3=>some ((y3.1.1,y3.1.2.1,y3.1.2.2),())else(S.i_lowest (false,x.1.2.1,x.2.1.2.2,())).bind fun y4=>(S.i_lowest (false,x.2.1.2.1,x.1.2.2,())).bind fun y5=>(S.i_nat_mul (y4.1.2.1,y5.1.2.1,())).bind fun y6=>(S.i_nat_mul (y4.1.2.2,y5.1.2.2,())).bind fun y7=>some ((! (x.1.1==x.2.1.1),y6.1,y7.1),())
theorem rm_mul (p q:Nat) (hp:(nd B32 p).length≤100000000) (hq:(nd B32 q).length≤100000000):S.i_nat_mul (nd B32 p,(nd B32 q,()))=some (nd B32 (p*q),()):=by
 unfold S.i_nat_mul
 dsimp only
 rw[if_pos ⟨dig_nd B32_le _,dig_nd B32_le _,by omega,by omega⟩,dval_nd B32_le,dval_nd B32_le]
theorem rm_low (n:Bool) (p q:Nat) (hp:(nd B32 p).length≤100000000) (hq:(nd B32 q).length≤100000000) (h0:q≠0):S.i_lowest (n,(nd B32 p,(nd B32 q,())))=some (rp B32 (lowN n p q),()):=by
 unfold S.i_lowest
 dsimp only
 rw[if_pos ⟨canon_nd B32_le _,canon_nd B32_le _,nd_ne B32_le h0,by omega,by omega⟩,dval_nd B32_le,dval_nd B32_le]
theorem rm_sign (n:Bool) (p:Nat) (bs:List Int):S.i_rat_sign ((n,(nd B32 p,bs)),())=some (sgnQ n p,()):=by
 unfold S.i_rat_sign
 dsimp only
 rw[if_pos (canon_nd B32_le _),dval_nd B32_le]
theorem rm_zero:S.i_whole (0,())=some (rp B32 (false,(0,1)),()):=by
 unfold S.i_whole
 rfl
def S.i_rat_mul (x:(RB×(RB×Unit))):(Option (RB×Unit)):=if lowb B32 40000000 x.1=true∧lowb B32 40000000 x.2.1=true then some (rp B32 (mulQ (rv B32 x.1) (rv B32 x.2.1)),())else none
theorem S.i_rat_mul_ok (x:(RB×(RB×Unit))) (r:_) (h:S.i_rat_mul x=some r):∃k,P.i_rat_mul k x=some r:=by
 obtain⟨x,y,u⟩:=x
 unfold S.i_rat_mul at h
 dsimp only at h
 split at h
 case isFalse=>cases h
 rename_i hc
 obtain⟨hx,hy⟩:=hc
 cases h
 rw[lowb_iff]at hx hy
 obtain⟨hx,lx⟩:=hx
 obtain⟨hy,ly⟩:=hy
 obtain⟨n1,p1,q1,rfl,x1,x2⟩:=rok_nd hx
 obtain⟨n2,p2,q2,rfl,y1,y2⟩:=rok_nd hy
 rw[rv_nd B32_le]at lx ly ⊢
 rw[rv_nd B32_le]
 have hq1:0<q1:=lx.1
 have hq2:0<q2:=ly.1
 refine⟨0,?_⟩
 unfold P.i_rat_mul mulQ
 dsimp only
 rw[rm_sign,Option.bind_some,rm_zero,Option.bind_some]
 dsimp only
 by_cases h1:p1=0
 ·rw[if_pos (by simpa using sgnQ_zero.2 h1),h1,Nat.zero_mul,lowN_zero _ (Nat.mul_pos hq1 hq2)]
 ·rw[if_neg (by simpa using fun q=>h1 (sgnQ_zero.1 q)),rm_sign,Option.bind_some]
  dsimp only
  by_cases h2:p2=0
  ·rw[if_pos (by simpa using sgnQ_zero.2 h2),h2,Nat.mul_zero,lowN_zero _ (Nat.mul_pos hq1 hq2)]
  ·have d1:=nd_div_len B32_le p1 (Nat.gcd p1 q2)
   have d2:=nd_div_len B32_le p2 (Nat.gcd p2 q1)
   have d3:=nd_div_len B32_le q2 (Nat.gcd p1 q2)
   have d4:=nd_div_len B32_le q1 (Nat.gcd p2 q1)
   rw[if_neg (by simpa using fun q=>h2 (sgnQ_zero.1 q)),rm_low false p1 q2 (by omega) (by omega) (by omega),Option.bind_some,rm_low false p2 q1 (by omega) (by omega) (by omega),Option.bind_some,cross_mul _ (fun _=>⟨h1,h2⟩) hq1 hq2 lx.2.2 ly.2.2]
   unfold rp lowN
   dsimp only
   rw[rm_mul _ _ (by omega) (by omega),Option.bind_some,rm_mul _ _ (by omega) (by omega),Option.bind_some]
   rfl
theorem ri_mul {x y:Q3} {m n:Nat} (hx:low x) (bx:below m x) (hy:low y) (bY:below n y) (hm:m≤350000000) (hn:n≤350000000):S.i_rat_mul (rp B32 x,(rp B32 y,()))=some (rp B32 (mulQ x y),()):=by
 unfold S.i_rat_mul
 dsimp only
 rw[if_pos ⟨lowb_rp9 (by decide) hx bx (by omega),lowb_rp9 (by decide) hy bY (by omega)⟩,rv_rp B32_le,rv_rp B32_le]
abbrev P.i_stepped_b6 (g4:Int×Int×List (Bool×List Int×List Int)×List (List (Bool×List Int×List Int))×List (Bool×List Int×List Int)×Unit→Option (List (Bool×List Int×List Int)×Unit)) (x7:Int×Int×List (Bool×List Int×List Int)×List (Bool×List Int×List Int)×(Bool×List Int×List Int)×Int×Int×List (Bool×List Int×List Int)×List (List (Bool×List Int×List Int))×Unit) (g8:Int×Int×List (Bool×List Int×List Int)×List (Bool×List Int×List Int)×(Bool×List Int×List Int)×Int×Int×List (Bool×List Int×List Int)×List (List (Bool×List Int×List Int))×Unit→Option (List (Bool×List Int×List Int)×Unit)):Option (List (Bool×List Int×List Int)×Unit):=
 if decide (x7.1<x7.2.1)then if decide ((0:Int)≤x7.1)then if decide (x7.1<(x7.2.2.1.length:Int))then if decide ((0:Int)≤x7.1)then if decide (x7.1<(x7.2.2.2.1.length:Int))then(S.i_rat_mul ((x7.2.2.2.2.1.1,x7.2.2.2.2.1.2.1,x7.2.2.2.2.1.2.2),((x7.2.2.1.getD x7.1.toNat (false,([]:List Int),([]:List Int))).1,(x7.2.2.1.getD x7.1.toNat (false,([]:List Int),([]:List Int))).2.1,(x7.2.2.1.getD x7.1.toNat (false,([]:List Int),([]:List Int))).2.2),())).bind fun y9=>(S.i_rat_add (((x7.2.2.2.1.getD ((0:Nat)+x7.1.toNat) (false,([]:List Int),([]:List Int))).1,(x7.2.2.2.1.getD ((0:Nat)+x7.1.toNat) (false,([]:List Int),([]:List Int))).2.1,(x7.2.2.2.1.getD ((0:Nat)+x7.1.toNat) (false,([]:List Int),([]:List Int))).2.2),(y9.1.1,y9.1.2.1,y9.1.2.2),())).bind fun y10=>if decide ((0:Int)≤x7.1)then if decide (x7.1<(x7.2.2.2.1.length:Int))then g8 (IntKind.wrap .i64 (x7.1+(1:Int)),x7.2.1,x7.2.2.1,x7.2.2.2.1.set ((0:Nat)+x7.1.toNat) (y10.1.1,y10.1.2.1,y10.1.2.2),(x7.2.2.2.2.1.1,x7.2.2.2.2.1.2.1,x7.2.2.2.2.1.2.2),x7.2.2.2.2.2.1,x7.2.2.2.2.2.2.1,x7.2.2.2.2.2.2.2.1,x7.2.2.2.2.2.2.2.2.1,())else none else none else none else none else none else none else g4 (IntKind.wrap .i64 (x7.2.2.2.2.2.1+(1:Int)),x7.2.2.2.2.2.2.1,x7.2.2.2.2.2.2.2.1,x7.2.2.2.2.2.2.2.2.1,x7.2.2.2.1,())
abbrev P.i_stepped_b2 (k:Nat) (x3:Int×Int×List (Bool×List Int×List Int)×List (List (Bool×List Int×List Int))×List (Bool×List Int×List Int)×Unit) (g4:Int×Int×List (Bool×List Int×List Int)×List (List (Bool×List Int×List Int))×List (Bool×List Int×List Int)×Unit→Option (List (Bool×List Int×List Int)×Unit)):Option (List (Bool×List Int×List Int)×Unit):=
 if decide (x3.1<x3.2.1)then if decide ((0:Int)≤x3.1)then if decide (x3.1<(x3.2.2.1.length:Int))then(S.i_rat_sign (((x3.2.2.1.getD x3.1.toNat (false,([]:List Int),([]:List Int))).1,(x3.2.2.1.getD x3.1.toNat (false,([]:List Int),([]:List Int))).2.1,(x3.2.2.1.getD x3.1.toNat (false,([]:List Int),([]:List Int))).2.2),())).bind fun y5=>if y5.1==(0:Int)then g4 (IntKind.wrap .i64 (x3.1+(1:Int)),x3.2.1,x3.2.2.1,x3.2.2.2.1,x3.2.2.2.2.1,())else if decide ((0:Int)≤x3.1)then if decide (x3.1<(x3.2.2.2.1.length:Int))then loopP (P.i_stepped_b6 g4) k ((0:Int),(List.length (x3.2.2.2.1.getD x3.1.toNat ([]:List (Bool×List Int×List Int))):Int),x3.2.2.2.1.getD x3.1.toNat ([]:List (Bool×List Int×List Int)),x3.2.2.2.2.1,((x3.2.2.1.getD x3.1.toNat (false,([]:List Int),([]:List Int))).1,(x3.2.2.1.getD x3.1.toNat (false,([]:List Int),([]:List Int))).2.1,(x3.2.2.1.getD x3.1.toNat (false,([]:List Int),([]:List Int))).2.2),x3.1,x3.2.1,x3.2.2.1,x3.2.2.2.1,())else none else none else none else none else some (x3.2.2.2.2.1,())
def P.i_stepped (k:Nat) (x:List (List (Bool×List Int×List Int))×List (Bool×List Int×List Int)×Unit):Option (List (Bool×List Int×List Int)×Unit):=
 (S.i_whole ((0:Int),())).bind fun y0=>(S.slices_Repeat__i_rat_i_rat ([(y0.1.1,y0.1.2.1,y0.1.2.2)],(x.2.1.length:Int),())).bind fun y1=>loopP (P.i_stepped_b2 k) k ((0:Int),(x.2.1.length:Int),x.2.1,x.1,y1.1,())
theorem mul_i {x y:Q3} (hx:low x) (bx:below 350000000 x) (hy:low y) (bY:below 350000000 y):S.i_rat_mul (((rp B32 x).1,(rp B32 x).2.1,(rp B32 x).2.2),((rp B32 y).1,(rp B32 y).2.1,(rp B32 y).2.2),())=some (rp B32 (mulQ x y),()):=ri_mul hx bx hy bY (Nat.le_refl _) (Nat.le_refl _)
theorem add_i {x y:Q3} (hx:low x) (bx:below 350000000 x) (hy:low y) (bY:below 350000000 y):S.i_rat_add (((rp B32 x).1,(rp B32 x).2.1,(rp B32 x).2.2),((rp B32 y).1,(rp B32 y).2.1,(rp B32 y).2.2),())=some (rp B32 (addQ x y),()):=ri_add hx bx hy bY (Nat.le_refl _) (Nat.le_refl _)
theorem sgn_i (q:Q3):S.i_rat_sign (((rp B32 q).1,(rp B32 q).2.1,(rp B32 q).2.2),())=some (sgnQ q.1 q.2.1,()):=by
 unfold S.i_rat_sign rp
 dsimp only
 rw[if_pos (canon_nd (by decide) _),dval_nd (by decide)]
theorem tab_rp (B n:Nat) (f:Nat→Q3) {i:Nat} (h:i<n):((tab n f).map (rp B)).getD i (false,(([]:List Int),([]:List Int)))=rp B (f i):=by
 rw[tab_map,tab_getD _ _ h]
theorem row_rp {B:Nat} {M:List (List Q3)} (h:isM M) {i j:Nat} (hi:i<M.length) (hj:j<M.length):((mp B M).getD i []).getD j (false,(([]:List Int),([]:List Int)))=rp B (mq M i j):=by
 rw[mp_at hi,getD_rp B (by rw[(isM_row h hi).1];exact hj)]
 rfl
theorem row_len {B:Nat} {M:List (List Q3)} (h:isM M) {i:Nat} (hi:i<M.length):((mp B M).getD i []).length=M.length:=by
 rw[mp_at hi,List.length_map,(isM_row h hi).1]
def dpQ (M:List (List Q3)) (w:List Q3) (i j:Nat):Q3:=dotQ (fun i=>w.getD i zeroQ) (fun i=>mq M i j) i
theorem dp_below {M:List (List Q3)} (h:isCh M) {w:List Q3} (hw:wOk M w 41) {i j:Nat} (hi:i≤M.length) (hj:j<M.length):low (dpQ M w i j)∧below 350000000 (dpQ M w i j):=by
 obtain⟨D,d1,d2⟩:=dot_ok h hw hj
 have hl:=hw.1
 have:=d2 i (by omega)
 have hp:=pow_big (t:=41) (c:=350000000) (by decide)
 exact⟨this.1,hd_below this hp (Nat.lt_of_le_of_lt d1 hp)⟩
theorem w_below {M:List (List Q3)} {w:List Q3} (hw:wOk M w 41) {i:Nat} (hi:i<w.length):low (w.getD i zeroQ)∧below 350000000 (w.getD i zeroQ):=by
 have:=wOk_below hw (by decide) rfl (w.getD i zeroQ) (by
  rw[List.getD_eq_getElem?_getD,List.getElem?_eq_getElem hi]
  exact List.getElem_mem hi)
 exact⟨this.1,below_mono (by decide) this.2⟩
theorem m_below {M:List (List Q3)} (h:isCh M) {i j:Nat} (hi:i<M.length) (hj:j<M.length):low (mq M i j)∧below 350000000 (mq M i j):=⟨(ch_at h hi hj).1,below_mono (by decide) (ch_at h hi hj).2.1⟩
theorem p_below {M:List (List Q3)} (h:isCh M) {w:List Q3} (hw:wOk M w 41) {i j:Nat} (hi:i<M.length) (hj:j<M.length):low (mulQ (w.getD i zeroQ) (mq M i j))∧below 350000000 (mulQ (w.getD i zeroQ) (mq M i j)):=by
 have hl:=hw.1
 have a:=wOk_below hw (by decide) rfl (w.getD i zeroQ) (by
  rw[List.getD_eq_getElem?_getD,List.getElem?_eq_getElem (by omega)]
  exact List.getElem_mem (by omega))
 have b:=ch_at h hi hj
 exact⟨mulQ_low _ _ a.1 b.1,below_mono (by decide) (mulQ_below a.2 b.2.1)⟩
theorem ist_inner {M:List (List Q3)} (h:isCh M) {w:List Q3} (hw:wOk M w 41) {i:Nat} (hi:i<M.length) (g:_→Option ((List RB)×Unit)) {K:Nat} (hK:M.length<K):
  loopP (P.i_stepped_b6 g) K ((0:Int),(M.length:Int),(mp B32 M).getD i [],(tab M.length (dpQ M w i)).map (rp B32),rp B32 (w.getD i zeroQ),(i:Int),(M.length:Int),w.map (rp B32),mp B32 M,())=g (((i+1:Nat):Int),(M.length:Int),w.map (rp B32),mp B32 M,(tab M.length (dpQ M w (i+1))).map (rp B32),()):=by
 have hn:=h.2.1.1
 have hl:=hw.1
 have key:=loop_up0 (k:=K) (b:=P.i_stepped_b6 g) (n:=M.length) (st:=fun j=>((j:Int),(M.length:Int),(mp B32 M).getD i [],(tab M.length fun v=>if v<j then dpQ M w (i+1) v else dpQ M w i v).map (rp B32),rp B32 (w.getD i zeroQ),(i:Int),(M.length:Int),w.map (rp B32),mp B32 M,())) (F:=fun _=>g (((i+1:Nat):Int),(M.length:Int),w.map (rp B32),mp B32 M,(tab M.length (dpQ M w (i+1))).map (rp B32),())) (fun j g' hj hg=>by
  unfold P.i_stepped_b6
  dsimp only at hg ⊢
  have e1:(j:Int)<(M.length:Int):=by omega
  have e2:(0:Int)≤(j:Int):=by omega
  have e3:((tab M.length fun v=>if v<j then dpQ M w (i+1) v else dpQ M w i v).map (rp B32)).length=M.length:=by rw[List.length_map,tab_len]
  rw[Int.toNat_natCast,Nat.zero_add,row_rp h.2.1 hi hj,row_len h.2.1 hi,e3,tab_rp B32 _ _ hj,if_neg (Nat.lt_irrefl j)]
  obtain⟨a1,a2⟩:=w_below hw (show i<w.length by omega)
  obtain⟨b1,b2⟩:=m_below h hi hj
  obtain⟨c1,c2⟩:=p_below h hw hi hj
  obtain⟨d1,d2⟩:=dp_below h hw (show i≤M.length by omega) hj
  rw[mul_i a1 a2 b1 b2,Option.bind_some,add_i d1 d2 c1 c2,Option.bind_some]
  simp only[e1,e2,decide_true,if_true]
  rw[wr (by omega) (by omega),←hg]
  have e4:((tab M.length fun v=>if v<j then dpQ M w (i+1) v else dpQ M w i v).map (rp B32)).set j (rp B32 (addQ (dpQ M w i j) (mulQ (w.getD i zeroQ) (mq M i j))))=(tab M.length fun v=>if v<j+1 then dpQ M w (i+1) v else dpQ M w i v).map (rp B32):=by
   rw[←List.map_set,tab_set]
   congr 1
   apply tab_congr
   intro v _
   by_cases e:v=j
   ·subst e
    rw[if_pos rfl,if_pos (by omega)]
    rfl
   ·rw[if_neg e]
    by_cases q:v<j
    ·rw[if_pos q,if_pos (by omega)]
    ·rw[if_neg q,if_neg (by omega)]
  rw[←e4]
  rfl) (fun g'=>by
  unfold P.i_stepped_b6
  dsimp only
  rw[if_neg (by simp),wr (by omega) (by omega)]
  have e:(tab M.length fun v=>if v<M.length then dpQ M w (i+1) v else dpQ M w i v)=tab M.length (dpQ M w (i+1)):=tab_congr fun v hv=>if_pos hv
  rw[e]
  rfl) hK
 refine Eq.trans ?_ key
 have e:(tab M.length fun v=>if v<0 then dpQ M w (i+1) v else dpQ M w i v)=tab M.length (dpQ M w i):=tab_congr fun v _=>if_neg (Nat.not_lt_zero v)
 rw[e]
 rfl
open Classical in
def S.i_stepped (x:((List (List RB))×((List RB)×Unit))):(Option ((List RB)×Unit)):=if ∃(M:List (List Q3)) (w:List Q3),isCh M∧x.1=mp B32 M∧x.2.1=w.map (rp B32)∧wOk M w 41 then some ((stepQ (mv B32 x.1) (x.2.1.map (rv B32))).map (rp B32),())else none
theorem S.i_stepped_ok (x:((List (List RB))×((List RB)×Unit))) (r:_) (h:S.i_stepped x=some r):∃k,P.i_stepped k x=some r:=by
 obtain⟨m,xs,u⟩:=x
 unfold S.i_stepped at h
 dsimp only at h
 split at h
 case isFalse=>cases h
 rename_i hc
 obtain⟨M,w,hM,rfl,rfl,hw⟩:=hc
 cases h
 rw[mv_mp (by decide),map_rv B32_le]
 have hn:=hM.2.1.1
 have hl:=hw.1
 refine⟨M.length+1,?_⟩
 unfold P.i_stepped
 dsimp only
 have ez:S.i_whole (0,())=some (rp B32 zeroQ,()):=by rfl
 have er:S.slices_Repeat__i_rat_i_rat ([rp B32 zeroQ],(M.length:Int),())=some ((tab M.length (dpQ M w 0)).map (rp B32),()):=by
  unfold S.slices_Repeat__i_rat_i_rat
  dsimp only
  rw[if_pos ⟨rfl,by omega,by omega⟩,Int.toNat_natCast,tab_map]
  congr 2
  apply List.ext_getElem
  ·rw[List.length_replicate,tab_len]
  ·intro i h1 h2
   rw[List.length_replicate]at h1
   rw[List.getElem_replicate,tab_get _ h1]
   rfl
 have er':S.slices_Repeat__i_rat_i_rat ([((rp B32 zeroQ).1,(rp B32 zeroQ).2.1,(rp B32 zeroQ).2.2)],(M.length:Int),())=some ((tab M.length (dpQ M w 0)).map (rp B32),()):=er
 rw[ez,Option.bind_some,List.length_map,hl,er',Option.bind_some]
 have key:=loop_up0 (k:=M.length+1) (b:=P.i_stepped_b2 (M.length+1)) (n:=M.length) (st:=fun i=>((i:Int),(M.length:Int),w.map (rp B32),mp B32 M,(tab M.length (dpQ M w i)).map (rp B32),())) (F:=fun _=>some ((stepQ M w).map (rp B32),())) (fun i g hi hg=>by
  unfold P.i_stepped_b2
  dsimp only at hg ⊢
  have e1:(i:Int)<(M.length:Int):=by omega
  have e2:(0:Int)≤(i:Int):=by omega
  have e3:((w.map (rp B32)).length:Int)=(M.length:Int):=by rw[List.length_map,hl]
  have e4:((mp B32 M).length:Int)=(M.length:Int):=by rw[mp_len]
  rw[Int.toNat_natCast,getD_rp B32 (show i<w.length by omega),sgn_i,Option.bind_some,e3,e4,row_len hM.2.1 hi]
  simp only[e1,e2,decide_true,if_true]
  by_cases h0:(w.getD i zeroQ).2.1=0
  ·rw[if_pos (by rw[beq_iff_eq];exact sgnQ_zero.2 h0),wr (by omega) (by omega),←hg]
   have e5:tab M.length (dpQ M w i)=tab M.length (dpQ M w (i+1)):=tab_congr fun j hj=>by
    obtain⟨a1,a2⟩:=w_below hw (show i<w.length by omega)
    obtain⟨b1,b2⟩:=m_below hM hi hj
    obtain⟨c1,c2⟩:=p_below hM hw hi hj
    obtain⟨d1,d2⟩:=dp_below hM hw (show i≤M.length by omega) hj
    show dpQ M w i j=addQ (dpQ M w i j) (mulQ (w.getD i zeroQ) (mq M i j))
    apply qv_inj d1 (addQ_low _ _ d1 c1)
    rw[qv_add d1 c1,qv_mul a1 b1,(qv_zero_iff a1).2 h0]
    grind
   rw[e5]
   rfl
  ·rw[if_neg (by rw[beq_iff_eq];exact fun q=>h0 (sgnQ_zero.1 q))]
   exact(ist_inner hM hw hi g (Nat.lt_succ_self _)).trans hg) (fun g=>by
  unfold P.i_stepped_b2
  dsimp only
  rw[if_neg (by simp)]
  unfold stepQ
  rw[hl]
  have:(fun j=>dotQ (fun i=>w.getD i zeroQ) (fun i=>mq M i j) M.length)=dpQ M w M.length:=rfl
  rw[this]) (by omega)
 exact key
abbrev P.i_after_b0 (x1:Int×Int×List (List (Bool×List Int×List Int))×List (Bool×List Int×List Int)×Unit) (g2:Int×Int×List (List (Bool×List Int×List Int))×List (Bool×List Int×List Int)×Unit→Option (List (Bool×List Int×List Int)×Unit)):Option (List (Bool×List Int×List Int)×Unit):=
 if decide (x1.1<x1.2.1)then(S.i_stepped (x1.2.2.1,x1.2.2.2.1,())).bind fun y3=>g2 (IntKind.wrap .i64 (x1.1+(1:Int)),x1.2.1,x1.2.2.1,y3.1,())else some (x1.2.2.2.1,())
def P.i_after (k:Nat) (x:List (List (Bool×List Int×List Int))×List (Bool×List Int×List Int)×Int×Unit):Option (List (Bool×List Int×List Int)×Unit):=
 loopP P.i_after_b0 k ((0:Int),x.2.2.1,x.1,x.2.1,())
open Classical in
def S.i_after (x:((List (List RB))×((List RB)×(Int×Unit)))):(Option ((List RB)×Unit)):=if ∃(M:List (List Q3)) (w:List Q3),isCh M∧x.1=mp B32 M∧x.2.1=w.map (rp B32)∧wOk M w 0∧0≤x.2.2.1∧x.2.2.1≤40 then some ((afterQ (mv B32 x.1) x.2.2.1.toNat (x.2.1.map (rv B32))).map (rp B32),())else none
theorem S.i_after_ok (x:((List (List RB))×((List RB)×(Int×Unit)))) (r:_) (h:S.i_after x=some r):∃k,P.i_after k x=some r:=by
 obtain⟨m,xs,s,u⟩:=x
 unfold S.i_after at h
 dsimp only at h
 split at h
 case isFalse=>cases h
 rename_i hc
 obtain⟨M,w,hM,rfl,rfl,hw,h0,h1⟩:=hc
 cases h
 rw[mv_mp (by decide),map_rv B32_le]
 obtain⟨s,rfl⟩:=Int.eq_ofNat_of_zero_le h0
 refine⟨s+1,?_⟩
 unfold P.i_after
 dsimp only
 have key:=loop_up0 (k:=s+1) (b:=P.i_after_b0) (n:=s) (st:=fun i=>((i:Int),(s:Int),mp B32 M,(afterQ M i w).map (rp B32),())) (F:=fun _=>some ((afterQ M s w).map (rp B32),())) (fun i g hi hg=>by
  unfold P.i_after_b0
  dsimp only at hg ⊢
  have e1:(i:Int)<(s:Int):=by omega
  have hk:wOk M (afterQ M i w) 41:=wOk_mono (afterQ_ok hM i w 0 hw) (by omega)
  have es:S.i_stepped (mp B32 M,(afterQ M i w).map (rp B32),())=some ((afterQ M (i+1) w).map (rp B32),()):=by
   unfold S.i_stepped
   dsimp only
   rw[if_pos ⟨M,_,hM,rfl,rfl,hk⟩,mv_mp (by decide),map_rv B32_le,afterQ_succ]
  rw[if_pos (decide_eq_true e1),es,Option.bind_some,wr (by omega) (by omega)]
  exact hg) (fun g=>by
  unfold P.i_after_b0
  dsimp only
  rw[if_neg (by simp)]) (by omega)
 exact key
def P.i_rat_cmp (k:Nat) (x:(Bool×List Int×List Int)×(Bool×List Int×List Int)×Unit):Option (Int×Unit):=
 (S.i_rat_sign ((x.1.1,x.1.2.1,x.1.2.2),())).bind fun y0=>(S.i_rat_sign ((x.2.1.1,x.2.1.2.1,x.2.1.2.2),())).bind fun y1=>if y0.1 != y1.1 then(S.i_rat_sign ((x.1.1,x.1.2.1,x.1.2.2),())).bind fun y2=>(S.i_rat_sign ((x.2.1.1,x.2.1.2.1,x.2.1.2.2),())).bind fun y3=>some (IntKind.wrap .i64 (y2.1 - y3.1),())else(S.i_nat_mul (x.1.2.1,x.2.1.2.2,())).bind fun y4=>(S.i_nat_mul (x.2.1.2.1,x.1.2.2,())).bind fun y5=>(S.i_nat_cmp (y4.1,y5.1,())).bind fun y6=>if x.1.1 then some (IntKind.wrap .i64 ((0:Int) - y6.1),())else some (y6.1,())
def S.i_rat_cmp (x:(RB×(RB×Unit))):(Option (Int×Unit)):=P.i_rat_cmp 0 x
theorem S.i_rat_cmp_ok (x:(RB×(RB×Unit))) (r:_) (h:S.i_rat_cmp x=some r):∃k,P.i_rat_cmp k x=some r:=⟨0,h⟩
theorem ri_cmp {x y:Q3} (hx:low x) (hy:low y) (bx:below 350000000 x) (bY:below 350000000 y):S.i_rat_cmp (rp B32 x,(rp B32 y,()))=some (cmpZ x y,()):=by
 have sg:∀r:Q3,S.i_rat_sign (rp B32 r,())=some (sgnQ r.1 r.2.1,()):=by
  intro r
  unfold S.i_rat_sign rp
  dsimp only
  rw[if_pos (canon_nd B32_le _),dval_nd B32_le]
 have kx:=rok_iff.1 (below_rok9 (B:=B32) (N:=40000000) (by decide) bx (by decide))
 have ky:=rok_iff.1 (below_rok9 (B:=B32) (N:=40000000) (by decide) bY (by decide))
 have mul:∀p q:Nat,(nd B32 p).length≤40000000→(nd B32 q).length≤40000000→S.i_nat_mul (nd B32 p,(nd B32 q,()))=some (nd B32 (p*q),()):=by
  intro p q hp hq
  unfold S.i_nat_mul
  dsimp only
  rw[if_pos ⟨dig_nd B32_le _,dig_nd B32_le _,by omega,by omega⟩,dval_nd B32_le,dval_nd B32_le]
 have l1:(nd B32 x.2.1).length≤40000000:=kx.2.2.1
 have l2:(nd B32 x.2.2).length≤40000000:=kx.2.2.2
 have l3:(nd B32 y.2.1).length≤40000000:=ky.2.2.1
 have l4:(nd B32 y.2.2).length≤40000000:=ky.2.2.2
 have lm:=nd_mul_len B32_le x.2.1 y.2.2
 have hc:S.i_nat_cmp (nd B32 (x.2.1*y.2.2),(nd B32 (y.2.1*x.2.2),()))=some (cmpN (x.2.1*y.2.2) (y.2.1*x.2.2),()):=by
  unfold S.i_nat_cmp
  dsimp only
  rw[if_pos ⟨canon_nd B32_le _,canon_nd B32_le _,by omega⟩,dval_nd B32_le,dval_nd B32_le]
 have hr:=cmpN_range (x.2.1*y.2.2) (y.2.1*x.2.2)
 have s1:∀r:Q3, -1≤sgnQ r.1 r.2.1∧sgnQ r.1 r.2.1≤1:=by
  intro r
  unfold sgnQ
  split
  ·omega
  ·split<;>omega
 have sx:=s1 x
 have sy:=s1 y
 unfold S.i_rat_cmp P.i_rat_cmp cmpZ
 dsimp only
 show Option.bind (S.i_rat_sign (rp B32 x,())) (fun y0=>Option.bind (S.i_rat_sign (rp B32 y,())) (fun y1=>if(y0.1 != y1.1)=true then Option.bind (S.i_rat_sign (rp B32 x,())) (fun y2=>Option.bind (S.i_rat_sign (rp B32 y,())) (fun y3=>some (IntKind.wrap .i64 (y2.1 - y3.1),())))else Option.bind (S.i_nat_mul (nd B32 x.2.1,(nd B32 y.2.2,()))) (fun y4=>Option.bind (S.i_nat_mul (nd B32 y.2.1,(nd B32 x.2.2,()))) (fun y5=>Option.bind (S.i_nat_cmp (y4.1,(y5.1,()))) (fun y6=>if x.1=true then some (IntKind.wrap .i64 (0 - y6.1),())else some (y6.1,()))))))=_
 rw[sg x,sg y,mul _ _ l1 l4,mul _ _ l3 l2]
 simp only[Option.bind_some]
 rw[hc]
 simp only[Option.bind_some]
 by_cases hs:sgnQ x.1 x.2.1=sgnQ y.1 y.2.1
 ·rw[if_neg (show ¬((sgnQ x.1 x.2.1 != sgnQ y.1 y.2.1)=true) by simpa using hs),if_neg (show ¬(sgnQ x.1 x.2.1≠sgnQ y.1 y.2.1) by simpa using hs)]
  cases hn:x.1
  ·rfl
  ·simp only[if_true]
   rw[wr (by omega) (by omega),Int.zero_sub]
 ·rw[if_pos (show(sgnQ x.1 x.2.1 != sgnQ y.1 y.2.1)=true by simpa using hs),if_pos (show sgnQ x.1 x.2.1≠sgnQ y.1 y.2.1 from hs),wr (by omega) (by omega)]
def P.i_rat_isOne (k:Nat) (x:(Bool×List Int×List Int)×Unit):Option (Bool×Unit):=
 (S.i_whole ((1:Int),())).bind fun y0=>(S.i_rat_cmp ((x.1.1,x.1.2.1,x.1.2.2),(y0.1.1,y0.1.2.1,y0.1.2.2),())).bind fun y1=>some (y1.1==(0:Int),())
def S.i_rat_isOne (x:(RB×Unit)):(Option (Bool×Unit)):=if rok B32 40000000 x.1=true∧qok (rv B32 x.1)=true then some (isOneQ (rv B32 x.1),())else none
theorem S.i_rat_isOne_ok (x:(RB×Unit)) (r:_) (h:S.i_rat_isOne x=some r):∃k,P.i_rat_isOne k x=some r:=by
 obtain⟨x,u⟩:=x
 unfold S.i_rat_isOne at h
 dsimp only at h
 split at h
 case isFalse=>cases h
 rename_i hc
 obtain⟨hr,hq⟩:=hc
 obtain⟨n,p,q,rfl,l1,l2⟩:=rok_nd hr
 rw[rv_nd B32_le]at h hq
 rw[qok_iff]at hq
 obtain⟨h0,h1⟩:=hq
 dsimp only at h0 h1
 cases h
 refine⟨0,?_⟩
 have hw:S.i_whole (1,())=some ((false,(nd B32 1,nd B32 1)),()):=by rfl
 unfold P.i_rat_isOne isOneQ
 dsimp only
 rw[hw,Option.bind_some]
 dsimp only
 unfold S.i_rat_cmp P.i_rat_cmp
 dsimp only
 have hs:∀(n:Bool) (p:Nat) (ys:List Int),S.i_rat_sign ((n,(nd B32 p,ys)),())=some (sgnQ n p,()):=by
  intro n p ys
  unfold S.i_rat_sign
  dsimp only
  rw[if_pos (canon_nd B32_le _),dval_nd B32_le]
 have o1:(nd B32 1).length≤40000000:=by rw[nd_one B32_le];decide
 have em:∀p q,(nd B32 p).length≤40000000→(nd B32 q).length≤40000000→S.i_nat_mul (nd B32 p,(nd B32 q,()))=some (nd B32 (p*q),()):=by
  intro p q hp hq
  unfold S.i_nat_mul
  dsimp only
  rw[if_pos ⟨dig_nd B32_le _,dig_nd B32_le _,by omega,by omega⟩,dval_nd B32_le,dval_nd B32_le]
 have ec:S.i_nat_cmp (nd B32 (p*1),(nd B32 (1*q),()))=some (cmpN (p*1) (1*q),()):=by
  unfold S.i_nat_cmp
  dsimp only
  rw[if_pos ⟨canon_nd B32_le _,canon_nd B32_le _,by rw[Nat.mul_one];omega⟩,dval_nd B32_le,dval_nd B32_le]
 rw[hs,Option.bind_some,hs,Option.bind_some]
 dsimp only
 have s1:sgnQ false 1=1:=rfl
 rw[s1]
 by_cases hp:p=0
 ·subst hp
  rw[decide_eq_false (fun z=>by have:=z.2;omega)]
  rfl
 ·cases n
  ·have s2:sgnQ false p=1:=by
    unfold sgnQ
    rw[if_neg hp]
    rfl
   rw[s2,if_neg (by decide),em _ _ l1 o1,Option.bind_some,em _ _ o1 l2,Option.bind_some]
   dsimp only
   rw[ec,Option.bind_some]
   dsimp only
   rw[if_neg (by decide),Option.bind_some]
   have hz:=cmpN_zero (a:=p*1) (b:=1*q)
   rw[Nat.mul_one,Nat.one_mul]at hz ⊢
   by_cases he:p=q
   ·rw[decide_eq_true ⟨rfl,he⟩,hz.2 he]
    rfl
   ·rw[decide_eq_false (fun z=>he z.2)]
    dsimp only
    rw[beq_eq_false_iff_ne.2 (fun z=>he (hz.1 z))]
  ·have s2:sgnQ true p= -1:=by
    unfold sgnQ
    rw[if_neg hp]
    rfl
   rw[s2,decide_eq_false (fun z=>by cases z.1)]
   rfl
def S.strings_Cut (x:(ByteArray×(ByteArray×Unit))):(Option ((ByteArray×(ByteArray×Bool))×Unit)):=if x.1.size<4294967281 then some ((⟨(Go.Lib.cut x.1.data.toList x.2.1.data.toList).1.toArray⟩,(⟨(Go.Lib.cut x.1.data.toList x.2.1.data.toList).2.1.toArray⟩,(Go.Lib.cut x.1.data.toList x.2.1.data.toList).2.2)),())else none
def S.strings_CutPrefix (x:(ByteArray×(ByteArray×Unit))):(Option ((ByteArray×Bool)×Unit)):=some ((⟨(Go.Lib.trimPrefix x.1.data.toList x.2.1.data.toList).toArray⟩,Go.Lib.hasPrefix x.1.data.toList x.2.1.data.toList),())
def S.strconv_ParseUint (x:(ByteArray×(Int×(Int×Unit)))):(Option ((Int×Bool)×Unit)):=if x.2.1=10∧x.2.2.1=64∧x.1.size≤281474976710656 then some (match Go.Lib.parseUintB 64 x.1.data.toList with| .ok v=>(((v:Nat):Int),false)| .«syntax» =>(0,true)| .range=>(18446744073709551615,true),())else none
abbrev P.i_readNat_b7 (g5:ByteArray×List Int×Unit→Option ((List Int×Bool)×Unit)) (x8:Int×Int×Int×List Int×Int×ByteArray×Int×Unit) (g9:Int×Int×Int×List Int×Int×ByteArray×Int×Unit→Option ((List Int×Bool)×Unit)):Option ((List Int×Bool)×Unit):=
 if decide (x8.1<x8.2.1)then g9 (IntKind.wrap .i64 (x8.1+(1:Int)),x8.2.1,IntKind.wrap .u64 (x8.2.2.1*(10:Int)),x8.2.2.2.1,x8.2.2.2.2.1,x8.2.2.2.2.2.1,x8.2.2.2.2.2.2.1,())else(S.i_natOf (x8.2.2.1,())).bind fun y10=>(S.i_nat_mul (x8.2.2.2.1,y10.1,())).bind fun y11=>(S.i_natOf (x8.2.2.2.2.1,())).bind fun y12=>(S.i_nat_add (y11.1,y12.1,())).bind fun y13=>if decide ((0:Int)≤(x8.2.2.2.2.2.1.size:Int))then if decide ((x8.2.2.2.2.2.1.size:Int)≤(x8.2.2.2.2.2.1.size:Int))then if decide ((0:Int)≤x8.2.2.2.2.2.2.1)then if decide (x8.2.2.2.2.2.2.1≤(x8.2.2.2.2.2.1.size:Int))then g5 (ByteArray.extract x8.2.2.2.2.2.1 x8.2.2.2.2.2.2.1.toNat (Int.toNat (x8.2.2.2.2.2.1.size:Int)),y13.1,())else none else none else none else none
abbrev P.i_readNat_b15 (g5:ByteArray×List Int×Unit→Option ((List Int×Bool)×Unit)) (x16:Int×Int×Int×List Int×Int×ByteArray×Int×Unit) (g17:Int×Int×Int×List Int×Int×ByteArray×Int×Unit→Option ((List Int×Bool)×Unit)):Option ((List Int×Bool)×Unit):=
 if decide (x16.1<x16.2.1)then g17 (IntKind.wrap .i64 (x16.1+(1:Int)),x16.2.1,IntKind.wrap .u64 (x16.2.2.1*(10:Int)),x16.2.2.2.1,x16.2.2.2.2.1,x16.2.2.2.2.2.1,x16.2.2.2.2.2.2.1,())else(S.i_natOf (x16.2.2.1,())).bind fun y18=>(S.i_nat_mul (x16.2.2.2.1,y18.1,())).bind fun y19=>(S.i_natOf (x16.2.2.2.2.1,())).bind fun y20=>(S.i_nat_add (y19.1,y20.1,())).bind fun y21=>if decide ((0:Int)≤(x16.2.2.2.2.2.1.size:Int))then if decide ((x16.2.2.2.2.2.1.size:Int)≤(x16.2.2.2.2.2.1.size:Int))then if decide ((0:Int)≤x16.2.2.2.2.2.2.1)then if decide (x16.2.2.2.2.2.2.1≤(x16.2.2.2.2.2.1.size:Int))then g5 (ByteArray.extract x16.2.2.2.2.2.1 x16.2.2.2.2.2.2.1.toNat (Int.toNat (x16.2.2.2.2.2.1.size:Int)),y21.1,())else none else none else none else none
abbrev P.i_readNat_b3 (k:Nat) (x4:ByteArray×List Int×Unit) (g5:ByteArray×List Int×Unit→Option ((List Int×Bool)×Unit)):Option ((List Int×Bool)×Unit):=
 if ! ((ByteArray.toList x4.1)==(ByteArray.toList (bs [])))then if(Int.tmod (x4.1.size:Int) (9:Int))==(0:Int)then if decide ((9:Int)≤(x4.1.size:Int))then(S.strconv_ParseUint (ByteArray.extract x4.1 (0:Nat) (9:Nat),(10:Int),(64:Int),())).bind fun y6=>loopP (P.i_readNat_b7 g5) k ((0:Int),(9:Int),(1:Int),x4.2.1,y6.1.1,x4.1,(9:Int),())else none else if decide ((0:Int)≤(Int.tmod (x4.1.size:Int) (9:Int)))then if decide ((Int.tmod (x4.1.size:Int) (9:Int))≤(x4.1.size:Int))then if decide ((0:Int)≤(Int.tmod (x4.1.size:Int) (9:Int)))then(S.strconv_ParseUint (ByteArray.extract x4.1 (0:Nat) (Int.toNat (Int.tmod (x4.1.size:Int) (9:Int))),(10:Int),(64:Int),())).bind fun y14=>loopP (P.i_readNat_b15 g5) k ((0:Int),Int.tmod (x4.1.size:Int) (9:Int),(1:Int),x4.2.1,y14.1.1,x4.1,Int.tmod (x4.1.size:Int) (9:Int),())else none else none else none else some ((x4.2.1,true),())
abbrev P.i_readNat_b0 (k:Nat) (x1:Int×Int×ByteArray×List Int×Unit) (g2:Int×Int×ByteArray×List Int×Unit→Option ((List Int×Bool)×Unit)):Option ((List Int×Bool)×Unit):=
 if decide (x1.1<x1.2.1)then if decide ((0:Int)≤x1.1)then if decide (x1.1<(x1.2.2.1.size:Int))then if decide ((byteAt x1.2.2.1 x1.1)<(48:Int))then some ((([]:List Int),false),())else if decide ((0:Int)≤x1.1)then if decide (x1.1<(x1.2.2.1.size:Int))then if decide ((byteAt x1.2.2.1 x1.1)>(57:Int))then some ((([]:List Int),false),())else g2 (IntKind.wrap .i64 (x1.1+(1:Int)),x1.2.1,x1.2.2.1,x1.2.2.2.1,())else none else none else none else none else loopP (P.i_readNat_b3 k) k (x1.2.2.1,x1.2.2.2.1,())
abbrev P.i_readNat_b29 (g27:ByteArray×List Int×Unit→Option ((List Int×Bool)×Unit)) (x30:Int×Int×Int×List Int×Int×ByteArray×Int×Unit) (g31:Int×Int×Int×List Int×Int×ByteArray×Int×Unit→Option ((List Int×Bool)×Unit)):Option ((List Int×Bool)×Unit):=
 if decide (x30.1<x30.2.1)then g31 (IntKind.wrap .i64 (x30.1+(1:Int)),x30.2.1,IntKind.wrap .u64 (x30.2.2.1*(10:Int)),x30.2.2.2.1,x30.2.2.2.2.1,x30.2.2.2.2.2.1,x30.2.2.2.2.2.2.1,())else(S.i_natOf (x30.2.2.1,())).bind fun y32=>(S.i_nat_mul (x30.2.2.2.1,y32.1,())).bind fun y33=>(S.i_natOf (x30.2.2.2.2.1,())).bind fun y34=>(S.i_nat_add (y33.1,y34.1,())).bind fun y35=>if decide ((0:Int)≤(x30.2.2.2.2.2.1.size:Int))then if decide ((x30.2.2.2.2.2.1.size:Int)≤(x30.2.2.2.2.2.1.size:Int))then if decide ((0:Int)≤x30.2.2.2.2.2.2.1)then if decide (x30.2.2.2.2.2.2.1≤(x30.2.2.2.2.2.1.size:Int))then g27 (ByteArray.extract x30.2.2.2.2.2.1 x30.2.2.2.2.2.2.1.toNat (Int.toNat (x30.2.2.2.2.2.1.size:Int)),y35.1,())else none else none else none else none
abbrev P.i_readNat_b37 (g27:ByteArray×List Int×Unit→Option ((List Int×Bool)×Unit)) (x38:Int×Int×Int×List Int×Int×ByteArray×Int×Unit) (g39:Int×Int×Int×List Int×Int×ByteArray×Int×Unit→Option ((List Int×Bool)×Unit)):Option ((List Int×Bool)×Unit):=
 if decide (x38.1<x38.2.1)then g39 (IntKind.wrap .i64 (x38.1+(1:Int)),x38.2.1,IntKind.wrap .u64 (x38.2.2.1*(10:Int)),x38.2.2.2.1,x38.2.2.2.2.1,x38.2.2.2.2.2.1,x38.2.2.2.2.2.2.1,())else(S.i_natOf (x38.2.2.1,())).bind fun y40=>(S.i_nat_mul (x38.2.2.2.1,y40.1,())).bind fun y41=>(S.i_natOf (x38.2.2.2.2.1,())).bind fun y42=>(S.i_nat_add (y41.1,y42.1,())).bind fun y43=>if decide ((0:Int)≤(x38.2.2.2.2.2.1.size:Int))then if decide ((x38.2.2.2.2.2.1.size:Int)≤(x38.2.2.2.2.2.1.size:Int))then if decide ((0:Int)≤x38.2.2.2.2.2.2.1)then if decide (x38.2.2.2.2.2.2.1≤(x38.2.2.2.2.2.1.size:Int))then g27 (ByteArray.extract x38.2.2.2.2.2.1 x38.2.2.2.2.2.2.1.toNat (Int.toNat (x38.2.2.2.2.2.1.size:Int)),y43.1,())else none else none else none else none
abbrev P.i_readNat_b25 (k:Nat) (x26:ByteArray×List Int×Unit) (g27:ByteArray×List Int×Unit→Option ((List Int×Bool)×Unit)):Option ((List Int×Bool)×Unit):=
 if ! ((ByteArray.toList x26.1)==(ByteArray.toList (bs [])))then if(Int.tmod (x26.1.size:Int) (9:Int))==(0:Int)then if decide ((9:Int)≤(x26.1.size:Int))then(S.strconv_ParseUint (ByteArray.extract x26.1 (0:Nat) (9:Nat),(10:Int),(64:Int),())).bind fun y28=>loopP (P.i_readNat_b29 g27) k ((0:Int),(9:Int),(1:Int),x26.2.1,y28.1.1,x26.1,(9:Int),())else none else if decide ((0:Int)≤(Int.tmod (x26.1.size:Int) (9:Int)))then if decide ((Int.tmod (x26.1.size:Int) (9:Int))≤(x26.1.size:Int))then if decide ((0:Int)≤(Int.tmod (x26.1.size:Int) (9:Int)))then(S.strconv_ParseUint (ByteArray.extract x26.1 (0:Nat) (Int.toNat (Int.tmod (x26.1.size:Int) (9:Int))),(10:Int),(64:Int),())).bind fun y36=>loopP (P.i_readNat_b37 g27) k ((0:Int),Int.tmod (x26.1.size:Int) (9:Int),(1:Int),x26.2.1,y36.1.1,x26.1,Int.tmod (x26.1.size:Int) (9:Int),())else none else none else none else some ((x26.2.1,true),())
abbrev P.i_readNat_b22 (k:Nat) (x23:Int×Int×ByteArray×List Int×Unit) (g24:Int×Int×ByteArray×List Int×Unit→Option ((List Int×Bool)×Unit)):Option ((List Int×Bool)×Unit):=
 if decide (x23.1<x23.2.1)then if decide ((0:Int)≤x23.1)then if decide (x23.1<(x23.2.2.1.size:Int))then if decide ((byteAt x23.2.2.1 x23.1)<(48:Int))then some ((([]:List Int),false),())else if decide ((0:Int)≤x23.1)then if decide (x23.1<(x23.2.2.1.size:Int))then if decide ((byteAt x23.2.2.1 x23.1)>(57:Int))then some ((([]:List Int),false),())else g24 (IntKind.wrap .i64 (x23.1+(1:Int)),x23.2.1,x23.2.2.1,x23.2.2.2.1,())else none else none else none else none else loopP (P.i_readNat_b25 k) k (x23.2.2.1,x23.2.2.2.1,())
def P.i_readNat (k:Nat) (x:ByteArray×Unit):Option ((List Int×Bool)×Unit):=
 if(ByteArray.toList x.1)==(ByteArray.toList (bs []))then some ((([]:List Int),false),())else if decide ((x.1.size:Int)>(200:Int))then some ((([]:List Int),false),())else if decide ((0:Int)<(x.1.size:Int))then if(byteAt x.1 (0:Int))==(48:Int)then if decide ((x.1.size:Int)>(1:Int))then some ((([]:List Int),false),())else loopP (P.i_readNat_b0 k) k ((0:Int),(x.1.size:Int),x.1,([]:List Int),())else loopP (P.i_readNat_b22 k) k ((0:Int),(x.1.size:Int),x.1,([]:List Int),())else none
theorem rn_len {p m:Nat} (h:p<10^m):(nd B32 p).length≤m:=by
 rw[nd_len B32_le]
 exact Nat.lt_of_lt_of_le h (Nat.pow_le_pow_left (by decide) _)
theorem rn_times (g:((ByteArray×((List Int)×Unit))→(Option (((List Int)×Bool)×Unit)))) (t:ByteArray) (p v n:Nat) (hn:n≤9) (hv:v<10^n) (hp:p<10^200) (hnl:n≤t.size) (K:Nat) (hK:n<K):
  loopP (P.i_readNat_b7 g) K ((0:Int),((n:Int),((1:Int),(nd B32 p,((v:Int),(t,((n:Int),())))))))=g (ByteArray.extract t n t.size,(nd B32 (p*10^n+v),())):=by
 have hp9:10^n≤10^9:=Nat.pow_le_pow_right (by decide) hn
 have h9:(10:Nat)^9=1000000000:=by decide
 have key:=loop_up0 (k:=K) (b:=P.i_readNat_b7 g) (n:=n) (st:=fun i=>((i:Int),(n:Int),((10^i:Nat):Int),nd B32 p,(v:Int),t,(n:Int),())) (F:=fun i=>g (ByteArray.extract t n t.size,(nd B32 (p*10^n+v),()))) (fun i g' hi hg'=>by
  unfold P.i_readNat_b7
  dsimp only at hg' ⊢
  refine Eq.trans ?_ hg'
  have e1:(i:Int)<(n:Int):=by omega
  have hpi:10^(i+1)≤10^9:=Nat.pow_le_pow_right (by decide) (by omega)
  rw[Nat.pow_succ]at hpi ⊢
  rw[if_pos (decide_eq_true e1),wr (by omega) (by omega),show((10^i:Nat):Int)*10=((10^i*10:Nat):Int) by omega,wu (by omega) (by omega)]
  rfl) (fun g'=>by
  unfold P.i_readNat_b7
  dsimp only
  rw[if_neg (by simp)]
  unfold S.i_natOf S.i_nat_mul S.i_nat_add
  dsimp only
  have hl1:=rn_len hp
  have hl2:=rn_len (p:=10^n) (m:=10) (by omega)
  have hl3:(nd B32 (p*10^n)).length≤209:=rn_len (by
   have:p*10^n<10^200*10^9:=Nat.mul_lt_mul_of_lt_of_le hp hp9 (Nat.pow_pos (by decide))
   rwa [←Nat.pow_add]at this)
  have hl4:=rn_len (p:=v) (m:=9) (by omega)
  rw[if_pos ⟨by omega,by omega⟩,Option.bind_some,Int.toNat_natCast]
  dsimp only
  rw[if_pos ⟨dig_nd B32_le _,dig_nd B32_le _,by omega,by omega⟩,Option.bind_some,if_pos ⟨by omega,by omega⟩,Option.bind_some,Int.toNat_natCast]
  dsimp only
  rw[dval_nd B32_le,dval_nd B32_le,if_pos ⟨dig_nd B32_le _,dig_nd B32_le _,by omega,by omega⟩,Option.bind_some,dval_nd B32_le,dval_nd B32_le]
  have c1:(0:Int)≤(t.size:Int):=by omega
  have c2:(0:Int)≤(n:Int):=by omega
  have c3:(n:Int)≤(t.size:Int):=by omega
  rw[if_pos (decide_eq_true c1),if_pos (decide_eq_true (Int.le_refl _)),if_pos (decide_eq_true c2),if_pos (decide_eq_true c3),Int.toNat_natCast,Int.toNat_natCast]) hK
 exact key
theorem rn_loop (K:Nat) (hK:10≤K) (m:Nat):∀(t:ByteArray) (p k:Nat),t.data.toList.length=m→allD t.data.toList=true→m≤200→p<10^(200 - m)→m<k→
  loopP (P.i_readNat_b3 K) k (t,(nd B32 p,()))=some ((nd B32 (p*10^m+dv t.data.toList),true),()):=by
 induction m using Nat.strongRecOn with
 |ind m ih=>
  intro t p k hm hd hm2 hp hk
  obtain⟨k,rfl⟩:∃j,k=j+1:=⟨k - 1,by omega⟩
  rw[loopP_succ]
  have hs:t.size=t.data.toList.length:=by rw[Array.length_toList];rfl
  have hstep:∀n:Nat,0<n→n≤9→n≤m→Option.bind (S.strconv_ParseUint (ByteArray.extract t 0 n,(10,(64,())))) (fun(y6:((Int×Bool)×Unit))=>(Go.Cm.loopP (P.i_readNat_b7 (loopP (P.i_readNat_b3 K) k)) K ((0:Int),((n:Int),((1:Int),(nd B32 p,(y6.1.1,(t,((n:Int),())))))))))=some ((nd B32 (p*10^m+dv t.data.toList),true),()):=by
   intro n hn0 hn9 hnm
   have hx:(ByteArray.extract t 0 n).data.toList=t.data.toList.take n:=by rw[ext_list,List.drop_zero]
   have hxl:(t.data.toList.take n).length=n:=by simp;omega
   have hxs:(ByteArray.extract t 0 n).size=n:=by
    have:(ByteArray.extract t 0 n).size=(ByteArray.extract t 0 n).data.toList.length:=by rw[Array.length_toList];rfl
    rw[this,hx,hxl]
   have hdx:=allD_take hd n
   have hpar:=parse_dv (t.data.toList.take n) hdx (by intro q;rw[q]at hxl;simp at hxl;omega) (by omega)
   unfold S.strconv_ParseUint
   dsimp only
   rw[if_pos ⟨rfl,rfl,by omega⟩,hx,hpar,Option.bind_some]
   dsimp only
   have hv:=dv_lt hdx
   rw[hxl]at hv
   have hp200:p<10^200:=Nat.lt_of_lt_of_le hp (Nat.pow_le_pow_right (by decide) (by omega))
   rw[rn_times _ t p _ n hn9 hv hp200 (by omega) K (by omega)]
   have hd2:(ByteArray.extract t n t.size).data.toList=t.data.toList.drop n:=by
    rw[ext_list,List.take_of_length_le (by omega)]
   have hl2:(t.data.toList.drop n).length=m - n:=by simp;omega
   have hb:p*10^n+dv (t.data.toList.take n)<10^(200 - (m - n)):=by
    have h1:(p+1)*10^n≤10^(200 - m)*10^n:=Nat.mul_le_mul_right _ hp
    rw[←Nat.pow_add,show 200 - m+n=200 - (m - n) by omega,Nat.add_mul,Nat.one_mul]at h1
    omega
   rw[ih (m - n) (by omega) _ _ k (by rw[hd2,hl2]) (by rw[hd2];exact allD_drop hd n) (by omega) hb (by omega),hd2]
   have h3:=dv_append (t.data.toList.take n) (t.data.toList.drop n)
   rw[List.take_append_drop,hl2]at h3
   rw[h3,Nat.add_mul,Nat.mul_assoc,←Nat.pow_add,show n+(m - n)=m by omega,Nat.add_assoc]
  generalize loopP (P.i_readNat_b3 K) k=G at hstep ⊢
  unfold P.i_readNat_b3
  dsimp only
  have hbs:ByteArray.toList (bs [])=[]:=by rw[ByteArray.toList_eq];rfl
  rw[hbs,ByteArray.toList_eq,hs,hm]
  by_cases h0:m=0
  ·subst h0
   have:t.data.toList=[]:=List.eq_nil_of_length_eq_zero hm
   rw[this,if_neg (by simp),Nat.pow_zero,Nat.mul_one,show dv []=0 from rfl,Nat.add_zero]
  ·have hne:t.data.toList≠ []:=by
    intro q
    rw[q]at hm
    simp at hm
    omega
   have hmod:Int.tmod (m:Int) 9=((m%9:Nat):Int):=by
    rw[Int.tmod_eq_emod_of_nonneg (by omega)]
    omega
   rw[if_pos (by simpa using hne),hmod]
   by_cases h9:m%9=0
   ·have c1:(9:Int)≤(m:Int):=by omega
    rw[if_pos (by simp [h9]),if_pos (decide_eq_true c1)]
    exact hstep 9 (by omega) (by omega) (by omega)
   ·have c1:(0:Int)≤((m%9:Nat):Int):=by omega
    have c2:((m%9:Nat):Int)≤(m:Int):=by omega
    rw[if_neg (by simp;omega),if_pos (decide_eq_true c1),if_pos (decide_eq_true c2),if_pos (decide_eq_true c1),Int.toNat_natCast]
    exact hstep (m%9) (by omega) (by omega) (by omega)
theorem rn_scan (b:Nat→(Int×(Int×(ByteArray×((List Int)×Unit))))→((Int×(Int×(ByteArray×((List Int)×Unit))))→Option (((List Int)×Bool)×Unit))→Option (((List Int)×Bool)×Unit)) (hbb:b=P.i_readNat_b0) (t:ByteArray) (hl:t.data.toList.length≤200) (K:Nat) (hK:300≤K):
  loopP (b K) K ((0:Int),((t.size:Int),(t,([],()))))=some (if allD t.data.toList=true then(nd B32 (dv t.data.toList),true)else([],false),()):=by
 subst hbb
 have hs:t.size=t.data.toList.length:=by rw[Array.length_toList];rfl
 rw[hs]
 have hloop:=rn_loop K (by omega) t.data.toList.length t 0 K rfl
 generalize hL:t.data.toList=l at*
 have key:∀d i k:Nat,i+d=l.length→d<k→allD (l.take i)=true→loopP (P.i_readNat_b0 K) k ((i:Int),((l.length:Int),(t,(([]:List Int),()))))=some (if allD l=true then(nd B32 (dv l),true)else([],false),()):=by
  intro d
  induction d with
  |zero=>
   intro i k hi hk hd
   obtain⟨k,rfl⟩:∃j,k=j+1:=⟨k - 1,by omega⟩
   have:i=l.length:=by omega
   subst this
   rw[List.take_length]at hd
   rw[loopP_succ]
   unfold P.i_readNat_b0
   dsimp only
   rw[if_neg (by simp),if_pos hd]
   have:=hloop hd hl (Nat.pow_pos (by decide)) (by omega)
   rw[nd_zero B32_le,Nat.zero_mul,Nat.zero_add]at this
   exact this
  |succ d ih=>
   intro i k hi hk hd
   obtain⟨k,rfl⟩:∃j,k=j+1:=⟨k - 1,by omega⟩
   have hil:i<l.length:=by omega
   rw[loopP_succ]
   unfold P.i_readNat_b0
   dsimp only
   have e1:(i:Int)<(l.length:Int):=by omega
   have e2:(0:Int)≤(i:Int):=by omega
   have hb:byteAt t (i:Int)=(l[i].toNat:Int):=by
    unfold byteAt
    rw[hL,getD_cast l i _ hil]
   have ha2:allD (l.take (i+1))=(allD (l.take i)&&isD l[i]):=by
    rw[←List.take_append_getElem hil,allD_append]
    simp [allD]
   have ha3:allD l=true→isD l[i]=true:=fun q=>decide_eq_true (allD_get q hil)
   rw[hs,hb,wr (x:=(i:Int)+1) (by omega) (by omega)]
   simp only[e1,e2,decide_true,if_true]
   by_cases c1:48≤l[i].toNat
   ·rw[if_neg (by simp;omega)]
    by_cases c2:l[i].toNat≤57
    ·have:isD l[i]=true:=decide_eq_true ⟨c1,c2⟩
     rw[this,Bool.and_true]at ha2
     rw[if_neg (by simp;omega)]
     exact ih (i+1) k (by omega) (by omega) (by rw[ha2];exact hd)
    ·have:isD l[i]=false:=decide_eq_false (fun q=>c2 q.2)
     rw[if_pos (decide_eq_true (by omega)),if_neg (fun q=>by rw[ha3 q]at this;cases this)]
   ·have:isD l[i]=false:=decide_eq_false (fun q=>c1 q.1)
    rw[if_pos (decide_eq_true (by omega)),if_neg (fun q=>by rw[ha3 q]at this;cases this)]
 exact key l.length 0 K (by omega) (by omega) rfl
def S.i_readNat (x:(ByteArray×Unit)):(Option (((List Int)×Bool)×Unit)):=some (if okN x.1.data.toList=true then(nd B32 (dv x.1.data.toList),true)else([],false),())
theorem S.i_readNat_ok (x:(ByteArray×Unit)) (r:_) (h:S.i_readNat x=some r):∃k,P.i_readNat k x=some r:=by
 obtain⟨t,u⟩:=x
 unfold S.i_readNat at h
 dsimp only at h
 refine⟨300,?_⟩
 rw[←h]
 unfold P.i_readNat
 dsimp only
 have hs:t.size=t.data.toList.length:=by rw[Array.length_toList];rfl
 have hbs:ByteArray.toList (bs [])=[]:=by rw[ByteArray.toList_eq];rfl
 rw[hbs,ByteArray.toList_eq]
 have hscan:=rn_scan P.i_readNat_b0 rfl t
 have hscan2:=rn_scan P.i_readNat_b22 rfl t
 unfold okN okR
 by_cases h1:t.data.toList=[]
 ·rw[h1,if_pos (by rfl)]
  rfl
 ·have hpos:0<t.data.toList.length:=List.length_pos_iff.2 h1
  rw[if_neg (by simpa using h1),decide_eq_true h1,Bool.true_and,hs]
  by_cases h2:t.data.toList.length≤200
  ·have d2:¬(t.data.toList.length:Int)>200:=by omega
   have d3:(0:Int)<(t.data.toList.length:Int):=by omega
   rw[if_neg (by simpa using d2),if_pos (decide_eq_true d3),decide_eq_true h2,Bool.true_and]
   have s1:=hscan h2 300 (by omega)
   have s2:=hscan2 h2 300 (by omega)
   rw[hs]at s1 s2
   have hb:byteAt t 0=(t.data.toList[0].toNat:Int):=by
    exact congrArg (fun c:UInt8=>(c.toNat:Int)) (getD_cast t.data.toList 0 0 hpos)
   have hh:t.data.toList.head? =some t.data.toList[0]:=by
    generalize t.data.toList=l at*
    cases l with
    |nil=>simp at h1
    |cons c r=>rfl
   rw[hb,hh]
   by_cases c1:t.data.toList[0]=48
   ·rw[c1,if_pos (by rfl)]
    by_cases h3:t.data.toList.length=1
    ·have d4:¬(t.data.toList.length:Int)>1:=by omega
     rw[if_neg (by simpa using d4),s1,decide_eq_true h3,Bool.true_or,Bool.and_true]
    ·have d4:(t.data.toList.length:Int)>1:=by omega
     rw[if_pos (decide_eq_true d4),decide_eq_false h3,Bool.false_or,decide_eq_false (by simp),Bool.and_false,if_neg (by simp)]
   ·have c2:¬((t.data.toList[0].toNat:Int)=48):=by
     intro q
     apply c1
     apply UInt8.toNat_inj.1
     show _=48
     omega
    rw[if_neg (by simpa using c2),s2,decide_eq_true (p:=some t.data.toList[0]≠some 48) (by simpa using c1),Bool.or_true,Bool.and_true]
  ·have d2:(t.data.toList.length:Int)>200:=by omega
   rw[if_pos (decide_eq_true d2),decide_eq_false h2,Bool.false_and,Bool.and_false,if_neg (by simp)]
def P.i_readRat (k:Nat) (x:ByteArray×Unit):Option (((Bool×List Int×List Int)×Bool)×Unit):=
 (S.strings_Cut (x.1,bs [47],())).bind fun y0=>(S.strings_CutPrefix (y0.1.1,bs [45],())).bind fun y1=>(S.i_readNat (y1.1.1,())).bind fun y2=>if !y2.1.2 then some (((false,([]:List Int),([]:List Int)),false),())else if y1.1.2 then if(y2.1.1.length:Int)==(0:Int)then some (((false,([]:List Int),([]:List Int)),false),())else(S.i_natOf ((1:Int),())).bind fun y3=>if !y0.1.2.2 then some (((y1.1.2,y2.1.1,y3.1),true),())else(S.i_readNat (y0.1.2.1,())).bind fun y4=>if !y4.1.2 then some (((false,([]:List Int),([]:List Int)),false),())else(S.i_natOf ((1:Int),())).bind fun y5=>(S.i_nat_cmp (y4.1.1,y5.1,())).bind fun y6=>if decide (y6.1≤(0:Int))then some (((false,([]:List Int),([]:List Int)),false),())else(S.i_nat_gcd (y2.1.1,y4.1.1,())).bind fun y7=>(S.i_natOf ((1:Int),())).bind fun y8=>(S.i_nat_cmp (y7.1,y8.1,())).bind fun y9=>if y9.1 != (0:Int)then some (((false,([]:List Int),([]:List Int)),false),())else some (((y1.1.2,y2.1.1,y4.1.1),true),())else(S.i_natOf ((1:Int),())).bind fun y10=>if !y0.1.2.2 then some (((y1.1.2,y2.1.1,y10.1),true),())else(S.i_readNat (y0.1.2.1,())).bind fun y11=>if !y11.1.2 then some (((false,([]:List Int),([]:List Int)),false),())else(S.i_natOf ((1:Int),())).bind fun y12=>(S.i_nat_cmp (y11.1.1,y12.1,())).bind fun y13=>if decide (y13.1≤(0:Int))then some (((false,([]:List Int),([]:List Int)),false),())else(S.i_nat_gcd (y2.1.1,y11.1.1,())).bind fun y14=>(S.i_natOf ((1:Int),())).bind fun y15=>(S.i_nat_cmp (y14.1,y15.1,())).bind fun y16=>if y16.1 != (0:Int)then some (((false,([]:List Int),([]:List Int)),false),())else some (((y1.1.2,y2.1.1,y11.1.1),true),())
def S.i_readRat (x:(ByteArray×Unit)):(Option ((RB×Bool)×Unit)):=if x.1.size<4294967281 then some ((rp B32 (rdRat x.1.data.toList).1,(rdRat x.1.data.toList).2),())else none
theorem rr_bad:((false,(([]:List Int),([]:List Int))),false)=(rp B32 noQ.1,noQ.2):=by
 unfold noQ rp
 dsimp only
 rw[nd_zero B32_le]
theorem natOf_one:S.i_natOf (1,())=some (nd B32 1,()):=by
 unfold S.i_natOf
 rfl
theorem rr_rest (neg:Bool) (c:List UInt8×List UInt8×Bool) (hok:okN c.1=true) (hn:¬(neg=true∧dv c.1=0)):
  (Option.bind (S.i_natOf ((1:Int),())) (fun(y10:((List Int)×Unit))=>(if((!c.2.2)=true)then(some (((neg,(nd B32 (dv c.1),y10.1)),true),()))
 else(Option.bind (S.i_readNat ((⟨c.2.1.toArray⟩:ByteArray),())) (fun(y11:(((List Int)×Bool)×Unit))=>(if((!y11.1.2)=true)then(some (((false,(([]:List Int),([]:List Int))),false),()))
 else(Option.bind (S.i_natOf ((1:Int),())) (fun(y12:((List Int)×Unit))=>(Option.bind (S.i_nat_cmp (y11.1.1,(y12.1,()))) (fun(y13:(Int×Unit))=>(if((decide (y13.1≤(0:Int)))=true)then(some (((false,(([]:List Int),([]:List Int))),false),()))
 else(Option.bind (S.i_nat_gcd (nd B32 (dv c.1),(y11.1.1,()))) (fun(y14:((List Int)×Unit))=>(Option.bind (S.i_natOf ((1:Int),())) (fun(y15:((List Int)×Unit))=>(Option.bind (S.i_nat_cmp (y14.1,(y15.1,()))) (fun(y16:(Int×Unit))=>(if((y16.1 != (0:Int))=true)then(some (((false,(([]:List Int),([]:List Int))),false),()))
 else(some (((neg,(nd B32 (dv c.1),y11.1.1)),true),()))))))))))))))))))))=some ((rp B32 (rdBody neg c).1,(rdBody neg c).2),()):=by
 have hbody:rdBody neg c=(if c.2.2=true then(if okN c.2.1=true∧1<dv c.2.1∧Nat.gcd (dv c.1) (dv c.2.1)=1 then((neg,(dv c.1,dv c.2.1)),true)else noQ)else((neg,(dv c.1,1)),true)):=if_pos ⟨hok,hn⟩
 rw[natOf_one,Option.bind_some,rr_bad,hbody]
 obtain⟨a,b,f⟩:=c
 dsimp only at*
 cases f
 ·rfl
 ·rw[if_neg (by decide),if_pos rfl]
  unfold S.i_readNat
  rw[Option.bind_some]
  dsimp only
  cases hb:okN b
  ·have hx:¬((false:Bool)=true∧1<dv b∧Nat.gcd (dv a) (dv b)=1):=fun q=>by cases q.1
   rw[if_neg hx]
   rfl
  ·have lb:=nd_len200 (B:=B32) (by decide) (okN_lt hb)
   have la:=nd_len200 (B:=B32) (by decide) (okN_lt hok)
   have e1:S.i_nat_cmp (nd B32 (dv b),(nd B32 1,()))=some (cmpN (dv b) 1,()):=by
    unfold S.i_nat_cmp
    dsimp only
    rw[if_pos ⟨canon_nd B32_le _,canon_nd B32_le _,by omega⟩,dval_nd B32_le,dval_nd B32_le]
   have e2:S.i_nat_gcd (nd B32 (dv a),(nd B32 (dv b),()))=some (nd B32 (Nat.gcd (dv a) (dv b)),()):=by
    unfold S.i_nat_gcd
    dsimp only
    rw[if_pos ⟨canon_nd B32_le _,canon_nd B32_le _,by omega,by omega⟩,dval_nd B32_le,dval_nd B32_le]
   show(Option.bind (S.i_natOf ((1:Int),())) (fun(y12:((List Int)×Unit))=>(Option.bind (S.i_nat_cmp (nd B32 (dv b),(y12.1,()))) (fun(y13:(Int×Unit))=>(if((decide (y13.1≤(0:Int)))=true)then(some ((rp B32 noQ.1,noQ.2),()))
 else(Option.bind (S.i_nat_gcd (nd B32 (dv a),(nd B32 (dv b),()))) (fun(y14:((List Int)×Unit))=>(Option.bind (S.i_natOf ((1:Int),())) (fun(y15:((List Int)×Unit))=>(Option.bind (S.i_nat_cmp (y14.1,(y15.1,()))) (fun(y16:(Int×Unit))=>(if((y16.1 != (0:Int))=true)then(some ((rp B32 noQ.1,noQ.2),()))
 else(some (((neg,(nd B32 (dv a),nd B32 (dv b))),true),()))))))))))))))=_
   rw[natOf_one,Option.bind_some]
   dsimp only
   rw[e1,Option.bind_some]
   dsimp only
   by_cases h1:1<dv b
   ·have hc:¬(cmpN (dv b) 1≤0):=by
     have:=(cmpN_gt (a:=dv b) (b:=1)).2 h1
     omega
    have lg:(nd B32 (Nat.gcd (dv a) (dv b))).length≤200:=Nat.le_trans (nd_shorter' B32_le (Nat.le_of_dvd (by omega) (Nat.gcd_dvd_right _ _))) lb
    have e3:S.i_nat_cmp (nd B32 (Nat.gcd (dv a) (dv b)),(nd B32 1,()))=some (cmpN (Nat.gcd (dv a) (dv b)) 1,()):=by
     unfold S.i_nat_cmp
     dsimp only
     rw[if_pos ⟨canon_nd B32_le _,canon_nd B32_le _,by omega⟩,dval_nd B32_le,dval_nd B32_le]
    rw[if_neg (by simpa using hc),e2,Option.bind_some,Option.bind_some]
    dsimp only
    rw[e3,Option.bind_some]
    dsimp only
    by_cases hg:Nat.gcd (dv a) (dv b)=1
    ·rw[if_neg (by simpa using cmpN_zero.2 hg),if_pos ⟨rfl,h1,hg⟩]
     rfl
    ·rw[if_pos (by simpa using fun q=>hg (cmpN_zero.1 q)),if_neg (fun q=>hg q.2.2)]
   ·have hc:cmpN (dv b) 1≤0:=by
     have h2:¬(cmpN (dv b) 1>0):=fun q=>h1 ((cmpN_gt (a:=dv b) (b:=1)).1 q)
     omega
    rw[if_pos (decide_eq_true hc),if_neg (fun q=>h1 q.2.1)]
theorem S.i_readRat_ok (x:(ByteArray×Unit)) (r:_) (h:S.i_readRat x=some r):∃k,P.i_readRat k x=some r:=by
 obtain⟨s,u⟩:=x
 unfold S.i_readRat at h
 dsimp only at h
 split at h
 case isFalse=>cases h
 rename_i hsz
 refine⟨0,?_⟩
 rw[←h]
 unfold P.i_readRat
 dsimp only
 have e0:S.strings_Cut (s,(bs [47],()))=some ((⟨(cutP 47 s.data.toList).1.toArray⟩,(⟨(cutP 47 s.data.toList).2.1.toArray⟩,(cutP 47 s.data.toList).2.2)),()):=by
  unfold S.strings_Cut
  dsimp only
  rw[if_pos hsz,show(bs [47]).data.toList=[47]from rfl,cut_cutP]
 have e1:∀l:List UInt8,S.strings_CutPrefix (⟨l.toArray⟩,(bs [45],()))=some ((⟨(if l.head? =some 45 then l.tail else l).toArray⟩,decide (l.head? =some 45)),()):=by
  intro l
  unfold S.strings_CutPrefix Go.Lib.trimPrefix Go.Lib.hasPrefix
  dsimp only
  rw[show(bs [45]).data.toList=[45]from rfl]
  cases l with
  |nil=>rfl
  |cons b r=>
   by_cases hb:b=45
   ·subst hb
    simp
   ·have hb':¬(45=b):=fun q=>hb q.symm
    have hp:([45].isPrefixOf (b::r))=false:=by
     show((45:UInt8)==b&&([]:List UInt8).isPrefixOf r)=false
     rw[show((45:UInt8)==b)=false from beq_eq_false_iff_ne.2 hb',Bool.false_and]
    have hh:¬((b::r).head? =some 45):=by simpa using hb
    rw[hp,if_neg (by decide),if_neg hh,decide_eq_false hh]
 rw[e0,Option.bind_some]
 dsimp only
 rw[e1,Option.bind_some]
 dsimp only
 generalize s.data.toList=l at*
 have hcut:∃(neg:Bool) (c:List UInt8×List UInt8×Bool),decide ((cutP 47 l).1.head? =some 45)=neg∧(if(cutP 47 l).1.head? =some 45 then(cutP 47 l).1.tail else(cutP 47 l).1)=c.1∧(cutP 47 l).2.1=c.2.1∧(cutP 47 l).2.2=c.2.2∧rdRat l=rdBody neg c:=by
  unfold rdRat
  cases l with
  |nil=>exact⟨false,cutP 47 [],rfl,rfl,rfl,rfl,rfl⟩
  |cons b r=>
   by_cases hb:b=45
   ·subst hb
    have hc:cutP 47 (45::r)=(45::(cutP 47 r).1,(cutP 47 r).2.1,(cutP 47 r).2.2):=by rw[cutP_cons,if_neg (by decide)]
    rw[hc]
    exact⟨true,cutP 47 r,rfl,rfl,rfl,rfl,rfl⟩
   ·have hh:¬((cutP 47 (b::r)).1.head? =some 45):=by
     rw[cutP_cons]
     split
     ·simp
     ·simpa using hb
    refine⟨false,cutP 47 (b::r),decide_eq_false hh,if_neg hh,rfl,rfl,?_⟩
    rw[if_neg (by simpa using hb)]
 obtain⟨neg,c,h1,h2,h3,h4,h5⟩:=hcut
 rw[h1,h2,h3,h4,h5]
 have e2:S.i_readNat (⟨c.1.toArray⟩,())=some (if okN c.1=true then(nd B32 (dv c.1),true)else([],false),()):=rfl
 rw[e2,Option.bind_some]
 cases hok:okN c.1
 ·have:rdBody neg c=noQ:=by
   unfold rdBody
   rw[if_neg (fun q=>by rw[hok]at q;cases q.1)]
  rw[this,←rr_bad]
  rfl
 ·rw[if_pos rfl]
  dsimp only
  rw[if_neg (show ¬((!true)=true) by decide)]
  have hz:(((nd B32 (dv c.1)).length:Int)==0)=decide (dv c.1=0):=by
   have:=canon_nil B32_le (canon_nd B32_le (dv c.1))
   rw[dval_nd B32_le]at this
   by_cases h0:dv c.1=0
   ·rw[this.2 h0,h0];rfl
   ·have hne:=fun q=>h0 (this.1 q)
    rw[decide_eq_false h0]
    simpa using hne
  cases neg
  ·rw[if_neg (by decide)]
   exact rr_rest false c hok (fun q=>by cases q.1)
  ·rw[if_pos rfl,hz]
   by_cases h0:dv c.1=0
   ·have:rdBody true c=noQ:=by
     unfold rdBody
     rw[if_neg (fun q=>q.2 ⟨rfl,h0⟩)]
    rw[if_pos (decide_eq_true h0),this,←rr_bad]
   ·rw[if_neg (by simpa using h0)]
    exact rr_rest true c hok (fun q=>h0 q.2)
abbrev P.i_rats_b0 (x1:Int×Int×List ByteArray×List (Bool×List Int×List Int)×Unit) (g2:Int×Int×List ByteArray×List (Bool×List Int×List Int)×Unit→Option ((List (Bool×List Int×List Int)×Bool)×Unit)):Option ((List (Bool×List Int×List Int)×Bool)×Unit):=
 if decide (x1.1<x1.2.1)then if decide ((0:Int)≤x1.1)then if decide (x1.1<(x1.2.2.1.length:Int))then(S.i_readRat (x1.2.2.1.getD x1.1.toNat (bs []),())).bind fun y3=>if !y3.1.2 then some ((([]:List (Bool×List Int×List Int)),false),())else if decide (((x1.2.2.2.1.length+(List.length [(y3.1.1.1,y3.1.1.2.1,y3.1.1.2.2)]))*(56:Nat))≤(140737488355328:Nat))then g2 (IntKind.wrap .i64 (x1.1+(1:Int)),x1.2.1,x1.2.2.1,x1.2.2.2.1++[(y3.1.1.1,y3.1.1.2.1,y3.1.1.2.2)],())else none else none else none else some ((x1.2.2.2.1,true),())
def P.i_rats (k:Nat) (x:List ByteArray×Unit):Option ((List (Bool×List Int×List Int)×Bool)×Unit):=
 if decide ((x.1.length:Int)>(300:Int))then some ((([]:List (Bool×List Int×List Int)),false),())else loopP P.i_rats_b0 k ((0:Int),(x.1.length:Int),x.1,([]:List (Bool×List Int×List Int)),())
open Classical in
def S.i_rats (x:((List ByteArray)×Unit)):(Option (((List RB)×Bool)×Unit)):=if okT x.1=true then some (((rdAll x.1).1.map (rp B32),(rdAll x.1).2),())else none
theorem i_rats_read (s:ByteArray) (h:s.size≤1000000):S.i_readRat (s,())=some ((rp B32 (rdRat s.data.toList).1,(rdRat s.data.toList).2),()):=by
 unfold S.i_readRat
 exact if_pos (by dsimp only;omega)
theorem S.i_rats_ok (x:((List ByteArray)×Unit)) (r:_) (h:S.i_rats x=some r):∃k,P.i_rats k x=some r:=by
 obtain⟨ls,u⟩:=x
 unfold S.i_rats at h
 dsimp only at h
 split at h
 case isFalse=>cases h
 rename_i hc
 cases h
 refine⟨ls.length+1,?_⟩
 unfold P.i_rats rdAll
 dsimp only
 by_cases hl:(ls.length:Int)>300
 ·rw[if_pos (decide_eq_true hl),if_neg (show ¬(ls.length≤300∧(ls.all fun s=>(rdRat s.data.toList).2)=true)from fun z=>by omega)]
  rfl
 rw[if_neg (by simpa using hl)]
 have key:=loop_up0 (k:=ls.length+1) (b:=P.i_rats_b0) (n:=ls.length) (st:=fun i=>((i:Int),(ls.length:Int),ls,(ls.take i).map (fun s=>rp B32 (rdRat s.data.toList).1),())) (F:=fun i=>some (if((ls.drop i).all fun s=>(rdRat s.data.toList).2)=true then(ls.map (fun s=>rp B32 (rdRat s.data.toList).1),true)else([],false),())) (fun i g hi hg=>by
  unfold P.i_rats_b0
  dsimp only at hg ⊢
  have e1:(i:Int)<(ls.length:Int):=by omega
  have e2:(0:Int)≤(i:Int):=by omega
  simp only[e1,e2,decide_true,if_true]
  rw[getD_cast ls i _ hi,i_rats_read _ (okT_get hc hi),Option.bind_some,List.drop_eq_getElem_cons hi,List.all_cons]
  dsimp only
  cases hf:(rdRat ls[i].data.toList).2
  ·rw[if_pos (by rfl),if_neg (by simp)]
  ·rw[if_neg (by simp),wr (by omega) (by omega),Bool.true_and,←hg]
   have e3:((List.map (fun s:ByteArray=>rp B32 (rdRat s.data.toList).1) (ls.take i)).length+1)*56≤140737488355328:=by
    rw[List.length_map,List.length_take]
    omega
   simp only[List.length_cons,List.length_nil,Nat.zero_add]
   rw[if_pos (decide_eq_true e3),List.take_add_one,List.getElem?_eq_getElem hi,Option.toList_some,List.map_append]
   rfl) (fun g=>by
  unfold P.i_rats_b0
  dsimp only
  rw[if_neg (by simp),List.take_length,List.drop_length]
  rfl) (by omega)
 refine key.trans ?_
 rw[List.drop_zero]
 by_cases ha:(ls.all fun s=>(rdRat s.data.toList).2)=true
 ·rw[if_pos ha,if_pos (show ls.length≤300∧(ls.all fun s=>(rdRat s.data.toList).2)=true from⟨by omega,ha⟩),List.map_map]
  rfl
 ·rw[if_neg ha,if_neg (fun z=>ha z.2)]
  rfl
abbrev P.i_sum_b1 (x2:Int×Int×List (Bool×List Int×List Int)×(Bool×List Int×List Int)×(Bool×List Int×List Int)×Unit) (g3:Int×Int×List (Bool×List Int×List Int)×(Bool×List Int×List Int)×(Bool×List Int×List Int)×Unit→Option ((Bool×List Int×List Int)×Unit)):Option ((Bool×List Int×List Int)×Unit):=
 if decide (x2.1<x2.2.1)then if decide ((0:Int)≤x2.1)then if decide (x2.1<(x2.2.2.1.length:Int))then(S.i_rat_add ((x2.2.2.2.1.1,x2.2.2.2.1.2.1,x2.2.2.2.1.2.2),((x2.2.2.1.getD x2.1.toNat (false,([]:List Int),([]:List Int))).1,(x2.2.2.1.getD x2.1.toNat (false,([]:List Int),([]:List Int))).2.1,(x2.2.2.1.getD x2.1.toNat (false,([]:List Int),([]:List Int))).2.2),())).bind fun y4=>g3 (IntKind.wrap .i64 (x2.1+(1:Int)),x2.2.1,x2.2.2.1,(y4.1.1,y4.1.2.1,y4.1.2.2),(x2.2.2.2.2.1.1,x2.2.2.2.2.1.2.1,x2.2.2.2.2.1.2.2),())else none else none else some ((x2.2.2.2.1.1,x2.2.2.2.1.2.1,x2.2.2.2.1.2.2),())
def P.i_sum (k:Nat) (x:List (Bool×List Int×List Int)×Unit):Option ((Bool×List Int×List Int)×Unit):=
 (S.i_whole ((0:Int),())).bind fun y0=>loopP P.i_sum_b1 k ((0:Int),(x.1.length:Int),x.1,(y0.1.1,y0.1.2.1,y0.1.2.2),(false,([]:List Int),([]:List Int)),())
open Classical in
def S.i_sum (x:((List RB)×Unit)):(Option (RB×Unit)):=if goodS B32 x.1 then some (rp B32 (sumQ (x.1.map (rv B32))),())else none
theorem i_sum_add (a b:Q3) (ha:lowb B32 40000000 (rp B32 a)=true) (hb:lowb B32 40000000 (rp B32 b)=true):S.i_rat_add (rp B32 a,(rp B32 b,()))=some (rp B32 (addQ a b),()):=by
 unfold S.i_rat_add
 dsimp only
 rw[if_pos ⟨ha,hb⟩,rv_rp B32_le,rv_rp B32_le]
theorem S.i_sum_ok (x:((List RB)×Unit)) (r:_) (h:S.i_sum x=some r):∃k,P.i_sum k x=some r:=by
 obtain⟨xs,u⟩:=x
 unfold S.i_sum at h
 dsimp only at h
 split at h
 case isFalse=>cases h
 rename_i hc
 obtain⟨qs,rfl,hlen,hq,hg⟩:=hc
 cases h
 refine⟨qs.length+1,?_⟩
 unfold P.i_sum
 have hz:S.i_whole (0,())=some (rp B32 zeroQ,()):=by rfl
 dsimp only
 rw[hz,Option.bind_some,map_rv B32_le,List.length_map]
 have key:=loop_up0 (k:=qs.length+1) (b:=P.i_sum_b1) (n:=qs.length) (st:=fun i=>((i:Int),(qs.length:Int),qs.map (rp B32),rp B32 (sumQ (qs.take i)),(false,(([]:List Int),([]:List Int))),())) (F:=fun i=>some (rp B32 (sumQ qs),())) (fun i g hi hg'=>by
  unfold P.i_sum_b1
  dsimp only at hg' ⊢
  have e1:(i:Int)<(qs.length:Int):=by omega
  have e2:(0:Int)≤(i:Int):=by omega
  have e3:(i:Int)<((qs.map (rp B32)).length:Int):=by rw[List.length_map];omega
  rw[if_pos (decide_eq_true e1),if_pos (decide_eq_true e2),if_pos (decide_eq_true e3),getD_cast (qs.map (rp B32)) i _ (by rw[List.length_map];exact hi),List.getElem_map]
  have ea:=i_sum_add (sumQ (qs.take i)) qs[i] (lowb_rp9 (by decide) (hg i).1 (hg i).2 (by decide)) (lowb_rp9 (by decide) (hq _ (List.getElem_mem hi)).1 (hq _ (List.getElem_mem hi)).2 (by decide))
  rw[sumQ_take hi]at ea
  show Option.bind (S.i_rat_add (rp B32 (sumQ (qs.take i)),(rp B32 qs[i],()))) _=_
  rw[ea,Option.bind_some,wr (by omega) (by omega)]
  exact hg') (fun g=>by
  unfold P.i_sum_b1
  dsimp only
  rw[if_neg (by simp),List.take_length]) (by omega)
 exact key
def P.i_isMinus (k:Nat) (x:(Bool×List Int×List Int)×Unit):Option (Bool×Unit):=
 (S.i_rat_sign ((x.1.1,x.1.2.1,x.1.2.2),())).bind fun y0=>some (decide (y0.1<(0:Int)),())
def S.i_isMinus (x:(RB×Unit)):(Option (Bool×Unit)):=if lowb B32 40000000 x.1=true then some (x.1.1,())else none
theorem S.i_isMinus_ok (x:(RB×Unit)) (r:_) (h:S.i_isMinus x=some r):∃k,P.i_isMinus k x=some r:=by
 obtain⟨x,u⟩:=x
 unfold S.i_isMinus at h
 dsimp only at h
 split at h
 case isFalse=>cases h
 rename_i hc
 obtain⟨hr,hl⟩:=lowb_iff.1 hc
 obtain⟨n,p,q,rfl,l1,l2⟩:=rok_nd hr
 rw[rv_nd B32_le]at hl
 cases h
 refine⟨0,?_⟩
 unfold P.i_isMinus S.i_rat_sign
 dsimp only
 rw[if_pos (canon_nd B32_le _),dval_nd B32_le,Option.bind_some]
 dsimp only
 have h2:=hl.2.1
 dsimp only at h2
 unfold sgnQ
 cases n
 ·by_cases hp:p=0
  ·rw[if_pos hp]
   rfl
  ·rw[if_neg hp]
   rfl
 ·rw[if_neg (h2 rfl)]
  rfl
abbrev P.slices_IndexFunc__i_rat_i_rat_b0 (x1:Int×Int×Unit×List (Bool×List Int×List Int)×Unit) (g2:Int×Int×Unit×List (Bool×List Int×List Int)×Unit→Option (Int×Unit)):Option (Int×Unit):=
 if decide (x1.1<x1.2.1)then if decide ((0:Int)≤x1.1)then if decide (x1.1<(x1.2.2.2.1.length:Int))then(S.i_isMinus (((x1.2.2.2.1.getD x1.1.toNat (false,([]:List Int),([]:List Int))).1,(x1.2.2.2.1.getD x1.1.toNat (false,([]:List Int),([]:List Int))).2.1,(x1.2.2.2.1.getD x1.1.toNat (false,([]:List Int),([]:List Int))).2.2),())).bind fun y3=>if y3.1 then some (x1.1,())else g2 (IntKind.wrap .i64 (x1.1+(1:Int)),x1.2.1,(),x1.2.2.2.1,())else none else none else some ((-1:Int),())
def P.slices_IndexFunc__i_rat_i_rat (k:Nat) (x:List (Bool×List Int×List Int)×Unit×Unit):Option (Int×Unit):=
 loopP P.slices_IndexFunc__i_rat_i_rat_b0 k ((0:Int),(x.1.length:Int),(),x.1,())
open Classical in
def S.slices_IndexFunc__i_rat_i_rat (x:((List RB)×(Unit×Unit))):(Option (Int×Unit)):=if goodL B32 x.1 then some (ixM x.1,())else none
theorem S.slices_IndexFunc__i_rat_i_rat_ok (x:((List RB)×(Unit×Unit))) (r:_) (h:S.slices_IndexFunc__i_rat_i_rat x=some r):∃k,P.slices_IndexFunc__i_rat_i_rat k x=some r:=by
 obtain⟨xs,u,u'⟩:=x
 unfold S.slices_IndexFunc__i_rat_i_rat at h
 dsimp only at h
 split at h
 case isFalse=>cases h
 rename_i hc
 obtain⟨qs,n,rfl,hg⟩:=hc
 cases h
 have hlen:=good_len hg
 refine⟨qs.length+1,?_⟩
 unfold P.slices_IndexFunc__i_rat_i_rat
 dsimp only
 have hm:∀i (hi:i<qs.length),S.i_isMinus (rp B32 qs[i],())=some (qs[i].1,()):=by
  intro i hi
  unfold S.i_isMinus
  dsimp only
  rw[if_pos (good_get (by decide) hg hi)]
  rfl
 have key:=loop_up0 (k:=qs.length+1) (b:=P.slices_IndexFunc__i_rat_i_rat_b0) (n:=qs.length) (st:=fun i=>((i:Int),(qs.length:Int),(),qs.map (rp B32),())) (F:=fun i=>some (if ixM ((qs.drop i).map (rp B32))<0 then -1 else ixM ((qs.drop i).map (rp B32))+i,())) (fun i g hi hg'=>by
  unfold P.slices_IndexFunc__i_rat_i_rat_b0
  dsimp only at hg' ⊢
  have e1:(i:Int)<(qs.length:Int):=by omega
  have e2:(0:Int)≤(i:Int):=by omega
  have e3:(i:Int)<((qs.map (rp B32)).length:Int):=by rw[List.length_map];omega
  rw[if_pos (decide_eq_true e1),if_pos (decide_eq_true e2),if_pos (decide_eq_true e3),getD_cast (qs.map (rp B32)) i _ (by rw[List.length_map];exact hi),List.getElem_map]
  show Option.bind (S.i_isMinus (rp B32 qs[i],())) _=_
  rw[hm i hi,Option.bind_some,List.drop_eq_getElem_cons hi,List.map_cons,ixM_cons]
  dsimp only
  rw[show(rp B32 qs[i]).1=qs[i].1 from rfl]
  cases hf:qs[i].1
  ·simp only[Bool.false_eq_true,if_false]
   rw[wr (by omega) (by omega)]
   refine hg'.trans ?_
   congr 2
   split
   ·rfl
   ·rw[if_neg (by omega)]
    omega
  ·simp) (fun g=>by
  unfold P.slices_IndexFunc__i_rat_i_rat_b0
  dsimp only
  rw[if_neg (by simp),List.drop_length]
  rfl) (by omega)
 rw[List.length_map]
 refine key.trans ?_
 rw[List.drop_zero]
 congr 2
 have hr: -1≤ixM (qs.map (rp B32)):=by
  generalize qs.map (rp B32)=zs
  induction zs with
  |nil=>decide
  |cons z zs ih=>
   rw[ixM_cons]
   split
   ·omega
   ·split<;>omega
 split<;>omega
def P.slices_ContainsFunc__i_rat_i_rat (k:Nat) (x:List (Bool×List Int×List Int)×Unit×Unit):Option (Bool×Unit):=
 (S.slices_IndexFunc__i_rat_i_rat (x.1,(),())).bind fun y0=>some (decide (y0.1≥(0:Int)),())
open Classical in
def S.slices_ContainsFunc__i_rat_i_rat (x:((List RB)×(Unit×Unit))):(Option (Bool×Unit)):=if goodL B32 x.1 then some (x.1.any fun r=>r.1,())else none
theorem S.slices_ContainsFunc__i_rat_i_rat_ok (x:((List RB)×(Unit×Unit))) (r:_) (h:S.slices_ContainsFunc__i_rat_i_rat x=some r):∃k,P.slices_ContainsFunc__i_rat_i_rat k x=some r:=by
 obtain⟨xs,u,u'⟩:=x
 unfold S.slices_ContainsFunc__i_rat_i_rat at h
 dsimp only at h
 split at h
 case isFalse=>cases h
 rename_i hc
 cases h
 refine⟨0,?_⟩
 unfold P.slices_ContainsFunc__i_rat_i_rat S.slices_IndexFunc__i_rat_i_rat
 dsimp only
 rw[if_pos hc,Option.bind_some,←ixM_any]
def P.i_notPlus (k:Nat) (x:(Bool×List Int×List Int)×Unit):Option (Bool×Unit):=
 (S.i_rat_sign ((x.1.1,x.1.2.1,x.1.2.2),())).bind fun y0=>some (decide (y0.1≤(0:Int)),())
def S.i_notPlus (x:(RB×Unit)):(Option (Bool×Unit)):=if rok B32 40000000 x.1=true then some (!posQ (rv B32 x.1),())else none
theorem S.i_notPlus_ok (x:(RB×Unit)) (r:_) (h:S.i_notPlus x=some r):∃k,P.i_notPlus k x=some r:=by
 obtain⟨y,u⟩:=x
 unfold S.i_notPlus at h
 dsimp only at h
 split at h
 case isFalse=>cases h
 rename_i hc
 cases h
 obtain⟨n,p,q,rfl,_,_⟩:=rok_nd hc
 refine⟨0,?_⟩
 unfold P.i_notPlus
 dsimp only
 have hs:S.i_rat_sign ((n,(nd B32 p,nd B32 q)),())=some (sgnQ n p,()):=by
  unfold S.i_rat_sign
  dsimp only
  rw[if_pos (canon_nd B32_le _),dval_nd B32_le]
 rw[hs,Option.bind_some,rv_nd B32_le]
 dsimp only
 rw[←sgnQ_npos]
abbrev P.slices_IndexFunc__i_rat_i_ratP_b0 (x1:Int×Int×Unit×List (Bool×List Int×List Int)×Unit) (g2:Int×Int×Unit×List (Bool×List Int×List Int)×Unit→Option (Int×Unit)):Option (Int×Unit):=
 if decide (x1.1<x1.2.1)then if decide ((0:Int)≤x1.1)then if decide (x1.1<(x1.2.2.2.1.length:Int))then(S.i_notPlus (((x1.2.2.2.1.getD x1.1.toNat (false,([]:List Int),([]:List Int))).1,(x1.2.2.2.1.getD x1.1.toNat (false,([]:List Int),([]:List Int))).2.1,(x1.2.2.2.1.getD x1.1.toNat (false,([]:List Int),([]:List Int))).2.2),())).bind fun y3=>if y3.1 then some (x1.1,())else g2 (IntKind.wrap .i64 (x1.1+(1:Int)),x1.2.1,(),x1.2.2.2.1,())else none else none else some ((-1:Int),())
def P.slices_IndexFunc__i_rat_i_ratP (k:Nat) (x:List (Bool×List Int×List Int)×Unit×Unit):Option (Int×Unit):=
 loopP P.slices_IndexFunc__i_rat_i_ratP_b0 k ((0:Int),(x.1.length:Int),(),x.1,())
open Classical in
def S.slices_IndexFunc__i_rat_i_ratP (x:((List RB)×(Unit×Unit))):(Option (Int×Unit)):=if goodL B32 x.1 then some (ixF (fun r=> !posQ r) (x.1.map (rv B32)),())else none
theorem S.slices_IndexFunc__i_rat_i_ratP_ok (x:((List RB)×(Unit×Unit))) (r:_) (h:S.slices_IndexFunc__i_rat_i_ratP x=some r):∃k,P.slices_IndexFunc__i_rat_i_ratP k x=some r:=by
 obtain⟨xs,u,u'⟩:=x
 unfold S.slices_IndexFunc__i_rat_i_ratP at h
 dsimp only at h
 split at h
 case isFalse=>cases h
 rename_i hc
 cases h
 obtain⟨qs,n,rfl,hg⟩:=hc
 have hlen:=good_len hg
 refine⟨qs.length+1,?_⟩
 unfold P.slices_IndexFunc__i_rat_i_ratP
 dsimp only
 have hm:∀i (hi:i<qs.length),S.i_notPlus (rp B32 qs[i],())=some (!posQ qs[i],()):=by
  intro i hi
  unfold S.i_notPlus
  dsimp only
  rw[if_pos (lowb_iff.1 (good_get (by decide) hg hi)).1,rv_rp B32_le]
 have key:=loop_up0 (k:=qs.length+1) (b:=P.slices_IndexFunc__i_rat_i_ratP_b0) (n:=qs.length) (st:=fun i=>((i:Int),(qs.length:Int),(),qs.map (rp B32),())) (F:=fun i=>some (if ixF (fun r=> !posQ r) (qs.drop i)<0 then -1 else ixF (fun r=> !posQ r) (qs.drop i)+i,())) (fun i g hi hg'=>by
  unfold P.slices_IndexFunc__i_rat_i_ratP_b0
  dsimp only at hg' ⊢
  have e1:(i:Int)<(qs.length:Int):=by omega
  have e2:(0:Int)≤(i:Int):=by omega
  have e3:(i:Int)<((qs.map (rp B32)).length:Int):=by rw[List.length_map];omega
  rw[if_pos (decide_eq_true e1),if_pos (decide_eq_true e2),if_pos (decide_eq_true e3),getD_cast (qs.map (rp B32)) i _ (by rw[List.length_map];exact hi),List.getElem_map]
  show Option.bind (S.i_notPlus (rp B32 qs[i],())) _=_
  rw[hm i hi,Option.bind_some,List.drop_eq_getElem_cons hi,ixF_cons]
  dsimp only
  cases hf: !posQ qs[i]
  ·simp only[Bool.false_eq_true,if_false]
   rw[wr (by omega) (by omega)]
   refine hg'.trans ?_
   congr 2
   have:=ixF_ge (fun r=> !posQ r) (qs.drop (i+1))
   split
   ·rfl
   ·rw[if_neg (by omega)]
    omega
  ·simp) (fun g=>by
  unfold P.slices_IndexFunc__i_rat_i_ratP_b0
  dsimp only
  rw[if_neg (by simp),List.drop_length]
  rfl) (by omega)
 rw[List.length_map,map_rv B32_le]
 refine key.trans ?_
 rw[List.drop_zero]
 congr 2
 have hr:=ixF_ge (fun r=> !posQ r) qs
 split<;>omega
def P.slices_ContainsFunc__i_rat_i_ratP (k:Nat) (x:List (Bool×List Int×List Int)×Unit×Unit):Option (Bool×Unit):=
 (S.slices_IndexFunc__i_rat_i_ratP (x.1,(),())).bind fun y0=>some (decide (y0.1≥(0:Int)),())
open Classical in
def S.slices_ContainsFunc__i_rat_i_ratP (x:((List RB)×(Unit×Unit))):(Option (Bool×Unit)):=if goodL B32 x.1 then some (!ratesB (x.1.map (rv B32)),())else none
theorem S.slices_ContainsFunc__i_rat_i_ratP_ok (x:((List RB)×(Unit×Unit))) (r:_) (h:S.slices_ContainsFunc__i_rat_i_ratP x=some r):∃k,P.slices_ContainsFunc__i_rat_i_ratP k x=some r:=by
 obtain⟨xs,u,u'⟩:=x
 unfold S.slices_ContainsFunc__i_rat_i_ratP at h
 dsimp only at h
 split at h
 case isFalse=>cases h
 rename_i hc
 cases h
 refine⟨0,?_⟩
 unfold P.slices_ContainsFunc__i_rat_i_ratP S.slices_IndexFunc__i_rat_i_ratP
 dsimp only
 rw[if_pos hc,Option.bind_some,←not_ratesB,←ixF_any]
def P.i_weightsOf (k:Nat) (x:List ByteArray×Unit):Option ((List (Bool×List Int×List Int)×Bool)×Unit):=
 (S.i_rats (x.1,())).bind fun y0=>if !y0.1.2 then some ((([]:List (Bool×List Int×List Int)),false),())else(S.slices_ContainsFunc__i_rat_i_rat (y0.1.1,(),())).bind fun y1=>if y1.1 then some ((([]:List (Bool×List Int×List Int)),false),())else(S.i_sum (y0.1.1,())).bind fun y2=>(S.i_rat_isOne ((y2.1.1,y2.1.2.1,y2.1.2.2),())).bind fun y3=>if !y3.1 then some ((([]:List (Bool×List Int×List Int)),false),())else some ((y0.1.1,true),())
def S.i_weightsOf (x:((List ByteArray)×Unit)):(Option (((List RB)×Bool)×Unit)):=if okT x.1=true then some (((wtAll x.1).1.map (rp B32),(wtAll x.1).2),())else none
theorem S.i_weightsOf_ok (x:((List ByteArray)×Unit)) (r:_) (h:S.i_weightsOf x=some r):∃k,P.i_weightsOf k x=some r:=by
 obtain⟨ls,u⟩:=x
 unfold S.i_weightsOf at h
 dsimp only at h
 split at h
 case isFalse=>cases h
 rename_i hc
 cases h
 refine⟨0,?_⟩
 unfold P.i_weightsOf S.i_rats
 dsimp only
 rw[if_pos hc,Option.bind_some]
 dsimp only
 unfold wtAll
 have hg:=rdAll_good (ls:=ls)
 have hL:=rdAll_goodL (B:=B32) (ls:=ls)
 cases hf:(rdAll ls).2
 ·rfl
 have hg':=hg hf
 have hL':=hL hf
 rw[if_neg (by decide)]
 have ea:S.slices_ContainsFunc__i_rat_i_rat ((rdAll ls).1.map (rp B32),(),())=some ((rdAll ls).1.any fun r=>r.1,()):=by
  unfold S.slices_ContainsFunc__i_rat_i_rat
  dsimp only
  rw[if_pos hL',any_rp]
 have es:S.i_sum ((rdAll ls).1.map (rp B32),())=some (rp B32 (sumQ (rdAll ls).1),()):=by
  unfold S.i_sum
  dsimp only
  rw[if_pos (goodL_S hL'),map_rv B32_le]
 have eo:S.i_rat_isOne (rp B32 (sumQ (rdAll ls).1),())=some (isOneQ (sumQ (rdAll ls).1),()):=by
  unfold S.i_rat_isOne
  dsimp only
  rw[rv_rp B32_le,if_pos ⟨good_rok (by decide) hg',low_qok (good_sum hg').1⟩]
 rw[ea,Option.bind_some]
 dsimp only
 unfold isW
 cases hm:((rdAll ls).1.any fun r=>r.1)
 ·rw[if_neg (by decide),es,Option.bind_some]
  show Option.bind (S.i_rat_isOne (rp B32 (sumQ (rdAll ls).1),())) _=_
  rw[eo,Option.bind_some]
  cases ho:isOneQ (sumQ (rdAll ls).1)
  ·rfl
  ·simp [hf]
 ·rfl
abbrev P.i_chainOf_b0 (x1:Int×Int×List (List ByteArray)×List (List ByteArray)×List (List (Bool×List Int×List Int))×Unit) (g2:Int×Int×List (List ByteArray)×List (List ByteArray)×List (List (Bool×List Int×List Int))×Unit→Option ((List (List (Bool×List Int×List Int))×Bool)×Unit)):Option ((List (List (Bool×List Int×List Int))×Bool)×Unit):=
 if decide (x1.1<x1.2.1)then if decide ((0:Int)≤x1.1)then if decide (x1.1<(x1.2.2.1.length:Int))then(S.i_weightsOf (x1.2.2.1.getD x1.1.toNat ([]:List ByteArray),())).bind fun y3=>if !y3.1.2 then some ((([]:List (List (Bool×List Int×List Int))),false),())else if(y3.1.1.length:Int) != (x1.2.2.2.1.length:Int)then some ((([]:List (List (Bool×List Int×List Int))),false),())else if decide (((x1.2.2.2.2.1.length+(List.length [y3.1.1]))*(24:Nat))≤(140737488355328:Nat))then g2 (IntKind.wrap .i64 (x1.1+(1:Int)),x1.2.1,x1.2.2.1,x1.2.2.2.1,x1.2.2.2.2.1++[y3.1.1],())else none else none else none else some ((x1.2.2.2.2.1,true),())
def P.i_chainOf (k:Nat) (x:List (List ByteArray)×Unit):Option ((List (List (Bool×List Int×List Int))×Bool)×Unit):=
 if decide ((x.1.length:Int)<(1:Int))then some ((([]:List (List (Bool×List Int×List Int))),false),())else if decide ((x.1.length:Int)>(12:Int))then some ((([]:List (List (Bool×List Int×List Int))),false),())else loopP P.i_chainOf_b0 k ((0:Int),(x.1.length:Int),x.1,x.1,([]:List (List (Bool×List Int×List Int))),())
def S.i_chainOf (x:((List (List ByteArray))×Unit)):(Option (((List (List RB))×Bool)×Unit)):=if x.1.all okT=true then some (((chQ x.1).1.map (fun r=>r.map (rp B32)),(chQ x.1).2),())else none
theorem S.i_chainOf_ok (x:((List (List ByteArray))×Unit)) (r:_) (h:S.i_chainOf x=some r):∃k,P.i_chainOf k x=some r:=by
 obtain⟨rows,u⟩:=x
 unfold S.i_chainOf at h
 dsimp only at h
 split at h
 case isFalse=>cases h
 rename_i hc
 cases h
 refine⟨rows.length+1,?_⟩
 unfold P.i_chainOf chQ
 dsimp only
 by_cases h1:1≤rows.length
 case neg=>
  rw[if_pos (decide_eq_true (show(rows.length:Int)<1 by omega)),decide_eq_false h1]
  rfl
 rw[if_neg (by simpa using(show ¬(rows.length:Int)<1 by omega)),decide_eq_true h1]
 by_cases h2:rows.length≤12
 case neg=>
  rw[if_pos (decide_eq_true (show(rows.length:Int)>12 by omega)),decide_eq_false h2]
  rfl
 rw[if_neg (by simpa using(show ¬(rows.length:Int)>12 by omega)),decide_eq_true h2]
 simp only[Bool.true_and]
 have key:=loop_up0 (k:=rows.length+1) (b:=P.i_chainOf_b0) (n:=rows.length) (st:=fun i=>((i:Int),(rows.length:Int),rows,rows,(rows.take i).map (fun r=>(rdAll r).1.map (rp B32)),())) (F:=fun i=>some (if((rows.drop i).all fun r=>decide (r.length=rows.length)&&(wtAll r).2)=true then(rows.map (fun r=>(rdAll r).1.map (rp B32)),true)else([],false),())) (fun i g hi hg'=>by
  have e1:(i:Int)<(rows.length:Int):=by omega
  have e2:(0:Int)≤(i:Int):=by omega
  have hr:okT rows[i]=true:=List.all_eq_true.1 hc _ (List.getElem_mem hi)
  have e4:(((rows.take i).map (fun r=>(rdAll r).1.map (rp B32))).length+1)*24≤140737488355328:=by
   rw[List.length_map,List.length_take]
   omega
  unfold P.i_chainOf_b0
  dsimp only at hg' ⊢
  simp only[e1,e2,decide_true,if_true]
  rw[getD_cast rows i _ hi,List.drop_eq_getElem_cons hi,List.all_cons]
  have ew:S.i_weightsOf (rows[i],())=some (((wtAll rows[i]).1.map (rp B32),(wtAll rows[i]).2),()):=by
   unfold S.i_weightsOf
   exact if_pos hr
  rw[ew,Option.bind_some]
  dsimp only
  cases hw:(wtAll rows[i]).2
  ·rw[if_pos (by decide),Bool.and_false,Bool.false_and,if_neg (by decide)]
  obtain⟨w1,w2,w3⟩:=wtAll_ok hw
  have w4:=(rdAll_ok w1).1
  rw[if_neg (by decide),w3,List.length_map,w4,Bool.and_true]
  by_cases hl:rows[i].length=rows.length
  case neg=>
   rw[if_pos (by simp;omega),decide_eq_false hl,Bool.false_and,if_neg (by decide)]
  rw[if_neg (by simp;omega),decide_eq_true hl,Bool.true_and]
  simp only[List.length_cons,List.length_nil,Nat.zero_add]
  rw[if_pos (decide_eq_true e4),wr (by omega) (by omega),←hg',List.take_add_one,List.getElem?_eq_getElem hi,Option.toList_some,List.map_append]
  rfl) (fun g=>by
  unfold P.i_chainOf_b0
  dsimp only
  rw[if_neg (by simp),List.take_length,List.drop_length]
  rfl) (by omega)
 rw[List.drop_zero]at key
 refine Eq.trans key ?_
 by_cases ha:(rows.all fun r=>decide (r.length=rows.length)&&(wtAll r).2)=true
 ·rw[if_pos ha,if_pos ha,List.map_map]
  rfl
 ·rw[if_neg ha,if_neg ha]
  rfl
def P.i_chainAndWeights (k:Nat) (x:List (List ByteArray)×List ByteArray×Unit):Option ((List (List (Bool×List Int×List Int))×List (Bool×List Int×List Int)×Bool)×Unit):=
 (S.i_chainOf (x.1,())).bind fun y0=>(S.i_weightsOf (x.2.1,())).bind fun y1=>if y0.1.2 then if y1.1.2 then some ((y0.1.1,y1.1.1,(y1.1.1.length:Int)==(y0.1.1.length:Int)),())else some ((y0.1.1,y1.1.1,false),())else some ((y0.1.1,y1.1.1,false),())
def S.i_chainAndWeights (x:((List (List ByteArray))×((List ByteArray)×Unit))):(Option (((List (List RB))×((List RB)×Bool))×Unit)):=P.i_chainAndWeights 0 x
theorem S.i_chainAndWeights_ok (x:((List (List ByteArray))×((List ByteArray)×Unit))) (r:_) (h:S.i_chainAndWeights x=some r):∃k,P.i_chainAndWeights k x=some r:=⟨0,h⟩
def P.i_AfterSteps (k:Nat) (x:List (List ByteArray)×List ByteArray×Int×Unit):Option ((List ByteArray×Bool)×Unit):=
 (S.i_chainAndWeights (x.1,x.2.1,())).bind fun y0=>if !y0.1.2.2 then some ((([]:List ByteArray),false),())else(S.i_in (x.2.2.1,(0:Int),(40:Int),())).bind fun y1=>if !y1.1 then some ((([]:List ByteArray),false),())else(S.i_after (y0.1.1,y0.1.2.1,x.2.2.1,())).bind fun y2=>(S.i_toldList (y2.1,())).bind fun y3=>some ((y3.1.1,y3.1.2),())
def S.i_AfterSteps (x:((List (List ByteArray))×((List ByteArray)×(Int×Unit)))):(Option (((List ByteArray)×Bool)×Unit)):=P.i_AfterSteps 0 x
theorem S.i_AfterSteps_ok (x:((List (List ByteArray))×((List ByteArray)×(Int×Unit)))) (r:_) (h:S.i_AfterSteps x=some r):∃k,P.i_AfterSteps k x=some r:=⟨0,h⟩
def P.l_FnExactAfterSteps (k:Nat) (x:List (List ByteArray)×List ByteArray×Int×Unit):Option (Bool×Unit):=
 (S.l_szChain (x.1,(1000000:Int),())).bind fun y0=>if decide (y0.1<(0:Int))then some (true,())else(S.l_szStringS (x.2.1,y0.1,())).bind fun y1=>if decide (y1.1<(0:Int))then some (true,())else(S.l_toChaino (x.1,false,())).bind fun y2=>(S.l_toStringSo (x.2.1,false,())).bind fun y3=>(S.s_AfterSteps (List.map (fun(y4:List ByteArray×Nat)=>List.map (fun(y5:ByteArray)=>y5) (List.take y4.2 y4.1)) (seen (nrm (hd0 y2.1.1) (in0 y2.1.1)) 0 y2.1.2),seen y3.1.1 0 y3.1.2,x.2.2.1,())).bind fun y6=>(S.l_toChaino (x.1,false,())).bind fun y7=>(S.l_toStringSo (x.2.1,false,())).bind fun y8=>(S.i_AfterSteps (List.map (fun(y9:List ByteArray×Nat)=>List.map (fun(y10:ByteArray)=>y10) (List.take y9.2 y9.1)) (seen (nrm (hd0 y7.1.1) (in0 y7.1.1)) 0 y7.1.2),seen y8.1.1 0 y8.1.2,x.2.2.1,())).bind fun y11=>(S.l_eqStringS (y11.1.1,y6.1.1,())).bind fun y12=>if !y12.1 then some (false,())else if ! (y11.1.2==y6.1.2)then some (false,())else(S.l_toChaino (x.1,false,())).bind fun y13=>(S.l_intactChain ((List.drop 0 (nrm (hd0 y7.1.1) (in0 y7.1.1)),y7.1.2),(List.drop 0 (nrm (hd0 y13.1.1) (in0 y13.1.1)),y13.1.2),())).bind fun y14=>if !y14.1 then some (false,())else(S.l_toStringSo (x.2.1,false,())).bind fun y15=>(S.l_intactStringS ((List.drop 0 y8.1.1,y8.1.2),(List.drop 0 y15.1.1,y15.1.2),())).bind fun y16=>if !y16.1 then some (false,())else if dup (List.map (fun(y17:Nat×Nat)=>y17.1) (seen (hd0 y7.1.1) 0 y7.1.2))then none else if decide (y7.1.2=(List.length (hd0 y7.1.1)))then(S.l_markChain (nrm (seen (hd0 y7.1.1) 0 y7.1.2) (in0 y7.1.1),(101:Int),())).bind fun y18=>(S.l_markStringS (seen y8.1.1 0 y8.1.2,y18.1,())).bind fun y19=>if decide (y19.1<(0:Int))then some (false,())else(S.l_eqStringS (y11.1.1,y6.1.1,())).bind fun y20=>if !y20.1 then some (false,())else if ! (y11.1.2==y6.1.2)then some (false,())else(S.l_markStringS (y11.1.1,(101:Int),())).bind fun y21=>(S.l_heldStringS (splice y11.1.1 y21.2.1 (0:Nat),(101:Int),())).bind fun y22=>if decide (y22.1<(0:Int))then some (false,())else if y22.1 != y21.1 then some (false,())else(S.l_toChaino (x.1,true,())).bind fun y23=>(S.l_toStringSo (x.2.1,true,())).bind fun y24=>(S.i_AfterSteps (List.map (fun(y25:List ByteArray×Nat)=>List.map (fun(y26:ByteArray)=>y26) (List.take y25.2 y25.1)) (seen (nrm (hd0 y23.1.1) (in0 y23.1.1)) 0 y23.1.2),seen y24.1.1 0 y24.1.2,x.2.2.1,())).bind fun y27=>(S.l_eqStringS (y27.1.1,y6.1.1,())).bind fun y28=>if !y28.1 then some (false,())else if ! (y27.1.2==y6.1.2)then some (false,())else(S.l_heldStringS (splice y11.1.1 y21.2.1 (0:Nat),(101:Int),())).bind fun y29=>if decide (y29.1<(0:Int))then some (false,())else if y29.1 != y21.1 then some (false,())else some (true,())else(S.l_markChain (nrm (seen (hd0 y7.1.1) 0 y7.1.2) (in0 y7.1.1),(101:Int),())).bind fun y30=>(S.l_markStringS (seen y8.1.1 0 y8.1.2,y30.1,())).bind fun y31=>if decide (y31.1<(0:Int))then some (false,())else(S.l_eqStringS (y11.1.1,y6.1.1,())).bind fun y32=>if !y32.1 then some (false,())else if ! (y11.1.2==y6.1.2)then some (false,())else(S.l_markStringS (y11.1.1,(101:Int),())).bind fun y33=>(S.l_heldStringS (splice y11.1.1 y33.2.1 (0:Nat),(101:Int),())).bind fun y34=>if decide (y34.1<(0:Int))then some (false,())else if y34.1 != y33.1 then some (false,())else(S.l_toChaino (x.1,true,())).bind fun y35=>(S.l_toStringSo (x.2.1,true,())).bind fun y36=>(S.i_AfterSteps (List.map (fun(y37:List ByteArray×Nat)=>List.map (fun(y38:ByteArray)=>y38) (List.take y37.2 y37.1)) (seen (nrm (hd0 y35.1.1) (in0 y35.1.1)) 0 y35.1.2),seen y36.1.1 0 y36.1.2,x.2.2.1,())).bind fun y39=>(S.l_eqStringS (y39.1.1,y6.1.1,())).bind fun y40=>if !y40.1 then some (false,())else if ! (y39.1.2==y6.1.2)then some (false,())else(S.l_heldStringS (splice y11.1.1 y33.2.1 (0:Nat),(101:Int),())).bind fun y41=>if decide (y41.1<(0:Int))then some (false,())else if y41.1 != y33.1 then some (false,())else some (true,())
def S.l_FnExactAfterSteps (x:((List (List ByteArray))×((List ByteArray)×(Int×Unit)))):(Option (Bool×Unit)):=P.l_FnExactAfterSteps 0 x
theorem S.l_FnExactAfterSteps_ok (x:((List (List ByteArray))×((List ByteArray)×(Int×Unit)))) (r:_) (h:S.l_FnExactAfterSteps x=some r):∃k,P.l_FnExactAfterSteps k x=some r:=⟨0,h⟩
end Go.Cm
end
