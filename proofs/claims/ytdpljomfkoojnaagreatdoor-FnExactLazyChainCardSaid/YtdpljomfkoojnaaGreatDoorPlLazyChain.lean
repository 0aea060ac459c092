import Derived.Test.YtdpljomfkoojnaaGreatDoorPlLazyChainc
set_option linter.unusedVariables false
set_option maxRecDepth 100000
noncomputable section
namespace Go.Cm
open IntKind (wrap)
abbrev i_LazyChain.A:=Int×Int×List (List RB×Nat)×Int×RB×List (List RB)×Int×Int×List (List ByteArray)×Unit
abbrev i_LazyChain.B:=Int×Int×List (List RB)×List (List RB×Nat)×RB×List (List ByteArray)×Unit
abbrev i_LazyChain.C:=Option (((List (List ByteArray×Nat)×Nat)×Bool)×Unit)
abbrev P.i_LazyChain_b8 (g6:i_LazyChain.B->i_LazyChain.C) (x9:i_LazyChain.A) (g10:i_LazyChain.A->i_LazyChain.C):i_LazyChain.C:=
 (fun(a b d h i:Int) (c:List (List RB×Nat)) (e:RB) (f:List (List RB)) (j:List (List ByteArray))=>if decide (a<b)then if decide (0<=d)then if decide (d<(List.length (hd0 c):Int))then if decide (0<=d)then if decide (d<(f.length:Int))then if decide (0<=a)then if decide (a<(List.length (f.getD d.toNat []):Int))then(S.i_rat_mul ((e.1,e.2.1,e.2.2),((List.getD (f.getD d.toNat []) a.toNat (false,[],[])).1,(List.getD (f.getD d.toNat []) a.toNat (false,[],[])).2.1,(List.getD (f.getD d.toNat []) a.toNat (false,[],[])).2.2),())).bind fun y11=>if decide (0<=a)then if decide (a<(((List.getD (hd0 c) (0+d.toNat) (0,0)).2:Nat):Int))then if dup (List.map (fun(y12:Nat×Nat)=>y12.1) (hd0 c))then none else g10 (wrap .i64 (a+1),b,nrm (hd0 c) (List.set (in0 c) (List.getD (hd0 c) (0+d.toNat) (0,0)).1 (List.set (List.getD (in0 c) (List.getD (hd0 c) (0+d.toNat) (0,0)).1 []) (0+a.toNat) (y11.1.1,y11.1.2.1,y11.1.2.2))),d,(e.1,e.2.1,e.2.2),f,h,i,j,())else none else none else none else none else none else none else none else none else if decide (0<=d)then if decide (d<(List.length (hd0 c):Int))then if decide (0<=d)then if decide (d<(List.length (hd0 c):Int))then if decide (0<=d)then if decide (d<(((List.getD (hd0 c) (0+d.toNat) (0,0)).2:Nat):Int))then(S.i_whole (1,())).bind fun y13=>(S.i_rat_sub ((y13.1.1,y13.1.2.1,y13.1.2.2),(e.1,e.2.1,e.2.2),())).bind fun y14=>(S.i_rat_add (((List.getD (List.getD (in0 c) (List.getD (hd0 c) (0+d.toNat) (0,0)).1 []) (0+d.toNat) (false,[],[])).1,(List.getD (List.getD (in0 c) (List.getD (hd0 c) (0+d.toNat) (0,0)).1 []) (0+d.toNat) (false,[],[])).2.1,(List.getD (List.getD (in0 c) (List.getD (hd0 c) (0+d.toNat) (0,0)).1 []) (0+d.toNat) (false,[],[])).2.2),(y14.1.1,y14.1.2.1,y14.1.2.2),())).bind fun y15=>if decide (0<=d)then if decide (d<(((List.getD (hd0 c) (0+d.toNat) (0,0)).2:Nat):Int))then if dup (List.map (fun(y16:Nat×Nat)=>y16.1) (hd0 c))then none else g6 (wrap .i64 (h+1),i,f,nrm (hd0 c) (List.set (in0 c) (List.getD (hd0 c) (0+d.toNat) (0,0)).1 (List.set (List.getD (in0 c) (List.getD (hd0 c) (0+d.toNat) (0,0)).1 []) (0+d.toNat) (y15.1.1,y15.1.2.1,y15.1.2.2))),(e.1,e.2.1,e.2.2),j,())else none else none else none else none else none else none else none else none) x9.1 x9.2.1 x9.2.2.2.1 x9.2.2.2.2.2.2.1 x9.2.2.2.2.2.2.2.1 x9.2.2.1 x9.2.2.2.2.1 x9.2.2.2.2.2.1 x9.2.2.2.2.2.2.2.2.1
abbrev P.i_LazyChain_b4 (k:Nat) (x5:i_LazyChain.B) (g6:i_LazyChain.B->i_LazyChain.C):i_LazyChain.C:=
 if decide (x5.1<x5.2.1)then if dup (List.map (fun(y7:Nat×Nat)=>y7.1) (hd0 x5.2.2.2.1))then none else loopP (P.i_LazyChain_b8 g6) k (0,(x5.2.2.1.length:Int),nrm (hd0 x5.2.2.2.1) (in0 x5.2.2.2.1),x5.1,(x5.2.2.2.2.1.1,x5.2.2.2.2.1.2.1,x5.2.2.2.2.1.2.2),x5.2.2.1,x5.1,x5.2.1,x5.2.2.2.2.2.1,())else(S.i_toldChain (List.map (fun(y17:List RB×Nat)=>List.map (fun(y18:Bool×List Int×List Int)=>(y18.1,List.map (fun(y19:Int)=>y19) y18.2.1,List.map (fun(y20:Int)=>y20) y18.2.2)) (List.take y17.2 y17.1)) (nrm (hd0 x5.2.2.2.1) (in0 x5.2.2.2.1)),())).bind fun y21=>if dup (List.map (fun(y22:Nat×Nat)=>y22.1) (hd0 y21.1.1.1))then none else some (((nrm (hd0 y21.1.1.1) (in0 y21.1.1.1),y21.1.1.2),y21.1.2),())
def P.i_LazyChain (k:Nat) (x:List (List ByteArray)×ByteArray×Unit):i_LazyChain.C:=
 (S.i_chainOf (x.1,())).bind fun y0=>(S.i_shareOf (x.2.1,())).bind fun y1=>if !y0.1.2 then some (((([]:List (List ByteArray×Nat)),0),false),())else if !y1.1.2 then some (((([]:List (List ByteArray×Nat)),0),false),())else(S.i_zeros ((y0.1.1.length:Int),())).bind fun y2=>if decide (y2.1.2=(List.length (hd0 y2.1.1)))then if dup (List.map (fun(y3:Nat×Nat)=>y3.1) (hd0 y2.1.1))then none else loopP (P.i_LazyChain_b4 k) k (0,(y0.1.1.length:Int),y0.1.1,nrm (hd0 y2.1.1) (in0 y2.1.1),(y1.1.1.1,y1.1.1.2.1,y1.1.1.2.2),[],())else none
theorem lzi_share {s:ByteArray} (h:s.size<=1000000):S.i_shareOf (s,())=some ((rp B32 (rdRat s.data.toList).1,shrQ s),()):=by
 unfold S.i_shareOf P.i_shareOf shrQ;dsimp only;have er:S.i_readRat (s,())=some ((rp B32 (rdRat s.data.toList).1,(rdRat s.data.toList).2),()):=by
  unfold S.i_readRat;exact if_pos (Nat.lt_of_le_of_lt h (by decide))
 have hl:=rdRat_low s.data.toList;have hb:=rdRat_ok s.data.toList;rw[er,Option.bind_some];dsimp only;cases hf:(rdRat s.data.toList).2
 ·rw[if_neg (by decide)];rfl
 have ql:=hl hf;have qb:=(hb hf).2;generalize (rdRat s.data.toList).1=q at*;have es:S.i_rat_sign (((rp B32 q).1,(rp B32 q).2.1,(rp B32 q).2.2),())=some (sgnQ q.1 q.2.1,()):=by
  unfold S.i_rat_sign rp;dsimp only;rw[if_pos (canon_nd (by decide) _),dval_nd (by decide)]
 rw[if_pos rfl,es,Option.bind_some];dsimp only;have h1:S.i_whole (1,())=some (rp B32 oneQ,()):=by rfl
 have ec:S.i_rat_cmp (((rp B32 q).1,(rp B32 q).2.1,(rp B32 q).2.2),((rp B32 oneQ).1,(rp B32 oneQ).2.1,(rp B32 oneQ).2.2),())=some (cmpZ q oneQ,()):=ri_cmp ql oneQ_low (below_mono (n:=350000000) (by decide) qb) (oneQ_below (by decide));have hs:=sgn_neg ql;cases hq:q.1
 ·rw[hq]at hs;rw[if_pos (decide_eq_true (hs.2 rfl)),h1,Option.bind_some];dsimp only;rw[ec,Option.bind_some];rfl
 ·rw[hq]at hs;rw[if_neg (by
   rw[decide_eq_true_eq];intro z;exact absurd (hs.1 z) (by decide))]
  rfl
def lzM (M:List (List Q3)) (a:Q3) (i j:Nat):Nat->Nat->Q3:=fun x y=>if x<i then lazyQ M a x y else if x=i/\y<j then mulQ a (mq M x y)else zeroQ
theorem lzi_row {M:List (List Q3)} (h:isCh M) {a:Q3} (ha:low a) (hb:below 200 a) {i:Nat} (hi:i<M.length) (g) {K:Nat} (hK:12<K):
  loopP (P.i_LazyChain_b8 g) K ((0:Int),(M.length:Int),om B32 M.length M.length (lzM M a i 0),(i:Int),rp B32 a,mp B32 M,(i:Int),(M.length:Int),([]:List (List ByteArray)),())=g (((i+1:Nat):Int),(M.length:Int),mp B32 M,om B32 M.length M.length (lzM M a (i+1) 0),rp B32 a,([]:List (List ByteArray)),()):=by
 have hn:=h.2.1.1;obtain⟨l1,l2⟩:=lazy_ok h ha hb;have okA:okq a:=⟨ha,below_mono (by decide) hb⟩
 have key:=loop_up0 (k:=K) (b:=P.i_LazyChain_b8 g) (n:=M.length) (st:=fun j=>((j:Int),(M.length:Int),om B32 M.length M.length (lzM M a i j),(i:Int),rp B32 a,mp B32 M,(i:Int),(M.length:Int),([]:List (List ByteArray)),())) (F:=fun _=>g (((i+1:Nat):Int),(M.length:Int),mp B32 M,om B32 M.length M.length (lzM M a (i+1) 0),rp B32 a,([]:List (List ByteArray)),())) (fun j g' hj hg=>by
  unfold P.i_LazyChain_b8;dsimp only at hg ⊢;have e1:(j:Int)<(M.length:Int):=by omega
  have e2:(0:Int)<=(j:Int):=by omega
  have e3:(0:Int)<=(i:Int):=by omega
  have e4:(i:Int)<(M.length:Int):=by omega
  have e8:((mp B32 M).getD i []).getD j (false,(([]:List Int),([]:List Int)))=rp B32 (mq M i j):=mq_held h.2.1 hi hj;have em:S.i_rat_mul (((rp B32 a).1,(rp B32 a).2.1,(rp B32 a).2.2),((rp B32 (mq M i j)).1,(rp B32 (mq M i j)).2.1,(rp B32 (mq M i j)).2.2),())=some (rp B32 (mulQ a (mq M i j)),()):=by
   show S.i_rat_mul (rp B32 a,rp B32 (mq M i j),())=_;unfold S.i_rat_mul;dsimp only;rw[if_pos ⟨okq_low (by decide) okA,okq_low (by decide) (okq_200 ⟨(ch_at h hi hj).1,(ch_at h hi hj).2.1⟩)⟩,rv_rp B32_le,rv_rp B32_le]
  have hu:updM (lzM M a i j) i j (mulQ a (mq M i j))=lzM M a i (j+1):=by
   funext x y;unfold updM lzM
   by_cases q:x=i/\y=j
   ·rw[if_pos q,q.1,q.2,if_neg (by omega),if_pos ⟨rfl,by omega⟩]
   ·rw[if_neg q]
    by_cases w:x<i
    ·rw[if_pos w,if_pos w]
    ·rw[if_neg w,if_neg w]
     by_cases w2:x=i/\y<j
     ·rw[if_pos w2,if_pos ⟨w2.1,by omega⟩]
     ·rw[if_neg w2,if_neg (by omega)]
  simp only[hd0_length,om_len,mp_len,mq_wide h.2.1 hi,Int.toNat_natCast,Nat.zero_add,om_hd hi,om_in hi,hd0_dup,e1,e2,e3,e4,e8,decide_true,if_true,Bool.false_eq_true,if_false];rw[em,Option.bind_some];dsimp only;rw[wr (by omega) (by omega)];rw[<-hu]at hg;rw[<-om_write hi]at hg;exact hg) (fun g'=>by
  unfold P.i_LazyChain_b8;dsimp only;have e3:(0:Int)<=(i:Int):=by omega
  have e4:(i:Int)<(M.length:Int):=by omega
  have h1:S.i_whole (1,())=some (rp B32 oneQ,()):=by rfl
  have es:S.i_rat_sub (((rp B32 oneQ).1,(rp B32 oneQ).2.1,(rp B32 oneQ).2.2),((rp B32 a).1,(rp B32 a).2.1,(rp B32 a).2.2),())=some (rp B32 (addQ oneQ (oppQ a)),()):=by
   show S.i_rat_sub (rp B32 oneQ,rp B32 a,())=_;exact ri_sub oneQ_low (oneQ_below (n:=350000000) (by decide)) ha okA.2 (Nat.le_refl _) (Nat.le_refl _)
  have ev:lzM M a i M.length i i=mulQ a (mq M i i):=by
   unfold lzM;rw[if_neg (by omega),if_pos ⟨rfl,hi⟩]
  have ea:S.i_rat_add (((rp B32 (mulQ a (mq M i i))).1,(rp B32 (mulQ a (mq M i i))).2.1,(rp B32 (mulQ a (mq M i i))).2.2),((rp B32 (addQ oneQ (oppQ a))).1,(rp B32 (addQ oneQ (oppQ a))).2.1,(rp B32 (addQ oneQ (oppQ a))).2.2),())=some (rp B32 (addQ (mulQ a (mq M i i)) (addQ oneQ (oppQ a))),()):=by
   show S.i_rat_add (rp B32 _,rp B32 _,())=_;unfold S.i_rat_add;dsimp only;rw[if_pos ⟨okq_low (by decide) (l2 i hi i hi).1,okq_low (by decide) l1⟩,rv_rp B32_le,rv_rp B32_le]
  have hu:om B32 M.length M.length (updM (lzM M a i M.length) i i (addQ (mulQ a (mq M i i)) (addQ oneQ (oppQ a))))=om B32 M.length M.length (lzM M a (i+1) 0):=om_congr fun x hx y hy=>by
   unfold updM lzM
   by_cases q:x=i/\y=i
   ·rw[if_pos q,q.1,q.2,if_pos (by omega)];unfold lazyQ;rw[if_pos rfl]
   ·rw[if_neg q]
    by_cases w:x<i
    ·rw[if_pos w,if_pos (by omega)]
    ·rw[if_neg w]
     by_cases w2:x=i
     ·rw[if_pos ⟨w2,hy⟩,if_pos (by omega)];unfold lazyQ;rw[if_neg (by omega)]
     ·rw[if_neg (fun q=>w2 q.1),if_neg (by omega),if_neg (by omega)]
  rw[if_neg (by simp)];simp only[hd0_length,om_len,Int.toNat_natCast,Nat.zero_add,om_hd hi,om_in hi,om_num hi,hd0_dup,e3,e4,ev,decide_true,if_true,Bool.false_eq_true,if_false];rw[h1,Option.bind_some];dsimp only;rw[es,Option.bind_some];dsimp only;rw[ea,Option.bind_some];dsimp only;rw[wr (by omega) (by omega)];show g (_,_,_,nrm (hd0 _) ((in0 _).set i (((tab M.length (lzM M a i M.length i)).map (rp B32)).set i (rp B32 _))),_)=_;rw[om_write hi,hu];rfl) (by omega)
 exact key
def S.i_LazyChain (x:((List (List ByteArray))×(ByteArray×Unit))):(Option (((((List ((List ByteArray)×Nat))×Nat))×Bool)×Unit)):=if x.1.all okT=true/\x.2.1.size<=1000000 then some (ownW (lzT x.1 x.2.1),())else none
theorem S.i_LazyChain_ok (x r) (h:S.i_LazyChain x=some r):∃k,P.i_LazyChain k x=some r:=by
 obtain⟨u,s,q⟩:=x;unfold S.i_LazyChain at h;dsimp only at h;split at h
 case isFalse=>cases h
 rename_i hc;obtain⟨hu,hs⟩:=hc;cases h;refine⟨13,?_⟩;unfold P.i_LazyChain lzT;dsimp only;have ep:S.i_chainOf (u,())=some ((mp B32 (chQ u).1,(chQ u).2),()):=by
  unfold S.i_chainOf;exact if_pos hu
 rw[ep,Option.bind_some,lzi_share hs,Option.bind_some];dsimp only;cases hf:(chQ u).2
 ·rw[if_pos (by decide),if_neg (by simp)];rfl
 obtain⟨hM,_⟩:=chQ_ok hf;rw[if_neg (by decide)];cases hg:shrQ s
 ·rw[if_pos (by decide),if_neg (by simp)];rfl
 obtain⟨ha,hb⟩:=shr_low hg;rw[if_neg (by decide),if_pos ⟨rfl,rfl⟩];generalize (chQ u).1=M at*;generalize (rdRat s.data.toList).1=a at*;have hn:=hM.2.1.1;have ez:S.i_zeros ((M.length:Int),())=some ((om B32 M.length M.length (fun _ _=>zeroQ),M.length),()):=by
  unfold S.i_zeros;dsimp only;rw[if_pos ⟨by omega,by omega⟩,Int.toNat_natCast,zeros_om]
 rw[mp_len,ez,Option.bind_some];dsimp only;rw[hd0_length,om_len,if_pos (by simp),hd0_dup,nrm_hd0,if_neg (by decide)];have key:=loop_up0 (k:=13) (b:=P.i_LazyChain_b4 13) (n:=M.length) (st:=fun i=>((i:Int),(M.length:Int),mp B32 M,om B32 M.length M.length (lzM M a i 0),rp B32 a,([]:List (List ByteArray)),())) (F:=fun _=>some (ownW (giveM (mat M.length (lazyQ M a))),())) (fun i g hi hg=>by
  unfold P.i_LazyChain_b4;dsimp only at hg ⊢;rw[if_pos (decide_eq_true (by omega)),hd0_dup,nrm_hd0,if_neg (by decide),mp_len,<-hg];exact lzi_row hM ha hb hi g (by decide)) (fun g=>by
  unfold P.i_LazyChain_b4;dsimp only;have hm:om B32 M.length M.length (lzM M a M.length 0)=om B32 M.length M.length (lazyQ M a):=om_congr fun x hx y hy=>by
   unfold lzM;rw[if_pos hx]
  rw[if_neg (by simp),nrm_hd0,hm,om_view,i_toldChain_eq (okM_mat hn fun i hi j hj=>((lazy_ok hM ha hb).2 i hi j hj).2),Option.bind_some];dsimp only;rw[hd0_dup,nrm_hd0,if_neg (by decide)]) (by omega)
 refine Eq.trans ?_ key;have h0:om B32 M.length M.length (fun _ _=>zeroQ)=om B32 M.length M.length (lzM M a 0 0):=om_congr fun x hx y hy=>by
  unfold lzM;rw[if_neg (by omega),if_neg (by omega)]
 rw[h0];rfl
def P.l_FnExactLazyChain (k:Nat) (x:List (List ByteArray)×ByteArray×Unit):Option (Bool×Unit):=
 (S.l_szChain (x.1,wrap .i64 (1000000 - (x.2.1.size:Int)),())).bind fun y0=>if decide (y0.1<0)then some (true,())else(S.l_toChaino (x.1,false,())).bind fun y1=>(S.s_LazyChain (List.map (fun(y2:List ByteArray×Nat)=>List.map (fun(y3:ByteArray)=>y3) (List.take y2.2 y2.1)) (seen (nrm (hd0 y1.1.1) (in0 y1.1.1)) 0 y1.1.2),x.2.1,())).bind fun y4=>(S.l_toChaino (x.1,false,())).bind fun y5=>(S.i_LazyChain (List.map (fun(y6:List ByteArray×Nat)=>List.map (fun(y7:ByteArray)=>y7) (List.take y6.2 y6.1)) (seen (nrm (hd0 y5.1.1) (in0 y5.1.1)) 0 y5.1.2),x.2.1,())).bind fun y8=>(S.l_eqChain (List.map (fun(y9:List ByteArray×Nat)=>List.map (fun(y10:ByteArray)=>y10) (List.take y9.2 y9.1)) (seen (nrm (hd0 y8.1.1.1) (in0 y8.1.1.1)) 0 y8.1.1.2),List.map (fun(y11:List ByteArray×Nat)=>List.map (fun(y12:ByteArray)=>y12) (List.take y11.2 y11.1)) (seen (nrm (hd0 y4.1.1.1) (in0 y4.1.1.1)) 0 y4.1.1.2),())).bind fun y13=>if !y13.1 then some (false,())else if ! (y8.1.2==y4.1.2)then some (false,())else(S.l_toChaino (x.1,false,())).bind fun y14=>(S.l_intactChain ((List.drop 0 (nrm (hd0 y5.1.1) (in0 y5.1.1)),y5.1.2),(List.drop 0 (nrm (hd0 y14.1.1) (in0 y14.1.1)),y14.1.2),())).bind fun y15=>if !y15.1 then some (false,())else if dup (List.map (fun(y16:Nat×Nat)=>y16.1) (seen (hd0 y5.1.1) 0 y5.1.2))then none else(fun(e0:Option (Bool×Unit))=>if decide (y5.1.2=(List.length (hd0 y5.1.1)))then e0 else e0) ((S.l_markChain (nrm (seen (hd0 y5.1.1) 0 y5.1.2) (in0 y5.1.1),101,())).bind fun y17=>if decide (y17.1<0)then some (false,())else(S.l_eqChain (List.map (fun(y18:List ByteArray×Nat)=>List.map (fun(y19:ByteArray)=>y19) (List.take y18.2 y18.1)) (seen (nrm (hd0 y8.1.1.1) (in0 y8.1.1.1)) 0 y8.1.1.2),List.map (fun(y20:List ByteArray×Nat)=>List.map (fun(y21:ByteArray)=>y21) (List.take y20.2 y20.1)) (seen (nrm (hd0 y4.1.1.1) (in0 y4.1.1.1)) 0 y4.1.1.2),())).bind fun y22=>if !y22.1 then some (false,())else if ! (y8.1.2==y4.1.2)then some (false,())else if dup (List.map (fun(y23:Nat×Nat)=>y23.1) (seen (hd0 y8.1.1.1) 0 y8.1.1.2))then none else if decide (y8.1.1.2=(List.length (hd0 y8.1.1.1)))then(S.l_markChain (nrm (seen (hd0 y8.1.1.1) 0 y8.1.1.2) (in0 y8.1.1.1),101,())).bind fun y24=>(S.l_heldChain (List.map (fun(y25:List ByteArray×Nat)=>List.map (fun(y26:ByteArray)=>y26) (List.take y25.2 y25.1)) (seen (nrm (hd0 y24.2.1) (in0 y24.2.1)) 0 y8.1.1.2),101,())).bind fun y27=>if decide (y27.1<0)then some (false,())else if y27.1 != y24.1 then some (false,())else(S.l_toChaino (x.1,true,())).bind fun y28=>(S.i_LazyChain (List.map (fun(y29:List ByteArray×Nat)=>List.map (fun(y30:ByteArray)=>y30) (List.take y29.2 y29.1)) (seen (nrm (hd0 y28.1.1) (in0 y28.1.1)) 0 y28.1.2),x.2.1,())).bind fun y31=>(S.l_eqChain (List.map (fun(y32:List ByteArray×Nat)=>List.map (fun(y33:ByteArray)=>y33) (List.take y32.2 y32.1)) (seen (nrm (hd0 y31.1.1.1) (in0 y31.1.1.1)) 0 y31.1.1.2),List.map (fun(y34:List ByteArray×Nat)=>List.map (fun(y35:ByteArray)=>y35) (List.take y34.2 y34.1)) (seen (nrm (hd0 y4.1.1.1) (in0 y4.1.1.1)) 0 y4.1.1.2),())).bind fun y36=>if !y36.1 then some (false,())else if ! (y31.1.2==y4.1.2)then some (false,())else(S.l_heldChain (List.map (fun(y37:List ByteArray×Nat)=>List.map (fun(y38:ByteArray)=>y38) (List.take y37.2 y37.1)) (seen (nrm (hd0 y24.2.1) (in0 y24.2.1)) 0 y8.1.1.2),101,())).bind fun y39=>if decide (y39.1<0)then some (false,())else if y39.1 != y24.1 then some (false,())else some (true,())else(S.l_markChain (nrm (seen (hd0 y8.1.1.1) 0 y8.1.1.2) (in0 y8.1.1.1),101,())).bind fun y40=>none)
def S.l_FnExactLazyChain (x:((List (List ByteArray))×(ByteArray×Unit))):(Option (Bool×Unit)):=P.l_FnExactLazyChain 0 x
theorem S.l_FnExactLazyChain_ok (x r) (h:S.l_FnExactLazyChain x=some r):∃k,P.l_FnExactLazyChain k x=some r:=⟨0,h⟩
end Go.Cm
end
