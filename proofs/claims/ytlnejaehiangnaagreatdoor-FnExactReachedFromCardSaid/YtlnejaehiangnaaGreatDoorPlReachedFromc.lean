import Derived.Test.YtlnejaehiangnaaGreatDoorPlReachedFromb
set_option linter.unusedVariables false
set_option maxRecDepth 100000
noncomputable section
namespace Go.Cm
abbrev P.s_l00Put_b0 (x1:(Int×((List Int)×(Bool×(Int×((List Int)×Unit)))))) (g2:(Int×((List Int)×(Bool×(Int×((List Int)×Unit)))))→Option ((List Int)×Unit)):Option ((List Int)×Unit):=
 (if((decide (x1.1<((List.length x1.2.1):Int)))=true)then(if((!x1.2.2.1)=true)then(if((decide ((0:Int)≤x1.1))=true)then(if((decide (x1.1<((List.length x1.2.1):Int)))=true)then(if((decide ((List.getD x1.2.1 (Int.toNat x1.1) (0:Int))≥x1.2.2.2.1))=true)then(if((decide ((0:Int)≤x1.1))=true)then(if((decide (x1.1<((List.length x1.2.1):Int)))=true)then(if((decide ((List.getD x1.2.1 (Int.toNat x1.1) (0:Int))>x1.2.2.2.1))=true)then(if((decide ((((List.length x1.2.2.2.2.1)+(List.length (x1.2.2.2.1::([]:List Int))))*(8:Nat))≤(140737488355328:Nat)))=true)then(if((decide ((0:Int)≤x1.1))=true)then(if((decide (x1.1<((List.length x1.2.1):Int)))=true)then(if((decide ((((List.length (x1.2.2.2.2.1++(x1.2.2.2.1::([]:List Int))))+(List.length ((List.getD x1.2.1 (Int.toNat x1.1) (0:Int))::([]:List Int))))*(8:Nat))≤(140737488355328:Nat)))=true)then(g2 ((IntKind.wrap .i64 (x1.1+(1:Int))),(x1.2.1,(true,(x1.2.2.2.1,(((x1.2.2.2.2.1++(x1.2.2.2.1::([]:List Int)))++((List.getD x1.2.1 (Int.toNat x1.1) (0:Int))::([]:List Int))),()))))))
 else none)
 else none)
 else none)
 else none)
 else(if((decide ((0:Int)≤x1.1))=true)then(if((decide (x1.1<((List.length x1.2.1):Int)))=true)then(if((decide ((((List.length x1.2.2.2.2.1)+(List.length ((List.getD x1.2.1 (Int.toNat x1.1) (0:Int))::([]:List Int))))*(8:Nat))≤(140737488355328:Nat)))=true)then(g2 ((IntKind.wrap .i64 (x1.1+(1:Int))),(x1.2.1,(true,(x1.2.2.2.1,((x1.2.2.2.2.1++((List.getD x1.2.1 (Int.toNat x1.1) (0:Int))::([]:List Int))),()))))))
 else none)
 else none)
 else none))
 else none)
 else none)
 else(if((decide ((0:Int)≤x1.1))=true)then(if((decide (x1.1<((List.length x1.2.1):Int)))=true)then(if((decide ((((List.length x1.2.2.2.2.1)+(List.length ((List.getD x1.2.1 (Int.toNat x1.1) (0:Int))::([]:List Int))))*(8:Nat))≤(140737488355328:Nat)))=true)then(g2 ((IntKind.wrap .i64 (x1.1+(1:Int))),(x1.2.1,(x1.2.2.1,(x1.2.2.2.1,((x1.2.2.2.2.1++((List.getD x1.2.1 (Int.toNat x1.1) (0:Int))::([]:List Int))),()))))))
 else none)
 else none)
 else none))
 else none)
 else none)
 else(if((decide ((0:Int)≤x1.1))=true)then(if((decide (x1.1<((List.length x1.2.1):Int)))=true)then(if((decide ((((List.length x1.2.2.2.2.1)+(List.length ((List.getD x1.2.1 (Int.toNat x1.1) (0:Int))::([]:List Int))))*(8:Nat))≤(140737488355328:Nat)))=true)then(g2 ((IntKind.wrap .i64 (x1.1+(1:Int))),(x1.2.1,(x1.2.2.1,(x1.2.2.2.1,((x1.2.2.2.2.1++((List.getD x1.2.1 (Int.toNat x1.1) (0:Int))::([]:List Int))),()))))))
 else none)
 else none)
 else none))
 else(if((!x1.2.2.1)=true)then(if((decide ((((List.length x1.2.2.2.2.1)+(List.length (x1.2.2.2.1::([]:List Int))))*(8:Nat))≤(140737488355328:Nat)))=true)then(some ((x1.2.2.2.2.1++(x1.2.2.2.1::([]:List Int))),()))
 else none)
 else(some (x1.2.2.2.2.1,()))))
def P.s_l00Put (k:Nat) (x:((List Int)×(Int×Unit))):(Option ((List Int)×Unit)):=
 (loopP (X:=(Int×((List Int)×(Bool×(Int×((List Int)×Unit)))))) (R:=((List Int)×Unit)) (P.s_l00Put_b0) k ((0:Int),(x.1,(false,(x.2.1,(([]:List Int),()))))))
theorem putL_len (n:Int):∀xs:List Int,(putL xs n).length≤xs.length+1
 | []=>Nat.le_refl _
 |x::xs=>by
  have:=putL_len n xs
  unfold putL
  split
  ·split<;>simp
  ·simp;omega
def S.s_l00Put (x:((List Int)×(Int×Unit))):(Option ((List Int)×Unit)):=if x.1.length≤1000000 then some (putL x.1 x.2.1,())else none
theorem S.s_l00Put_ok (x:((List Int)×(Int×Unit))) (r:_) (h:S.s_l00Put x=some r):∃k,P.s_l00Put k x=some r:=by
 obtain⟨xs,n,u⟩:=x
 unfold S.s_l00Put at h
 dsimp only at h
 split at h
 case isFalse=>cases h
 rename_i hc
 cases h
 refine⟨xs.length+1,?_⟩
 unfold P.s_l00Put
 dsimp only
 have all:∀m i k out,i+m=xs.length→m<k→out.length≤i+1→loopP P.s_l00Put_b0 k ((i:Int),xs,true,n,out,())=some (out++xs.drop i,()):=by
  intro m
  induction m with
  |zero=>
   intro i k out hi hk _
   cases k with
   |zero=>omega
   |succ k=>
    rw[loopP_succ]
    unfold P.s_l00Put_b0
    dsimp only
    rw[if_neg (by simp;omega),List.drop_of_length_le (by omega),List.append_nil]
    rfl
  |succ m ih=>
   intro i k out hi hk ho
   cases k with
   |zero=>omega
   |succ k=>
    have hi':i<xs.length:=by omega
    have e1:(i:Int)<(xs.length:Int):=by omega
    have e2:(0:Int)≤(i:Int):=by omega
    have e3:(out.length+1)*8≤140737488355328:=by omega
    have:=ih (i+1) k (out++[xs[i]]) (by omega) (by omega) (by simp;omega)
    rw[loopP_succ]
    generalize loopP P.s_l00Put_b0 k=G at this ⊢
    unfold P.s_l00Put_b0
    dsimp only
    simp only[e1,e2,e3,decide_true,if_true,Bool.not_true,Bool.false_eq_true,if_false,List.length_cons,List.length_nil,Nat.zero_add]
    rw[getD_cast xs i _ hi',wr (by omega) (by omega)]
    rw[List.drop_eq_getElem_cons hi']
    rw[List.append_assoc]at this
    exact this
 have key:∀m i k,i+m=xs.length→m<k→loopP P.s_l00Put_b0 k ((i:Int),xs,false,n,xs.take i,())=some (xs.take i++putL (xs.drop i) n,()):=by
  intro m
  induction m with
  |zero=>
   intro i k hi hk
   cases k with
   |zero=>omega
   |succ k=>
    have e3:((xs.take i).length+1)*8≤140737488355328:=by rw[List.length_take];omega
    rw[loopP_succ]
    unfold P.s_l00Put_b0
    dsimp only
    rw[if_neg (by simp;omega),if_pos (show(!false)=true from rfl),List.drop_of_length_le (by omega)]
    simp only[List.length_cons,List.length_nil,Nat.zero_add,e3,decide_true,if_true]
    rfl
  |succ m ih=>
   intro i k hi hk
   cases k with
   |zero=>omega
   |succ k=>
    have hi':i<xs.length:=by omega
    have e1:(i:Int)<(xs.length:Int):=by omega
    have e2:(0:Int)≤(i:Int):=by omega
    have hl:(xs.take i).length=i:=by rw[List.length_take];omega
    have e3:(i+1)*8≤140737488355328:=by omega
    have e4:(i+1+1)*8≤140737488355328:=by omega
    have t1:=all m (i+1) k ((xs.take i++[n])++[xs[i]]) (by omega) (by omega) (by simp;omega)
    have t2:=all m (i+1) k (xs.take i++[xs[i]]) (by omega) (by omega) (by simp;omega)
    have t3:=ih (i+1) k (by omega) (by omega)
    rw[loopP_succ]
    generalize loopP P.s_l00Put_b0 k=G at t1 t2 t3 ⊢
    unfold P.s_l00Put_b0
    dsimp only
    simp only[e1,e2,e3,e4,hl,decide_true,if_true,Bool.not_false,List.length_append,List.length_cons,List.length_nil,Nat.zero_add]
    rw[getD_cast xs i _ hi',wr (by omega) (by omega),List.drop_eq_getElem_cons hi',putL]
    by_cases h1:n≤xs[i]
    ·rw[if_pos (decide_eq_true h1),if_pos h1]
     by_cases h2:n<xs[i]
     ·rw[if_pos (decide_eq_true h2),if_pos h2]
      refine Eq.trans t1 ?_
      simp
     ·rw[if_neg (by simpa using h2),if_neg h2]
      refine Eq.trans t2 ?_
      simp
    ·rw[if_neg (by simpa using h1),if_neg h1]
     rw[←List.take_append_getElem hi',List.append_assoc]at t3
     exact t3
 have:=key xs.length 0 (xs.length+1) (by omega) (by omega)
 simpa using this
def P.s_l01Zero (k:Nat) (x:(RB×Unit)):(Option (Bool×Unit)):=
 (some ((((List.length x.1.2.1):Int)==(0:Int)),()))
def S.s_l01Zero (x:(RB×Unit)):(Option (Bool×Unit)):=P.s_l01Zero 0 x
theorem S.s_l01Zero_ok (x:(RB×Unit)) (r:_) (h:S.s_l01Zero x=some r):∃k,P.s_l01Zero k x=some r:=⟨0,h⟩
abbrev P.s_l03Reach_b3 (g2:((Int×((List Int)×((List (List RB))×((List Int)×Unit))))→(Option ((List Int)×Unit)))) (x4:(Int×(Int×((List (List RB))×((List Int)×(Int×((List Int)×Unit))))))) (g5:(Int×(Int×((List (List RB))×((List Int)×(Int×((List Int)×Unit))))))→Option ((List Int)×Unit)):Option ((List Int)×Unit):=
 (if((decide (x4.1<x4.2.1))=true)then(if((decide ((0:Int)≤x4.2.2.2.2.1))=true)then(if((decide (x4.2.2.2.2.1<((List.length x4.2.2.2.1):Int)))=true)then(if((decide ((0:Int)≤(List.getD x4.2.2.2.1 ((0:Nat)+(Int.toNat x4.2.2.2.2.1)) (0:Int))))=true)then(if((decide ((List.getD x4.2.2.2.1 ((0:Nat)+(Int.toNat x4.2.2.2.2.1)) (0:Int))<((List.length x4.2.2.1):Int)))=true)then(if((decide ((0:Int)≤x4.1))=true)then(if((decide (x4.1<((List.length (List.getD x4.2.2.1 (Int.toNat (List.getD x4.2.2.2.1 ((0:Nat)+(Int.toNat x4.2.2.2.2.1)) (0:Int))) ([]:List RB))):Int)))=true)then(Option.bind (S.s_l01Zero (((List.getD (List.getD x4.2.2.1 (Int.toNat (List.getD x4.2.2.2.1 ((0:Nat)+(Int.toNat x4.2.2.2.2.1)) (0:Int))) ([]:List RB)) (Int.toNat x4.1) (false,(([]:List Int),([]:List Int)))).1,((List.getD (List.getD x4.2.2.1 (Int.toNat (List.getD x4.2.2.2.1 ((0:Nat)+(Int.toNat x4.2.2.2.2.1)) (0:Int))) ([]:List RB)) (Int.toNat x4.1) (false,(([]:List Int),([]:List Int)))).2.1,(List.getD (List.getD x4.2.2.1 (Int.toNat (List.getD x4.2.2.2.1 ((0:Nat)+(Int.toNat x4.2.2.2.2.1)) (0:Int))) ([]:List RB)) (Int.toNat x4.1) (false,(([]:List Int),([]:List Int)))).2.2)),())) (fun(y6:(Bool×Unit))=>(if((!y6.1)=true)then(Option.bind (S.s_l00Has (x4.2.2.2.2.2.1,(x4.1,()))) (fun(y7:(Bool×Unit))=>(if((!y7.1)=true)then(Option.bind (S.s_l00Put (x4.2.2.2.2.2.1,(x4.1,()))) (fun(y8:((List Int)×Unit))=>(if((decide ((((List.length x4.2.2.2.1)+(List.length (x4.1::([]:List Int))))*(8:Nat))≤(140737488355328:Nat)))=true)then(g5 ((IntKind.wrap .i64 (x4.1+(1:Int))),(x4.2.1,(x4.2.2.1,((x4.2.2.2.1++(x4.1::([]:List Int))),(x4.2.2.2.2.1,(y8.1,())))))))
 else none)))
 else(g5 ((IntKind.wrap .i64 (x4.1+(1:Int))),(x4.2.1,(x4.2.2.1,(x4.2.2.2.1,(x4.2.2.2.2.1,(x4.2.2.2.2.2.1,()))))))))))
 else(g5 ((IntKind.wrap .i64 (x4.1+(1:Int))),(x4.2.1,(x4.2.2.1,(x4.2.2.2.1,(x4.2.2.2.2.1,(x4.2.2.2.2.2.1,()))))))))))
 else none)
 else none)
 else none)
 else none)
 else none)
 else none)
 else(g2 ((IntKind.wrap .i64 (x4.2.2.2.2.1+(1:Int))),(x4.2.2.2.1,(x4.2.2.1,(x4.2.2.2.2.2.1,()))))))
abbrev P.s_l03Reach_b0 (k:Nat) (x1:(Int×((List Int)×((List (List RB))×((List Int)×Unit))))) (g2:(Int×((List Int)×((List (List RB))×((List Int)×Unit))))→Option ((List Int)×Unit)):Option ((List Int)×Unit):=
 (if((decide (x1.1<((List.length x1.2.1):Int)))=true)then(loopP (X:=(Int×(Int×((List (List RB))×((List Int)×(Int×((List Int)×Unit))))))) (R:=((List Int)×Unit)) (P.s_l03Reach_b3 g2) k ((0:Int),(((List.length x1.2.2.1):Int),(x1.2.2.1,(x1.2.1,(x1.1,(x1.2.2.2.1,())))))))
 else(some (x1.2.2.2.1,())))
def P.s_l03Reach (k:Nat) (x:((List (List RB))×(Int×Unit))):(Option ((List Int)×Unit)):=
 (loopP (X:=(Int×((List Int)×((List (List RB))×((List Int)×Unit))))) (R:=((List Int)×Unit)) (P.s_l03Reach_b0 k) k ((0:Int),((x.2.1::([]:List Int)),(x.1,((x.2.1::([]:List Int)),())))))
theorem zero_rp (q:Q3):S.s_l01Zero (((rp B10 q).1,(rp B10 q).2.1,(rp B10 q).2.2),())=some (decide (q.2.1=0),()):=by
 unfold S.s_l01Zero P.s_l01Zero rp
 dsimp only
 congr 2
 rw[Bool.eq_iff_iff,beq_iff_eq,decide_eq_true_iff,←nd_zero_iff (B:=B10) (by decide),←List.length_eq_zero_iff]
 omega
theorem reS_inner {M:List (List Q3)} (hM:isM M) {i:Nat} (hi:i<M.length) (pre:List Nat) {sn:List Bool} {td:List Nat} (hb:Bok M.length (sn,td)) (hm:pre.length+td.length+sn.count false≤1000000)
  (g:((Int×((List Int)×((List (List RB))×((List Int)×Unit))))→(Option ((List Int)×Unit)))) {K:Nat} (hK:M.length<K):
  loopP (P.s_l03Reach_b3 g) K ((0:Int),(M.length:Int),mp B10 M,zs (pre++i::td),(pre.length:Int),posF 0 sn,())=g (((pre.length+1:Nat):Int),zs (pre++i::(scanB (adj M i) M.length (sn,td)).2),mp B10 M,posF 0 (scanB (adj M i) M.length (sn,td)).1,()):=by
 have hrow:=isM_row hM hi
 have hn:=hM.1
 have key:=loop_up0 (k:=K) (b:=P.s_l03Reach_b3 g) (n:=M.length) (st:=fun j=>((j:Int),(M.length:Int),mp B10 M,zs (pre++i::((List.range j).foldl (stepB (adj M i)) (sn,td)).2),(pre.length:Int),posF 0 ((List.range j).foldl (stepB (adj M i)) (sn,td)).1,())) (F:=fun _=>g (((pre.length+1:Nat):Int),zs (pre++i::(scanB (adj M i) M.length (sn,td)).2),mp B10 M,posF 0 (scanB (adj M i) M.length (sn,td)).1,())) (fun j g' hj hg=>by
  unfold P.s_l03Reach_b3
  dsimp only at hg ⊢
  obtain⟨b1,b2⟩:=foldB_ok (a:=adj M i) hb j (by omega)
  rw[fold_succ]at hg
  generalize (List.range j).foldl (stepB (adj M i)) (sn,td)=s at b1 b2 hg ⊢
  have b3:s.2.length≤td.length+sn.count false:=by
   dsimp only at b2
   omega
  have e0:(zs (pre++i::s.2)).length=pre.length+s.2.length+1:=by simp [zs];omega
  have e1:(j:Int)<(M.length:Int):=by omega
  have e2:(0:Int)≤(j:Int):=by omega
  have e3:(zs (pre++i::s.2)).getD (0+Int.toNat (pre.length:Int)) 0=(i:Int):=by
   rw[getD_zs,Nat.zero_add,Int.toNat_natCast,List.getD_eq_getElem?_getD,List.getElem?_append_right (Nat.le_refl _)]
   simp
  have e4:(0:Int)≤(pre.length:Int):=by omega
  have e5:(pre.length:Int)<((pre.length+s.2.length+1:Nat):Int):=by omega
  have e6:(0:Int)≤(i:Int):=by omega
  have e7:(i:Int)<((mp B10 M).length:Int):=by rw[mp_len];omega
  have e8:(pre.length+s.2.length+1+1)*8≤140737488355328:=by omega
  have e9:(((M.getD i []).map (rp B10)).length:Int)=(M.length:Int):=by rw[List.length_map,hrow.1]
  have pl:=posF_len 0 s.1
  have bl:s.1.length=M.length:=b1.len
  have eh:S.s_l00Has (posF 0 s.1,(j:Int),())=some (s.1.getD j false,()):=by
   unfold S.s_l00Has
   dsimp only
   have:=posF_mem 0 s.1 j
   rw[Int.zero_add]at this
   rw[if_pos (by omega),this]
  have ep:S.s_l00Put (posF 0 s.1,(j:Int),())=some (posF 0 (s.1.set j true),()):=by
   unfold S.s_l00Put
   dsimp only
   have:=posF_put 0 s.1 j (by omega)
   rw[Int.zero_add]at this
   rw[if_pos (by omega),this]
  rw[e0,e3,Int.toNat_natCast,mp_at hi,Int.toNat_natCast,getD_rp B10 (by rw[hrow.1];exact hj),zero_rp,Option.bind_some]
  simp only[e1,e2,e4,e5,e6,e7,e8,e9,decide_true,if_true,List.length_cons,List.length_nil,Nat.zero_add]
  rw[eh,ep,wr (by omega) (by omega)]
  simp only[Option.bind_some]
  have ha':(!decide (((M.getD i []).getD j zeroQ).2.1=0))=adj M i j:=by
   unfold adj
   simp
  rw[ha']
  unfold stepB at hg
  cases ha:adj M i j
  ·rw[ha,if_neg (by simp)]at hg
   rw[if_neg (by decide)]
   exact hg
  ·rw[if_pos rfl]
   cases hs:s.1.getD j false
   ·rw[ha,hs,if_pos ⟨rfl,rfl⟩]at hg
    rw[if_pos (by decide),←hg]
    simp [zs]
   ·rw[ha,hs,if_neg (by simp)]at hg
    rw[if_neg (by decide)]
    exact hg) (fun g'=>by
  unfold P.s_l03Reach_b3
  dsimp only
  rw[if_neg (by simp),wr (by omega) (by omega)]
  rfl) hK
 exact key
theorem reS_outer {M:List (List Q3)} (hM:isM M) {K:Nat} (hK:M.length<K):∀(f k:Nat) (pre:List Nat) (sn:List Bool) (td:List Nat),Bok M.length (sn,td)→td.length+sn.count false≤f→f<k→pre.length+f≤1000000→loopP (P.s_l03Reach_b0 K) k ((pre.length:Int),zs (pre++td),mp B10 M,posF 0 sn,())=some (posF 0 (bfs (adj M) M.length f sn td),()):=by
 intro f
 induction f with
 |zero=>
  intro k pre sn td hb hm hk hf
  cases k with
  |zero=>omega
  |succ k=>
   have:td=[]:=List.eq_nil_of_length_eq_zero (by omega)
   subst this
   rw[loopP_succ]
   unfold P.s_l03Reach_b0
   dsimp only
   rw[if_neg (by simp [zs])]
   rfl
 |succ f ih=>
  intro k pre sn td hb hm hk hf
  cases k with
  |zero=>omega
  |succ k=>
   rw[loopP_succ]
   cases td with
   |nil=>
    unfold P.s_l03Reach_b0
    dsimp only
    rw[if_neg (by simp [zs])]
    rfl
   |cons i r=>
    have hi:i<M.length:=hb.lt i (List.mem_cons_self ..)
    have hb':Bok M.length (sn,r):=⟨hb.len,fun t ht=>hb.lt t (List.mem_cons_of_mem _ ht)⟩
    have hm':r.length+sn.count false≤f:=by
     rw[List.length_cons]at hm
     omega
    unfold P.s_l03Reach_b0
    dsimp only
    rw[if_pos (decide_eq_true (by simp [zs];omega)),mp_len,reS_inner hM hi pre hb' (by omega) _ hK,bfs]
    obtain⟨c1,c2⟩:=foldB_ok (a:=adj M i) hb' M.length (Nat.le_refl _)
    have:=ih k (pre++[i]) _ _ c1 (by
     have:(scanB (adj M i) M.length (sn,r)).2.length+(scanB (adj M i) M.length (sn,r)).1.count false=r.length+sn.count false:=c2
     exact Nat.le_trans (Nat.le_of_eq this) hm') (by omega) (by simp;omega)
    rw[List.append_assoc,List.length_append]at this
    exact this
open Classical in
def S.s_l03Reach (x:((List (List RB))×(Int×Unit))):(Option ((List Int)×Unit)):=if(∃M,isM M∧x.1=mp B10 M)∧0≤x.2.1∧x.2.1<(x.1.length:Int)then some (posF 0 (reachB (adj (mv B10 x.1)) x.1.length x.2.1.toNat),())else none
theorem S.s_l03Reach_ok (x:((List (List RB))×(Int×Unit))) (r:_) (h:S.s_l03Reach x=some r):∃k,P.s_l03Reach k x=some r:=by
 obtain⟨m,s,u⟩:=x
 unfold S.s_l03Reach at h
 dsimp only at h
 split at h
 case isFalse=>cases h
 rename_i hc
 obtain⟨⟨M,hM,rfl⟩,h0,h1⟩:=hc
 cases h
 obtain⟨s,rfl⟩:=Int.eq_ofNat_of_zero_le h0
 rw[mv_mp (by decide),mp_len]at*
 have hs:s<M.length:=by omega
 have hn:=hM.1
 refine⟨M.length+1,?_⟩
 unfold P.s_l03Reach
 dsimp only
 obtain⟨c1,c2⟩:=start_ok hs
 have:=reS_outer hM (K:=M.length+1) (by omega) M.length (M.length+1) [] _ [s] c1 (by omega) (by omega) (by simp;omega)
 rw[posF_start hs]at this
 exact this
def P.s_l00In (k:Nat) (x:(Int×(Int×(Int×Unit)))):(Option (Bool×Unit)):=
 (if((decide (x.1≥x.2.1))=true)then(some ((decide (x.1≤x.2.2.1)),()))
 else(some (false,())))
def S.s_l00In (x:(Int×(Int×(Int×Unit)))):(Option (Bool×Unit)):=P.s_l00In 0 x
theorem S.s_l00In_ok (x:(Int×(Int×(Int×Unit)))) (r:_) (h:S.s_l00In x=some r):∃k,P.s_l00In k x=some r:=⟨0,h⟩
def inB (n:Int):Bool:=decide (-1000000000≤n∧n≤1000000000)
theorem inB_iff (n:Int):inB n=true↔ -1000000000≤n∧n≤1000000000:=by simp [inB]
theorem in_s (n:Int):S.s_l00In (n, -1000000000,1000000000,())=some (inB n,()):=by
 unfold S.s_l00In P.s_l00In inB
 dsimp only
 by_cases h:n≥ -1000000000
 ·rw[if_pos (by simpa using h)]
  have: -1000000000≤n:=h
  simp [this]
 ·rw[if_neg (by simpa using h)]
  have:¬ -1000000000≤n:=h
  simp [this]
def P.s_l03State (k:Nat) (x:((List (List RB))×(Int×Unit))):(Option (Bool×Unit)):=
 (Option.bind (S.s_l00In (x.2.1,((0:Int),((IntKind.wrap .i64 (((List.length x.1):Int) - (1:Int))),())))) (fun(y0:(Bool×Unit))=>(some (y0.1,()))))
def S.s_l03State (x:((List (List RB))×(Int×Unit))):(Option (Bool×Unit)):=P.s_l03State 0 x
theorem S.s_l03State_ok (x:((List (List RB))×(Int×Unit))) (r:_) (h:S.s_l03State x=some r):∃k,P.s_l03State k x=some r:=⟨0,h⟩
def P.s_ReachedFrom (k:Nat) (x:((List (List ByteArray))×(Int×Unit))):(Option (((List Int)×Bool)×Unit)):=
 (Option.bind (S.s_l03Parse (x.1,())) (fun(y0:(((List (List RB))×Bool)×Unit))=>(if((!y0.1.2)=true)then(some ((([]:List Int),false),()))
 else(Option.bind (S.s_l03State (y0.1.1,(x.2.1,()))) (fun(y1:(Bool×Unit))=>(if((!y1.1)=true)then(some ((([]:List Int),false),()))
 else(Option.bind (S.s_l03Reach (y0.1.1,(x.2.1,()))) (fun(y2:((List Int)×Unit))=>(some ((y2.1,true),()))))))))))
def S.s_ReachedFrom (x:((List (List ByteArray))×(Int×Unit))):(Option (((List Int)×Bool)×Unit)):=P.s_ReachedFrom 0 x
theorem S.s_ReachedFrom_ok (x:((List (List ByteArray))×(Int×Unit))) (r:_) (h:S.s_ReachedFrom x=some r):∃k,P.s_ReachedFrom k x=some r:=⟨0,h⟩
def P.i_magnitude (k:Nat) (x:(Int×Unit)):(Option (Int×Unit)):=
 (if((decide (x.1<(0:Int)))=true)then(some ((IntKind.wrap .u64 ((0:Int) - (IntKind.wrap .u64 x.1))),()))
 else(some ((IntKind.wrap .u64 x.1),())))
def S.i_magnitude (x:(Int×Unit)):(Option (Int×Unit)):=if -9223372036854775808≤x.1∧x.1≤9223372036854775807 then some (((x.1.natAbs:Nat):Int),())else none
theorem S.i_magnitude_ok (x:(Int×Unit)) (r:_) (h:S.i_magnitude x=some r):∃k,P.i_magnitude k x=some r:=by
 obtain⟨n,u⟩:=x
 unfold S.i_magnitude at h
 dsimp only at h
 split at h
 case isFalse=>cases h
 rename_i hc
 cases h
 refine⟨0,?_⟩
 unfold P.i_magnitude
 dsimp only
 have hw:∀y:Int,IntKind.wrap .u64 y=y%18446744073709551616:=fun _=>rfl
 rw[hw,hw]
 by_cases h0:n<0
 ·rw[if_pos (decide_eq_true h0)]
  congr 2
  omega
 ·rw[if_neg (by simpa using h0)]
  congr 2
  omega
abbrev P.i_nat_trim_b0 (x1:((List Int)×Unit)) (g2:((List Int)×Unit)→Option ((List Int)×Unit)):Option ((List Int)×Unit):=
 (if((decide (((List.length x1.1):Int)>(0:Int)))=true)then(if((decide ((0:Int)≤(IntKind.wrap .i64 (((List.length x1.1):Int) - (1:Int)))))=true)then(if((decide ((IntKind.wrap .i64 (((List.length x1.1):Int) - (1:Int)))<((List.length x1.1):Int)))=true)then(if(((List.getD x1.1 (Int.toNat (IntKind.wrap .i64 (((List.length x1.1):Int) - (1:Int)))) (0:Int))==(0:Int))=true)then(if((decide ((0:Int)≤(IntKind.wrap .i64 (((List.length x1.1):Int) - (1:Int)))))=true)then(if((decide ((IntKind.wrap .i64 (((List.length x1.1):Int) - (1:Int)))≤((List.length x1.1):Int)))=true)then(if((decide ((0:Int)≤(IntKind.wrap .i64 (((List.length x1.1):Int) - (1:Int)))))=true)then(g2 ((seen x1.1 (0:Nat) ((Int.toNat (IntKind.wrap .i64 (((List.length x1.1):Int) - (1:Int)))) - (0:Nat))),()))
 else none)
 else none)
 else none)
 else(some (x1.1,())))
 else none)
 else none)
 else(some (x1.1,())))
def P.i_nat_trim (k:Nat) (x:((List Int)×Unit)):(Option ((List Int)×Unit)):=
 (loopP (X:=((List Int)×Unit)) (R:=((List Int)×Unit)) (P.i_nat_trim_b0) k (x.1,()))
theorem trim_loop (n:Nat):∀(xs:List Int) (k:Nat),xs.length=n→n<k→n≤1000000000000→dig B32 xs=true→loopP (X:=((List Int)×Unit)) (R:=((List Int)×Unit)) P.i_nat_trim_b0 k (xs,())=some (nd B32 (dval B32 xs),()):=by
 induction n with
 |zero=>
  intro xs k hx hk _ _
  have:xs=[]:=List.eq_nil_of_length_eq_zero hx
  subst this
  obtain⟨k,rfl⟩:∃j,k=j+1:=⟨k - 1,by omega⟩
  rw[loopP_succ]
  unfold P.i_nat_trim_b0
  rw[if_neg (by simp)]
  rw[show dval B32 []=0 from rfl,nd_zero B32_le]
 |succ n ih=>
  intro xs k hx hk hn hd
  obtain⟨k,rfl⟩:∃j,k=j+1:=⟨k - 1,by omega⟩
  rw[loopP_succ]
  unfold P.i_nat_trim_b0
  dsimp only
  have e0:IntKind.wrap .i64 ((xs.length:Int) - 1)=(n:Int):=by rw[wr (by omega) (by omega)];omega
  have e1:(xs.length:Int)>0:=by omega
  have e2:(0:Int)≤(n:Int):=by omega
  have e3:(n:Int)<(xs.length:Int):=by omega
  have e4:(n:Int)≤(xs.length:Int):=by omega
  rw[e0]
  simp only[e1,e2,e3,e4,decide_true,if_true]
  rw[getD_cast xs n _ (by omega)]
  have hs:=take_snoc xs n hx
  have hdt:dig B32 (xs.take n++[xs[n]])=true:=by rw[←hs];exact hd
  by_cases hz:xs[n]=0
  ·rw[if_pos (by simp [hz])]
   have e5:seen xs 0 ((n:Int).toNat - 0)=xs.take n:=by simp [seen]
   rw[e5]
   have hdt':=hdt
   rw[dig_append,Bool.and_eq_true]at hdt'
   rw[ih (xs.take n) k (by simp;omega) (by omega) (by omega) hdt'.1]
   have:dval B32 xs=dval B32 (xs.take n):=by
    conv=>lhs;rw[hs,hz]
    exact dval_snoc_zero _
   rw[this]
  ·rw[if_neg (by simp [hz])]
   have:=nd_snoc B32_le (xs.take n) xs[n] hdt hz
   rw[←hs]at this
   rw[this]
def S.i_nat_trim (x:((List Int)×Unit)):(Option ((List Int)×Unit)):=if dig B32 x.1=true∧x.1.length≤1000000000000 then some (nd B32 (dval B32 x.1),())else none
theorem S.i_nat_trim_ok (x:((List Int)×Unit)) (r:_) (h:S.i_nat_trim x=some r):∃k,P.i_nat_trim k x=some r:=by
 obtain⟨xs,u⟩:=x
 unfold S.i_nat_trim at h
 dsimp only at h
 split at h
 case isFalse=>cases h
 rename_i hc
 cases h
 exact⟨xs.length+1,trim_loop xs.length xs _ rfl (by omega) hc.2 hc.1⟩
theorem trim_i (xs:List Int) (h:dig B32 xs=true) (hl:xs.length≤1000000000000):S.i_nat_trim (xs,())=some (nd B32 (dval B32 xs),()):=by
 unfold S.i_nat_trim
 dsimp only
 rw[if_pos ⟨h,hl⟩]
def P.i_natOf (k:Nat) (x:(Int×Unit)):(Option ((List Int)×Unit)):=
 (Option.bind (S.i_nat_trim (((IntKind.wrap .u32 x.1)::((IntKind.wrap .u32 (Int.fdiv x.1 (4294967296:Int)))::([]:List Int))),())) (fun(y0:((List Int)×Unit))=>(some (y0.1,()))))
def S.i_natOf (x:(Int×Unit)):(Option ((List Int)×Unit)):=if 0≤x.1∧x.1<18446744073709551616 then some (nd B32 x.1.toNat,())else none
theorem S.i_natOf_ok (x:(Int×Unit)) (r:_) (h:S.i_natOf x=some r):∃k,P.i_natOf k x=some r:=by
 obtain⟨n,u⟩:=x
 unfold S.i_natOf at h
 dsimp only at h
 split at h
 case isFalse=>cases h
 rename_i hc
 cases h
 refine⟨0,?_⟩
 unfold P.i_natOf
 dsimp only
 have hf:Int.fdiv n 4294967296=n/4294967296:=Int.fdiv_eq_ediv_of_nonneg _ (by omega)
 rw[hf,u32_mod n hc.1,u32_mod _ (by omega)]
 have hd:dig B32 [n%4294967296,n/4294967296%4294967296]=true:=by
  rw[dig_cons,dig_cons]
  refine⟨⟨by omega,?_⟩,⟨by omega,?_⟩,rfl⟩
  ·show _<(4294967296:Int);omega
  ·show _<(4294967296:Int);omega
 rw[trim_i _ hd (by simp),Option.bind_some]
 have:dval B32 [n%4294967296,n/4294967296%4294967296]=n.toNat:=by
  simp only[dval]
  show(n%4294967296).toNat+4294967296*((n/4294967296%4294967296).toNat+4294967296*0)=n.toNat
  omega
 rw[this]
def P.i_whole (k:Nat) (x:(Int×Unit)):(Option (RB×Unit)):=
 (Option.bind (S.i_magnitude (x.1,())) (fun(y0:(Int×Unit))=>(Option.bind (S.i_natOf (y0.1,())) (fun(y1:((List Int)×Unit))=>(Option.bind (S.i_natOf ((1:Int),())) (fun(y2:((List Int)×Unit))=>(some (((decide (x.1<(0:Int))),(y1.1,y2.1)),()))))))))
def S.i_whole (x:(Int×Unit)):(Option (RB×Unit)):=if -9223372036854775808≤x.1∧x.1≤9223372036854775807 then some (rp B32 (wholeQ x.1),())else none
theorem S.i_whole_ok (x:(Int×Unit)) (r:_) (h:S.i_whole x=some r):∃k,P.i_whole k x=some r:=by
 obtain⟨n,u⟩:=x
 unfold S.i_whole at h
 dsimp only at h
 split at h
 case isFalse=>cases h
 rename_i hc
 cases h
 refine⟨0,?_⟩
 unfold P.i_whole S.i_magnitude S.i_natOf
 dsimp only
 rw[if_pos hc,Option.bind_some]
 dsimp only
 rw[if_pos ⟨by omega,by omega⟩,Option.bind_some,Int.toNat_natCast,if_pos ⟨by decide,by decide⟩,Option.bind_some]
 rfl
theorem ri_whole {n:Int} (h0: -1000000000≤n) (h1:n≤1000000000):S.i_whole (n,())=some (rp B32 (wholeQ n),()):=by
 unfold S.i_whole
 exact if_pos ⟨by dsimp only;omega,by dsimp only;omega⟩
abbrev P.i_nat_cmp_b0 (x1:(Int×((List Int)×((List Int)×Unit)))) (g2:(Int×((List Int)×((List Int)×Unit)))→Option (Int×Unit)):Option (Int×Unit):=
 (if((decide (x1.1≥(0:Int)))=true)then(if((decide ((0:Int)≤x1.1))=true)then(if((decide (x1.1<((List.length x1.2.1):Int)))=true)then(if((decide ((0:Int)≤x1.1))=true)then(if((decide (x1.1<((List.length x1.2.2.1):Int)))=true)then(if(((List.getD x1.2.1 (Int.toNat x1.1) (0:Int)) != (List.getD x1.2.2.1 (Int.toNat x1.1) (0:Int)))=true)then(if((decide ((0:Int)≤x1.1))=true)then(if((decide (x1.1<((List.length x1.2.1):Int)))=true)then(if((decide ((0:Int)≤x1.1))=true)then(if((decide (x1.1<((List.length x1.2.2.1):Int)))=true)then(if((decide ((List.getD x1.2.1 (Int.toNat x1.1) (0:Int))<(List.getD x1.2.2.1 (Int.toNat x1.1) (0:Int))))=true)then(some ((-1:Int),()))
 else(some ((1:Int),())))
 else none)
 else none)
 else none)
 else none)
 else(g2 ((IntKind.wrap .i64 (x1.1 - (1:Int))),(x1.2.1,(x1.2.2.1,())))))
 else none)
 else none)
 else none)
 else none)
 else(some ((0:Int),())))
def P.i_nat_cmp (k:Nat) (x:((List Int)×((List Int)×Unit))):(Option (Int×Unit)):=
 (if((((List.length x.1):Int) != ((List.length x.2.1):Int))=true)then(if((decide (((List.length x.1):Int)<((List.length x.2.1):Int)))=true)then(some ((-1:Int),()))
 else(some ((1:Int),())))
 else(loopP (X:=(Int×((List Int)×((List Int)×Unit)))) (R:=(Int×Unit)) (P.i_nat_cmp_b0) k ((IntKind.wrap .i64 (((List.length x.1):Int) - (1:Int))),(x.1,(x.2.1,())))))
def S.i_nat_cmp (x:((List Int)×((List Int)×Unit))):(Option (Int×Unit)):=if canon B32 x.1=true∧canon B32 x.2.1=true∧x.1.length≤1000000000000 then some (cmpN (dval B32 x.1) (dval B32 x.2.1),())else none
theorem S.i_nat_cmp_ok (x:((List Int)×((List Int)×Unit))) (r:_) (h:S.i_nat_cmp x=some r):∃k,P.i_nat_cmp k x=some r:=by
 obtain⟨xs,ys,u⟩:=x
 unfold S.i_nat_cmp at h
 dsimp only at h
 split at h
 case isFalse=>cases h
 rename_i hc
 obtain⟨cx,cy,hl⟩:=hc
 cases h
 refine⟨xs.length+1,?_⟩
 unfold P.i_nat_cmp
 dsimp only
 by_cases hn:xs.length=ys.length
 ·rw[if_neg (by simp [hn]),wr (by omega) (by omega)]
  have key:=loop_up0 (k:=xs.length+1) (b:=P.i_nat_cmp_b0) (n:=xs.length) (st:=fun j=>((xs.length:Int) - 1 - (j:Int),xs,ys,())) (F:=fun j=>some (cmpN (dval B32 (xs.take (xs.length - j))) (dval B32 (ys.take (xs.length - j))),())) (fun j g hj hg=>by
   unfold P.i_nat_cmp_b0
   dsimp only at hg ⊢
   have e1:(xs.length:Int) - 1 - (j:Int)≥0:=by omega
   have e3:(0:Int)≤(xs.length:Int) - 1 - (j:Int):=by omega
   have e4:(xs.length:Int) - 1 - (j:Int)<(xs.length:Int):=by omega
   have e4':(xs.length:Int) - 1 - (j:Int)<(ys.length:Int):=by omega
   simp only[e1,e4,e4',decide_true,if_true]
   have hi:xs.length - (j+1)<xs.length:=by omega
   have hi':xs.length - (j+1)<ys.length:=by omega
   have e5:(xs.length:Int) - 1 - (j:Int)=((xs.length - (j+1):Nat):Int):=by omega
   have e6:xs.length - j=(xs.length - (j+1))+1:=by omega
   rw[e5,getD_cast xs _ _ hi,getD_cast ys _ _ hi',e6]
   generalize xs.length - (j+1)=i at*
   by_cases hq:xs[i]=ys[i]
   ·rw[if_neg (by simp [hq]),wr (by omega) (by omega)]
    have e7:((i:Nat):Int) - 1=(xs.length:Int) - 1 - ((j+1:Nat):Int):=by omega
    rw[e7,hg,←List.take_append_getElem hi,←List.take_append_getElem hi',dval_append,dval_append,hq]
    have hlx:(xs.take i).length=i:=by simp;omega
    have hly:(ys.take i).length=i:=by simp;omega
    rw[hlx,hly]
    unfold cmpN
    simp only[Nat.add_lt_add_iff_right]
   ·rw[if_pos (by simp [hq])]
    by_cases hlt:xs[i]<ys[i]
    ·have:=dval_top xs ys i hi hi' (canon_dig cx) (canon_dig cy) hlt
     rw[if_pos (decide_eq_true hlt),cmpN,if_pos this]
    ·have:=dval_top ys xs i hi' hi (canon_dig cy) (canon_dig cx) (by omega)
     rw[if_neg (by simpa using hlt),cmpN,if_neg (by omega),if_pos this]) (fun g=>by
   unfold P.i_nat_cmp_b0
   dsimp only
   rw[if_neg (by simp;omega),Nat.sub_self,List.take_zero,List.take_zero]
   rfl) (by omega)
  rw[show(xs.length:Int) - 1 - ((0:Nat):Int)=(xs.length:Int) - 1 by omega,Nat.sub_zero,List.take_length,List.take_of_length_le (by omega)]at key
  exact key
 ·rw[if_pos (by simp;omega)]
  by_cases hlt:xs.length<ys.length
  ·rw[if_pos (decide_eq_true (by omega)),cmpN,if_pos (canon_small B32_le cx cy hlt)]
  ·have:=canon_small B32_le cy cx (by omega)
   rw[if_neg (by simp;omega),cmpN,if_neg (by omega),if_pos this]
abbrev P.i_nat_mul_b3 (g2:((Int×(Int×((List Int)×((List Int)×((List Int)×Unit)))))→(Option ((List Int)×Unit)))) (x4:(Int×(Int×((List Int)×(Int×(Int×((List Int)×(Int×((List Int)×(Int×(Int×((List Int)×Unit)))))))))))) (g5:(Int×(Int×((List Int)×(Int×(Int×((List Int)×(Int×((List Int)×(Int×(Int×((List Int)×Unit)))))))))))→Option ((List Int)×Unit)):Option ((List Int)×Unit):=
 (if((decide (x4.1<x4.2.1))=true)then(if((decide ((0:Int)≤x4.1))=true)then(if((decide (x4.1<((List.length x4.2.2.1):Int)))=true)then(if((decide ((0:Int)≤(IntKind.wrap .i64 (x4.2.2.2.2.2.2.1+x4.1))))=true)then(if((decide ((IntKind.wrap .i64 (x4.2.2.2.2.2.2.1+x4.1))<((List.length x4.2.2.2.2.2.1):Int)))=true)then(if((decide ((0:Int)≤(IntKind.wrap .i64 (x4.2.2.2.2.2.2.1+x4.1))))=true)then(if((decide ((IntKind.wrap .i64 (x4.2.2.2.2.2.2.1+x4.1))<((List.length x4.2.2.2.2.2.1):Int)))=true)then(g5 ((IntKind.wrap .i64 (x4.1+(1:Int))),(x4.2.1,(x4.2.2.1,((Int.fdiv (IntKind.wrap .u64 (x4.2.2.2.1+(IntKind.wrap .u64 ((IntKind.wrap .u64 ((IntKind.wrap .u64 x4.2.2.2.2.1)*(IntKind.wrap .u64 (List.getD x4.2.2.1 (Int.toNat x4.1) (0:Int)))))+(IntKind.wrap .u64 (List.getD x4.2.2.2.2.2.1 ((0:Nat)+(Int.toNat (IntKind.wrap .i64 (x4.2.2.2.2.2.2.1+x4.1)))) (0:Int))))))) (4294967296:Int)),(x4.2.2.2.2.1,((List.set x4.2.2.2.2.2.1 ((0:Nat)+(Int.toNat (IntKind.wrap .i64 (x4.2.2.2.2.2.2.1+x4.1)))) (IntKind.wrap .u32 (IntKind.wrap .u64 (x4.2.2.2.1+(IntKind.wrap .u64 ((IntKind.wrap .u64 ((IntKind.wrap .u64 x4.2.2.2.2.1)*(IntKind.wrap .u64 (List.getD x4.2.2.1 (Int.toNat x4.1) (0:Int)))))+(IntKind.wrap .u64 (List.getD x4.2.2.2.2.2.1 ((0:Nat)+(Int.toNat (IntKind.wrap .i64 (x4.2.2.2.2.2.2.1+x4.1)))) (0:Int))))))))),(x4.2.2.2.2.2.2.1,(x4.2.2.2.2.2.2.2.1,(x4.2.2.2.2.2.2.2.2.1,(x4.2.2.2.2.2.2.2.2.2.1,(x4.2.2.2.2.2.2.2.2.2.2.1,()))))))))))))
 else none)
 else none)
 else none)
 else none)
 else none)
 else none)
 else(if((decide ((0:Int)≤(IntKind.wrap .i64 (x4.2.2.2.2.2.2.1+((List.length x4.2.2.2.2.2.2.2.1):Int)))))=true)then(if((decide ((IntKind.wrap .i64 (x4.2.2.2.2.2.2.1+((List.length x4.2.2.2.2.2.2.2.1):Int)))<((List.length x4.2.2.2.2.2.1):Int)))=true)then(g2 ((IntKind.wrap .i64 (x4.2.2.2.2.2.2.2.2.1+(1:Int))),(x4.2.2.2.2.2.2.2.2.2.1,(x4.2.2.2.2.2.2.2.2.2.2.1,(x4.2.2.2.2.2.2.2.1,((List.set x4.2.2.2.2.2.1 ((0:Nat)+(Int.toNat (IntKind.wrap .i64 (x4.2.2.2.2.2.2.1+((List.length x4.2.2.2.2.2.2.2.1):Int))))) (IntKind.wrap .u32 x4.2.2.2.1)),()))))))
 else none)
 else none))
abbrev P.i_nat_mul_b0 (k:Nat) (x1:(Int×(Int×((List Int)×((List Int)×((List Int)×Unit)))))) (g2:(Int×(Int×((List Int)×((List Int)×((List Int)×Unit)))))→Option ((List Int)×Unit)):Option ((List Int)×Unit):=
 (if((decide (x1.1<x1.2.1))=true)then(if((decide ((0:Int)≤x1.1))=true)then(if((decide (x1.1<((List.length x1.2.2.1):Int)))=true)then(loopP (X:=(Int×(Int×((List Int)×(Int×(Int×((List Int)×(Int×((List Int)×(Int×(Int×((List Int)×Unit)))))))))))) (R:=((List Int)×Unit)) (P.i_nat_mul_b3 g2) k ((0:Int),(((List.length x1.2.2.2.1):Int),(x1.2.2.2.1,((0:Int),((List.getD x1.2.2.1 (Int.toNat x1.1) (0:Int)),(x1.2.2.2.2.1,(x1.1,(x1.2.2.2.1,(x1.1,(x1.2.1,(x1.2.2.1,()))))))))))))
 else none)
 else none)
 else(Option.bind (S.i_nat_trim (x1.2.2.2.2.1,())) (fun(y6:((List Int)×Unit))=>(some (y6.1,())))))
def P.i_nat_mul (k:Nat) (x:((List Int)×((List Int)×Unit))):(Option ((List Int)×Unit)):=
 (if((decide ((0:Int)≤(IntKind.wrap .i64 (((List.length x.1):Int)+((List.length x.2.1):Int)))))=true)then(if((decide ((IntKind.wrap .i64 (((List.length x.1):Int)+((List.length x.2.1):Int)))≤(IntKind.wrap .i64 (((List.length x.1):Int)+((List.length x.2.1):Int)))))=true)then(if((decide (((IntKind.wrap .i64 (((List.length x.1):Int)+((List.length x.2.1):Int)))*(4:Int))≤(281474976710656:Int)))=true)then(loopP (X:=(Int×(Int×((List Int)×((List Int)×((List Int)×Unit)))))) (R:=((List Int)×Unit)) (P.i_nat_mul_b0 k) k ((0:Int),(((List.length x.1):Int),(x.1,(x.2.1,((List.replicate (Int.toNat (IntKind.wrap .i64 (((List.length x.1):Int)+((List.length x.2.1):Int)))) (0:Int)),()))))))
 else none)
 else none)
 else none)
theorem im_inner (g:(Int×(Int×((List Int)×((List Int)×((List Int)×Unit)))))→(Option ((List Int)×Unit))) (F:Option ((List Int)×Unit)) {xs ys:List Int} (hx:dig B32 xs=true) (hy:dig B32 ys=true) (hlx:xs.length≤10000000000) (hly:ys.length≤10000000000) {i:Nat} (hi:i<xs.length) (K:Nat) (hK:ys.length<K)
  (hg:g (((i+1:Nat):Int),((xs.length:Int),(xs,(ys,(fd B32 (xs.length+ys.length) (dval B32 (xs.take (i+1))*dval B32 ys),())))))=F):
  loopP (P.i_nat_mul_b3 g) K ((0:Int),((ys.length:Int),(ys,((0:Int),(xs.getD i 0,(fd B32 (xs.length+ys.length) (dval B32 (xs.take i)*dval B32 ys),((i:Int),(ys,((i:Int),((xs.length:Int),(xs,())))))))))))=F:=by
 have hA:=mul_bound B32_le hx hy i (by omega)
 have hA':=mul_bound B32_le hx hy (i+1) (by omega)
 have gx:=dig_getD (B:=B32) (by decide) hx i
 have gx1:xs.getD i 0<4294967296:=gx.2
 have gx0:=gx.1
 rw[dval_take_succ,Nat.add_mul,Nat.mul_assoc]at hg hA'
 generalize dval B32 (xs.take i)*dval B32 ys=A at*
 obtain⟨x,hxe⟩:∃x:Nat,xs.getD i 0=(x:Int):=⟨(xs.getD i 0).toNat,by omega⟩
 rw[hxe,Int.toNat_natCast]at hg hA'
 rw[hxe]at gx1 ⊢
 have hxB:x<B32:=by show x<4294967296;omega
 have hsh:=mul_shape B32_le hi hA
 rw[hsh]
 have hlw:(fd B32 ys.length (A/B32^i)).length=ys.length:=fd_len _ _ _
 have hdw:dig B32 (fd B32 ys.length (A/B32^i))=true:=dig_fd (by decide) _ _
 have hvw:dval B32 (fd B32 ys.length (A/B32^i))=A/B32^i:=by
  rw[dval_fd,Nat.mod_eq_of_lt]
  rw[Nat.div_lt_iff_lt_mul (Nat.pow_pos (by decide)),←Nat.pow_add,Nat.add_comm]
  exact hA
 have hnext:=mul_next B32_le (la:=xs.length) (lb:=ys.length) (R:=x*dval B32 ys) hi hA'
 generalize hR:List.replicate (xs.length - 1 - i) (0:Int)=R at*
 have hRl:R.length=xs.length - 1 - i:=by rw[←hR,List.length_replicate]
 generalize hW:fd B32 ys.length (A/B32^i)=W at*
 have hl0:(fd B32 i A).length=i:=fd_len _ _ _
 have key:=loop_up0 (k:=K) (b:=P.i_nat_mul_b3 g) (n:=ys.length) (st:=fun k=>((k:Int),(ys.length:Int),ys,((maUp B32 x W ys k).2:Int),(x:Int),(fd B32 i A++(maUp B32 x W ys k).1)++(W.drop k++(0:Int)::R),(i:Int),ys,(i:Int),(xs.length:Int),xs,())) (F:=fun k=>F) (fun k g' hk hg'=>by
  unfold P.i_nat_mul_b3
  dsimp only at hg' ⊢
  refine Eq.trans ?_ hg'
  clear hg'
  obtain⟨q1,q2,q3,q4⟩:=maUp_ok (x:=x) B32_le hxB hdw hy k
  have q4':(maUp B32 x W ys k).2<4294967296:=q4
  have gy:=dig_getD (B:=B32) (by decide) hy k
  have gw:=dig_getD (B:=B32) (by decide) hdw k
  have gy1:ys.getD k 0<4294967296:=gy.2
  have gw1:W.getD k 0<4294967296:=gw.2
  have gy0:=gy.1
  have gw0:=gw.1
  have hAl:(fd B32 i A++(maUp B32 x W ys k).1).length=i+k:=by rw[List.length_append,hl0,q2]
  have hlen:((fd B32 i A++(maUp B32 x W ys k).1)++(W.drop k++(0:Int)::R)).length=xs.length+ys.length:=by
   rw[List.length_append,hAl,List.length_append,List.length_drop,List.length_cons,hlw,hRl]
   omega
  have e1:(k:Int)<(ys.length:Int):=by omega
  have e2:(0:Int)≤(k:Int):=by omega
  have e3:(0:Int)≤((i+k:Nat):Int):=by omega
  have e4:((i+k:Nat):Int)<((xs.length+ys.length:Nat):Int):=by omega
  rw[hlen,←Int.natCast_add i k,wr (x:=((i+k:Nat):Int)) (by omega) (by omega)]
  simp only[e1,e2,e3,e4,decide_true,if_true,Nat.zero_add,Int.toNat_natCast]
  rw[drop_cons_getD (xs:=W) (i:=k) (by omega),List.cons_append,mid_get hAl]
  simp only[mid_set hAl]
  rw[maUp]
  dsimp only
  generalize W.getD k 0=w at*
  generalize ys.getD k 0=y at*
  generalize maUp B32 x W ys k=p at*
  obtain⟨pl,c0⟩:=p
  dsimp only at*
  obtain⟨Y,rfl⟩:∃Y:Nat,y=(Y:Int):=⟨y.toNat,by omega⟩
  obtain⟨w',rfl⟩:∃Y:Nat,w=(Y:Int):=⟨w.toNat,by omega⟩
  rw[Int.toNat_natCast,Int.toNat_natCast]
  have hxY:x*Y≤4294967295*4294967295:=Nat.mul_le_mul (by omega) (by omega)
  rw[wu (x:=(x:Int)) (by omega) (by omega),wu (x:=(Y:Int)) (by omega) (by omega),←Int.natCast_mul,wu (x:=((x*Y:Nat):Int)) (by omega) (by omega),wu (x:=(w':Int)) (by omega) (by omega),←Int.natCast_add,wu (x:=((x*Y+w':Nat):Int)) (by omega) (by omega),←Int.natCast_add,wu (x:=((c0+(x*Y+w'):Nat):Int)) (by omega) (by omega),Int.fdiv_eq_ediv_of_nonneg _ (by omega),u32_emod,wr (x:=(k:Int)+1) (by omega) (by omega)]
  have e8:((c0+(x*Y+w'):Nat):Int)%4294967296=(((c0+(x*Y+w'))%B32:Nat):Int):=by
   show _=(((c0+(x*Y+w'))%4294967296:Nat):Int)
   omega
  have e9:((c0+(x*Y+w'):Nat):Int)/4294967296=(((c0+(x*Y+w'))/B32:Nat):Int):=by
   show _=(((c0+(x*Y+w'))/4294967296:Nat):Int)
   omega
  rw[e8,e9,←List.append_assoc (fd B32 i A)]
  rfl) (fun g'=>by
  unfold P.i_nat_mul_b3
  dsimp only
  obtain⟨q1,q2,q3,q4⟩:=maUp_ok (x:=x) B32_le hxB hdw hy ys.length
  have q4':(maUp B32 x W ys ys.length).2<4294967296:=q4
  rw[List.take_length,←hlw,List.take_length,hlw,hvw]at q3
  have hAl:(fd B32 i A++(maUp B32 x W ys ys.length).1).length=i+ys.length:=by rw[List.length_append,hl0,q2]
  have hlen:((fd B32 i A++(maUp B32 x W ys ys.length).1)++(W.drop ys.length++(0:Int)::R)).length=xs.length+ys.length:=by
   rw[List.length_append,hAl,List.length_append,List.length_drop,List.length_cons,hlw,hRl]
   omega
  have e1:¬((ys.length:Int)<(ys.length:Int)):=by omega
  have e3:(0:Int)≤((i+ys.length:Nat):Int):=by omega
  have e4:((i+ys.length:Nat):Int)<((xs.length+ys.length:Nat):Int):=by omega
  rw[hlen,←Int.natCast_add i ys.length,wr (x:=((i+ys.length:Nat):Int)) (by omega) (by omega)]
  simp only[e1,e3,e4,decide_true,decide_false,if_true,if_false,Bool.false_eq_true,Nat.zero_add,Int.toNat_natCast]
  rw[List.drop_of_length_le (by omega),List.nil_append,mid_set hAl,w32 (by omega) (by omega),wr (x:=(i:Int)+1) (by omega) (by omega)]
  generalize maUp B32 x W ys ys.length=p at*
  obtain⟨pl,c0⟩:=p
  dsimp only at*
  have hlt:=dval_lt q1
  rw[q2]at hlt
  have hpl:pl=fd B32 ys.length (A/B32^i+x*dval B32 ys):=by
   have:=fd_eq B32_le q1 q2 rfl
   rw[this,←q3,←fd_mod B32 ys.length (_+_),Nat.add_mul_mod_self_left,fd_mod]
  have hc0:c0=(A/B32^i+x*dval B32 ys)/B32^ys.length:=by
   rw[←q3,Nat.add_mul_div_left _ _ (Nat.pow_pos (by decide)),Nat.div_eq_of_lt hlt,Nat.zero_add]
  rw[List.append_assoc _ [_],List.singleton_append,hpl,hc0,hnext]
  exact hg) hK
 rw[show(fd B32 i A++(maUp B32 x W ys 0).1)++(W.drop 0++(0:Int)::R)=(fd B32 i A++W)++(0:Int)::R by rw[show(maUp B32 x W ys 0).1=[]from rfl,List.append_nil,List.drop_zero,List.append_assoc]]at key
 exact key
def S.i_nat_mul (x:((List Int)×((List Int)×Unit))):(Option ((List Int)×Unit)):=if dig B32 x.1=true∧dig B32 x.2.1=true∧x.1.length≤10000000000∧x.2.1.length≤10000000000 then some (nd B32 (dval B32 x.1*dval B32 x.2.1),())else none
theorem S.i_nat_mul_ok (x:((List Int)×((List Int)×Unit))) (r:_) (h:S.i_nat_mul x=some r):∃k,P.i_nat_mul k x=some r:=by
 obtain⟨xs,ys,u⟩:=x
 unfold S.i_nat_mul at h
 dsimp only at h
 split at h
 case isFalse=>cases h
 rename_i hc
 obtain⟨dx,dy,lx,ly⟩:=hc
 cases h
 refine⟨xs.length+ys.length+1,?_⟩
 unfold P.i_nat_mul
 dsimp only
 have a1:(0:Int)≤((xs.length+ys.length:Nat):Int):=by omega
 have a2:((xs.length+ys.length:Nat):Int)*4≤281474976710656:=by omega
 rw[←Int.natCast_add,wr (x:=((xs.length+ys.length:Nat):Int)) (by omega) (by omega)]
 simp only[a1,a2,decide_true,if_true,Int.le_refl,Int.toNat_natCast]
 have key:=loop_up0 (k:=xs.length+ys.length+1) (b:=P.i_nat_mul_b0 (xs.length+ys.length+1)) (n:=xs.length) (st:=fun i=>((i:Int),(xs.length:Int),xs,ys,fd B32 (xs.length+ys.length) (dval B32 (xs.take i)*dval B32 ys),())) (F:=fun i=>some (nd B32 (dval B32 xs*dval B32 ys),())) (fun i g hi hg=>by
  unfold P.i_nat_mul_b0
  dsimp only at hg ⊢
  have e1:(i:Int)<(xs.length:Int):=by omega
  have e2:(0:Int)≤(i:Int):=by omega
  simp only[e1,e2,decide_true,if_true,Int.toNat_natCast]
  exact im_inner g _ dx dy lx ly hi _ (by omega) hg) (fun g=>by
  unfold P.i_nat_mul_b0
  dsimp only
  rw[if_neg (by simp),List.take_length]
  unfold S.i_nat_trim
  dsimp only
  have hb:=mul_bound B32_le dx dy xs.length (Nat.le_refl _)
  rw[List.take_length]at hb
  rw[if_pos ⟨dig_fd (by decide) _ _,by rw[fd_len];omega⟩,Option.bind_some,nd_fd B32_le hb]) (by omega)
 rw[List.take_zero,show dval B32 []*dval B32 ys=0 by simp [dval],fd_zero]at key
 exact key
def P.i_rat_sign (k:Nat) (x:(RB×Unit)):(Option (Int×Unit)):=
 (if((((List.length x.1.2.1):Int)==(0:Int))=true)then(some ((0:Int),()))
 else(if(x.1.1=true)then(some ((-1:Int),()))
 else(some ((1:Int),()))))
def S.i_rat_sign (x:(RB×Unit)):(Option (Int×Unit)):=if canon B32 x.1.2.1=true then some (sgnQ x.1.1 (dval B32 x.1.2.1),())else none
theorem S.i_rat_sign_ok (x:(RB×Unit)) (r:_) (h:S.i_rat_sign x=some r):∃k,P.i_rat_sign k x=some r:=by
 obtain⟨⟨n,as,bs⟩,u⟩:=x
 unfold S.i_rat_sign at h
 dsimp only at h
 split at h
 case isFalse=>cases h
 rename_i ca
 cases h
 refine⟨0,?_⟩
 unfold P.i_rat_sign sgnQ
 dsimp only
 have h:=canon_nil B32_le ca
 by_cases h0:as=[]
 ·rw[if_pos (h.1 h0),h0,if_pos (by rfl)]
 ·rw[if_neg (fun q=>h0 (h.2 q)),if_neg (by simpa using h0)]
  cases n<;>rfl
def P.i_rat_cmp (k:Nat) (x:(RB×(RB×Unit))):(Option (Int×Unit)):=
 (Option.bind (S.i_rat_sign ((x.1.1,(x.1.2.1,x.1.2.2)),())) (fun(y0:(Int×Unit))=>(Option.bind (S.i_rat_sign ((x.2.1.1,(x.2.1.2.1,x.2.1.2.2)),())) (fun(y1:(Int×Unit))=>(if((y0.1 != y1.1)=true)then(Option.bind (S.i_rat_sign ((x.1.1,(x.1.2.1,x.1.2.2)),())) (fun(y2:(Int×Unit))=>(Option.bind (S.i_rat_sign ((x.2.1.1,(x.2.1.2.1,x.2.1.2.2)),())) (fun(y3:(Int×Unit))=>(some ((IntKind.wrap .i64 (y2.1 - y3.1)),()))))))
 else(Option.bind (S.i_nat_mul (x.1.2.1,(x.2.1.2.2,()))) (fun(y4:((List Int)×Unit))=>(Option.bind (S.i_nat_mul (x.2.1.2.1,(x.1.2.2,()))) (fun(y5:((List Int)×Unit))=>(Option.bind (S.i_nat_cmp (y4.1,(y5.1,()))) (fun(y6:(Int×Unit))=>(if(x.1.1=true)then(some ((IntKind.wrap .i64 ((0:Int) - y6.1)),()))
 else(some (y6.1,()))))))))))))))
def S.i_rat_cmp (x:(RB×(RB×Unit))):(Option (Int×Unit)):=P.i_rat_cmp 0 x
theorem S.i_rat_cmp_ok (x:(RB×(RB×Unit))) (r:_) (h:S.i_rat_cmp x=some r):∃k,P.i_rat_cmp k x=some r:=⟨0,h⟩
theorem ri_cmp {x y:Q3} (hx:low x) (hy:low y) (bx:below 80000000 x) (bY:below 80000000 y):S.i_rat_cmp (rp B32 x,(rp B32 y,()))=some (cmpZ x y,()):=by
 have sg:∀r:Q3,S.i_rat_sign (rp B32 r,())=some (sgnQ r.1 r.2.1,()):=by
  intro r
  unfold S.i_rat_sign rp
  dsimp only
  rw[if_pos (canon_nd B32_le _),dval_nd B32_le]
 have kx:=rok_iff.1 (below_rok9 (B:=B32) (N:=10000000) (by decide) bx (by decide))
 have ky:=rok_iff.1 (below_rok9 (B:=B32) (N:=10000000) (by decide) bY (by decide))
 have mul:∀p q:Nat,(nd B32 p).length≤10000000→(nd B32 q).length≤10000000→S.i_nat_mul (nd B32 p,(nd B32 q,()))=some (nd B32 (p*q),()):=by
  intro p q hp hq
  unfold S.i_nat_mul
  dsimp only
  rw[if_pos ⟨dig_nd B32_le _,dig_nd B32_le _,by omega,by omega⟩,dval_nd B32_le,dval_nd B32_le]
 have l1:(nd B32 x.2.1).length≤10000000:=kx.2.2.1
 have l2:(nd B32 x.2.2).length≤10000000:=kx.2.2.2
 have l3:(nd B32 y.2.1).length≤10000000:=ky.2.2.1
 have l4:(nd B32 y.2.2).length≤10000000:=ky.2.2.2
 have lm:=nd_mul_len B32_le x.2.1 y.2.2
 have hc:S.i_nat_cmp (nd B32 (x.2.1*y.2.2),(nd B32 (y.2.1*x.2.2),()))=some (cmpN (x.2.1*y.2.2) (y.2.1*x.2.2),()):=by
  unfold S.i_nat_cmp
  dsimp only
  rw[if_pos ⟨canon_nd B32_le _,canon_nd B32_le _,by omega⟩,dval_nd B32_le,dval_nd B32_le]
 have hr:=cmpN_range (x.2.1*y.2.2) (y.2.1*x.2.2)
 have s1:∀r:Q3, -1≤sgnQ r.1 r.2.1∧sgnQ r.1 r.2.1≤1:=by
  intro r
  unfold sgnQ
  split
  ·omega
  ·split<;>omega
 have sx:=s1 x
 have sy:=s1 y
 unfold S.i_rat_cmp P.i_rat_cmp cmpZ
 dsimp only
 show Option.bind (S.i_rat_sign (rp B32 x,())) (fun y0=>Option.bind (S.i_rat_sign (rp B32 y,())) (fun y1=>if(y0.1 != y1.1)=true then Option.bind (S.i_rat_sign (rp B32 x,())) (fun y2=>Option.bind (S.i_rat_sign (rp B32 y,())) (fun y3=>some (IntKind.wrap .i64 (y2.1 - y3.1),())))else Option.bind (S.i_nat_mul (nd B32 x.2.1,(nd B32 y.2.2,()))) (fun y4=>Option.bind (S.i_nat_mul (nd B32 y.2.1,(nd B32 x.2.2,()))) (fun y5=>Option.bind (S.i_nat_cmp (y4.1,(y5.1,()))) (fun y6=>if x.1=true then some (IntKind.wrap .i64 (0 - y6.1),())else some (y6.1,()))))))=_
 rw[sg x,sg y,mul _ _ l1 l4,mul _ _ l3 l2]
 simp only[Option.bind_some]
 rw[hc]
 simp only[Option.bind_some]
 by_cases hs:sgnQ x.1 x.2.1=sgnQ y.1 y.2.1
 ·rw[if_neg (show ¬((sgnQ x.1 x.2.1 != sgnQ y.1 y.2.1)=true) by simpa using hs),if_neg (show ¬(sgnQ x.1 x.2.1≠sgnQ y.1 y.2.1) by simpa using hs)]
  cases hn:x.1
  ·rfl
  ·simp only[if_true]
   rw[wr (by omega) (by omega),Int.zero_sub]
 ·rw[if_pos (show(sgnQ x.1 x.2.1 != sgnQ y.1 y.2.1)=true by simpa using hs),if_pos (show sgnQ x.1 x.2.1≠sgnQ y.1 y.2.1 from hs),wr (by omega) (by omega)]
def P.i_rat_isOne (k:Nat) (x:(RB×Unit)):(Option (Bool×Unit)):=
 (Option.bind (S.i_whole ((1:Int),())) (fun(y0:(RB×Unit))=>(Option.bind (S.i_rat_cmp ((x.1.1,(x.1.2.1,x.1.2.2)),((y0.1.1,(y0.1.2.1,y0.1.2.2)),()))) (fun(y1:(Int×Unit))=>(some ((y1.1==(0:Int)),()))))))
def S.i_rat_isOne (x:(RB×Unit)):(Option (Bool×Unit)):=if rok B32 10000000 x.1=true∧qok (rv B32 x.1)=true then some (isOneQ (rv B32 x.1),())else none
theorem S.i_rat_isOne_ok (x:(RB×Unit)) (r:_) (h:S.i_rat_isOne x=some r):∃k,P.i_rat_isOne k x=some r:=by
 obtain⟨x,u⟩:=x
 unfold S.i_rat_isOne at h
 dsimp only at h
 split at h
 case isFalse=>cases h
 rename_i hc
 obtain⟨hr,hq⟩:=hc
 obtain⟨n,p,q,rfl,l1,l2⟩:=rok_nd hr
 rw[rv_nd B32_le]at h hq
 rw[qok_iff]at hq
 obtain⟨h0,h1⟩:=hq
 dsimp only at h0 h1
 cases h
 refine⟨0,?_⟩
 have hw:S.i_whole (1,())=some ((false,(nd B32 1,nd B32 1)),()):=by rfl
 unfold P.i_rat_isOne isOneQ
 dsimp only
 rw[hw,Option.bind_some]
 dsimp only
 unfold S.i_rat_cmp P.i_rat_cmp
 dsimp only
 have hs:∀(n:Bool) (p:Nat) (ys:List Int),S.i_rat_sign ((n,(nd B32 p,ys)),())=some (sgnQ n p,()):=by
  intro n p ys
  unfold S.i_rat_sign
  dsimp only
  rw[if_pos (canon_nd B32_le _),dval_nd B32_le]
 have o1:(nd B32 1).length≤10000000:=by rw[nd_one B32_le];decide
 have em:∀p q,(nd B32 p).length≤10000000→(nd B32 q).length≤10000000→S.i_nat_mul (nd B32 p,(nd B32 q,()))=some (nd B32 (p*q),()):=by
  intro p q hp hq
  unfold S.i_nat_mul
  dsimp only
  rw[if_pos ⟨dig_nd B32_le _,dig_nd B32_le _,by omega,by omega⟩,dval_nd B32_le,dval_nd B32_le]
 have ec:S.i_nat_cmp (nd B32 (p*1),(nd B32 (1*q),()))=some (cmpN (p*1) (1*q),()):=by
  unfold S.i_nat_cmp
  dsimp only
  rw[if_pos ⟨canon_nd B32_le _,canon_nd B32_le _,by rw[Nat.mul_one];omega⟩,dval_nd B32_le,dval_nd B32_le]
 rw[hs,Option.bind_some,hs,Option.bind_some]
 dsimp only
 have s1:sgnQ false 1=1:=rfl
 rw[s1]
 by_cases hp:p=0
 ·subst hp
  rw[decide_eq_false (fun z=>by have:=z.2;omega)]
  rfl
 ·cases n
  ·have s2:sgnQ false p=1:=by
    unfold sgnQ
    rw[if_neg hp]
    rfl
   rw[s2,if_neg (by decide),em _ _ l1 o1,Option.bind_some,em _ _ o1 l2,Option.bind_some]
   dsimp only
   rw[ec,Option.bind_some]
   dsimp only
   rw[if_neg (by decide),Option.bind_some]
   have hz:=cmpN_zero (a:=p*1) (b:=1*q)
   rw[Nat.mul_one,Nat.one_mul]at hz ⊢
   by_cases he:p=q
   ·rw[decide_eq_true ⟨rfl,he⟩,hz.2 he]
    rfl
   ·rw[decide_eq_false (fun z=>he z.2)]
    dsimp only
    rw[beq_eq_false_iff_ne.2 (fun z=>he (hz.1 z))]
  ·have s2:sgnQ true p= -1:=by
    unfold sgnQ
    rw[if_neg hp]
    rfl
   rw[s2,decide_eq_false (fun z=>by cases z.1)]
   rfl
def S.strings_Cut (x:(ByteArray×(ByteArray×Unit))):(Option ((ByteArray×(ByteArray×Bool))×Unit)):=if x.1.size<4294967281 then some ((⟨(Go.Lib.cut x.1.data.toList x.2.1.data.toList).1.toArray⟩,(⟨(Go.Lib.cut x.1.data.toList x.2.1.data.toList).2.1.toArray⟩,(Go.Lib.cut x.1.data.toList x.2.1.data.toList).2.2)),())else none
def S.strings_CutPrefix (x:(ByteArray×(ByteArray×Unit))):(Option ((ByteArray×Bool)×Unit)):=some ((⟨(Go.Lib.trimPrefix x.1.data.toList x.2.1.data.toList).toArray⟩,Go.Lib.hasPrefix x.1.data.toList x.2.1.data.toList),())
abbrev P.i_nat_small_b0 (x1:(Int×((List Int)×(Int×Unit)))) (g2:(Int×((List Int)×(Int×Unit)))→Option ((Int×Bool)×Unit)):Option ((Int×Bool)×Unit):=
 (if((decide (x1.1≥(0:Int)))=true)then(if((decide (((List.length x1.2.1):Int)≤(2:Int)))=true)then(if((decide ((0:Int)≤x1.1))=true)then(if((decide (x1.1<((List.length x1.2.1):Int)))=true)then(g2 ((IntKind.wrap .i64 (x1.1 - (1:Int))),(x1.2.1,((IntKind.wrap .u64 ((IntKind.wrap .u64 (x1.2.2.1*(4294967296:Int)))+(IntKind.wrap .u64 (List.getD x1.2.1 (Int.toNat x1.1) (0:Int))))),()))))
 else none)
 else none)
 else(some ((x1.2.2.1,(decide (((List.length x1.2.1):Int)≤(2:Int)))),())))
 else(some ((x1.2.2.1,(decide (((List.length x1.2.1):Int)≤(2:Int)))),())))
def P.i_nat_small (k:Nat) (x:((List Int)×Unit)):(Option ((Int×Bool)×Unit)):=
 (loopP (X:=(Int×((List Int)×(Int×Unit)))) (R:=((Int×Bool)×Unit)) (P.i_nat_small_b0) k ((IntKind.wrap .i64 (((List.length x.1):Int) - (1:Int))),(x.1,((0:Int),()))))
def S.i_nat_small (x:((List Int)×Unit)):(Option ((Int×Bool)×Unit)):=if dig B32 x.1=true∧x.1.length≤1000000000000 then some ((if x.1.length≤2 then((dval B32 x.1:Nat):Int)else 0,decide (x.1.length≤2)),())else none
theorem S.i_nat_small_ok (x:((List Int)×Unit)) (r:_) (h:S.i_nat_small x=some r):∃k,P.i_nat_small k x=some r:=by
 obtain⟨xs,u⟩:=x
 unfold S.i_nat_small at h
 dsimp only at h
 split at h
 case isFalse=>cases h
 rename_i hc
 obtain⟨hd,hl⟩:=hc
 cases h
 by_cases h2:xs.length≤2
 ·refine⟨xs.length+1,?_⟩
  unfold P.i_nat_small
  dsimp only
  rw[if_pos h2,decide_eq_true h2,wr (by omega) (by omega)]
  have key:=loop_up0 (k:=xs.length+1) (b:=P.i_nat_small_b0) (n:=xs.length) (st:=fun j=>((xs.length:Int) - 1 - (j:Int),xs,((dval B32 (xs.drop (xs.length - j)):Nat):Int),())) (F:=fun j=>some ((((dval B32 xs:Nat):Int),true),())) (fun j g hj hg=>by
   unfold P.i_nat_small_b0
   dsimp only at hg ⊢
   have e1:(xs.length:Int) - 1 - (j:Int)≥0:=by omega
   have e2:(xs.length:Int)≤2:=by omega
   have e3:(0:Int)≤(xs.length:Int) - 1 - (j:Int):=by omega
   have e4:(xs.length:Int) - 1 - (j:Int)<(xs.length:Int):=by omega
   simp only[e1,e2,e4,decide_true,if_true]
   have hi:xs.length - (j+1)<xs.length:=by omega
   have e5:(xs.length:Int) - 1 - (j:Int)=((xs.length - (j+1):Nat):Int):=by omega
   rw[e5,getD_cast xs _ _ hi]
   have e6:xs.drop (xs.length - (j+1))=xs[xs.length - (j+1)]::xs.drop (xs.length - j):=by
    rw[List.drop_eq_getElem_cons hi]
    congr 2
    omega
   have hx:=dig_get hd hi
   have hv:dval B32 (xs.drop (xs.length - j))<B32^1:=by
    have hdd:dig B32 (xs.drop (xs.length - j))=true:=by
     have:=List.take_append_drop (xs.length - j) xs
     rw[←this,dig_append,Bool.and_eq_true]at hd
     exact hd.2
    have:=dval_lt hdd
    have hp:B32^(xs.drop (xs.length - j)).length≤B32^1:=Nat.pow_le_pow_right (by decide) (by simp;omega)
    omega
   have hv':dval B32 (xs.drop (xs.length - j))<4294967296:=hv
   have hx':xs[xs.length - (j+1)]<4294967296:=hx.2
   rw[e6]at hg
   rw[←hg,wr (by omega) (by omega),wu (x:=(dval B32 (xs.drop (xs.length - j)):Int)*4294967296) (by omega) (by omega),wu (x:=xs[xs.length - (j+1)]) (by omega) (by omega),wu (by omega) (by omega)]
   congr 1
   simp only[Prod.mk.injEq,dval]
   refine⟨by omega,trivial,?_,trivial⟩
   show _=(((xs[xs.length - (j+1)]).toNat+4294967296*dval B32 (xs.drop (xs.length - j)):Nat):Int)
   omega) (fun g=>by
   unfold P.i_nat_small_b0
   dsimp only
   rw[if_neg (by simp;omega),Nat.sub_self,List.drop_zero,decide_eq_true (by omega)]) (by omega)
  have e0:dval B32 (xs.drop (xs.length - 0))=0:=by rw[Nat.sub_zero,List.drop_length];rfl
  rw[show(xs.length:Int) - 1 - ((0:Nat):Int)=(xs.length:Int) - 1 by omega,e0]at key
  exact key
 ·refine⟨1,?_⟩
  unfold P.i_nat_small
  rw[loopP_succ]
  unfold P.i_nat_small_b0
  dsimp only
  rw[wr (by omega) (by omega),if_pos (decide_eq_true (by omega)),if_neg (by simp;omega),if_neg h2,decide_eq_false h2,decide_eq_false (by omega)]
def S.math_bits_LeadingZeros32 (x:(Int×Unit)):(Option (Int×Unit)):=if 0≤x.1∧x.1≤4294967295 then some (32 - (Go.Lib.bitLen x.1.toNat:Int),())else none
abbrev P.i_nat_divSmall_b0 (x1:(Int×(Int×((List Int)×((List Int)×(Int×Unit)))))) (g2:(Int×(Int×((List Int)×((List Int)×(Int×Unit)))))→Option (((List Int)×Int)×Unit)):Option (((List Int)×Int)×Unit):=
 (if((decide (x1.1≥(0:Int)))=true)then(if((decide ((0:Int)≤x1.1))=true)then(if((decide (x1.1<((List.length x1.2.2.1):Int)))=true)then(if((decide ((IntKind.wrap .u64 x1.2.2.2.2.1)=(0:Int)))=true)then none
 else(if((decide ((0:Int)≤x1.1))=true)then(if((decide (x1.1<((List.length x1.2.2.2.1):Int)))=true)then(if((decide ((IntKind.wrap .u64 x1.2.2.2.2.1)=(0:Int)))=true)then none
 else(g2 ((IntKind.wrap .i64 (x1.1 - (1:Int))),((Int.tmod (IntKind.wrap .u64 ((IntKind.wrap .u64 (x1.2.1*(4294967296:Int)))+(IntKind.wrap .u64 (List.getD x1.2.2.1 (Int.toNat x1.1) (0:Int))))) (IntKind.wrap .u64 x1.2.2.2.2.1)),(x1.2.2.1,((List.set x1.2.2.2.1 ((0:Nat)+(Int.toNat x1.1)) (IntKind.wrap .u32 (IntKind.wrap .u64 (Int.tdiv (IntKind.wrap .u64 ((IntKind.wrap .u64 (x1.2.1*(4294967296:Int)))+(IntKind.wrap .u64 (List.getD x1.2.2.1 (Int.toNat x1.1) (0:Int))))) (IntKind.wrap .u64 x1.2.2.2.2.1))))),(x1.2.2.2.2.1,())))))))
 else none)
 else none))
 else none)
 else none)
 else(Option.bind (S.i_nat_trim (x1.2.2.2.1,())) (fun(y3:((List Int)×Unit))=>(some ((y3.1,(IntKind.wrap .u32 x1.2.1)),())))))
def P.i_nat_divSmall (k:Nat) (x:((List Int)×(Int×Unit))):(Option (((List Int)×Int)×Unit)):=
 (if((decide ((0:Int)≤((List.length x.1):Int)))=true)then(if((decide (((List.length x.1):Int)≤((List.length x.1):Int)))=true)then(if((decide ((((List.length x.1):Int)*(4:Int))≤(281474976710656:Int)))=true)then(loopP (X:=(Int×(Int×((List Int)×((List Int)×(Int×Unit)))))) (R:=(((List Int)×Int)×Unit)) (P.i_nat_divSmall_b0) k ((IntKind.wrap .i64 (((List.length x.1):Int) - (1:Int))),((0:Int),(x.1,((List.replicate (Int.toNat ((List.length x.1):Int)) (0:Int)),(x.2.1,()))))))
 else none)
 else none)
 else none)
def S.i_nat_divSmall (x:((List Int)×(Int×Unit))):(Option (((List Int)×Int)×Unit)):=if dig B32 x.1=true∧0<x.2.1∧x.2.1<4294967296∧x.1.length≤1000000000000 then some ((nd B32 (dval B32 x.1/x.2.1.toNat),((dval B32 x.1%x.2.1.toNat:Nat):Int)),())else none
theorem S.i_nat_divSmall_ok (x:((List Int)×(Int×Unit))) (r:_) (h:S.i_nat_divSmall x=some r):∃k,P.i_nat_divSmall k x=some r:=by
 obtain⟨xs,b,u⟩:=x
 unfold S.i_nat_divSmall at h
 dsimp only at h
 split at h
 case isFalse=>cases h
 rename_i hc
 obtain⟨hd,hb0,hb1,hl⟩:=hc
 cases h
 refine⟨xs.length+1,?_⟩
 unfold P.i_nat_divSmall
 dsimp only
 have a1:(0:Int)≤(xs.length:Int):=by omega
 have a2:(xs.length:Int)≤(xs.length:Int):=by omega
 have a3:(xs.length:Int)*4≤281474976710656:=by omega
 simp only[a1,a2,a3,decide_true,if_true]
 rw[wr (by omega) (by omega),Int.toNat_natCast]
 have hdr:∀m,dig B32 (xs.drop m)=true:=by
  intro m
  have:=List.take_append_drop m xs
  have hd':=hd
  rw[←this,dig_append,Bool.and_eq_true]at hd'
  exact hd'.2
 have hbN:0<b.toNat:=by omega
 have key:=loop_up0 (k:=xs.length+1) (b:=P.i_nat_divSmall_b0) (n:=xs.length) (st:=fun j=>((xs.length:Int) - 1 - (j:Int),((qdiv B32 b.toNat (xs.drop (xs.length - j))).2:Int),xs,List.replicate (xs.length - j) (0:Int)++(qdiv B32 b.toNat (xs.drop (xs.length - j))).1,b,())) (F:=fun j=>some ((nd B32 (dval B32 xs/b.toNat),((dval B32 xs%b.toNat:Nat):Int)),())) (fun j g hj hg=>by
  unfold P.i_nat_divSmall_b0
  dsimp only at hg ⊢
  obtain⟨q1,q2,q3,q4⟩:=qdiv_ok B32 b.toNat hbN (xs.drop (xs.length - j)) (hdr _)
  have hi:xs.length - (j+1)<xs.length:=by omega
  have e5:(xs.length:Int) - 1 - (j:Int)=((xs.length - (j+1):Nat):Int):=by omega
  have e6:xs.drop (xs.length - (j+1))=xs[xs.length - (j+1)]::xs.drop (xs.length - j):=by
   rw[List.drop_eq_getElem_cons hi]
   congr 2
   omega
  have e7:xs.length - j=(xs.length - (j+1))+1:=by omega
  have hlen:(List.replicate (xs.length - j) (0:Int)++(qdiv B32 b.toNat (xs.drop (xs.length - j))).1).length=xs.length:=by
   rw[List.length_append,List.length_replicate,q2,List.length_drop];omega
  have hx:=dig_get hd hi
  have hx1:xs[xs.length - (j+1)]<4294967296:=hx.2
  have hx0:=hx.1
  have hm:(qdiv B32 b.toNat (xs.drop (xs.length - j))).2<b.toNat:=by rw[q4];exact Nat.mod_lt _ hbN
  rw[e6]at hg
  rw[hlen,e5,getD_cast xs _ _ hi]
  have a1:((xs.length - (j+1):Nat):Int)≥0:=by omega
  have a2:(0:Int)≤((xs.length - (j+1):Nat):Int):=by omega
  have a3:((xs.length - (j+1):Nat):Int)<(xs.length:Int):=by omega
  rw[wu (x:=b) (by omega) (by omega)]
  have a4:¬(b=0):=by omega
  simp only[a1,a3,a4,decide_true,decide_false,if_true,if_false,Bool.false_eq_true]
  generalize hR:(qdiv B32 b.toNat (xs.drop (xs.length - j))).2=R at*
  generalize hX:xs[xs.length - (j+1)]=X at*
  have hRX:(R:Int)*4294967296+X<b*4294967296:=by omega
  rw[wu (x:=(R:Int)*4294967296) (by omega) (by omega),wu (x:=X) (by omega) (by omega),wu (x:=(R:Int)*4294967296+X) (by omega) (by omega)]
  have eT:Int.tdiv ((R:Int)*4294967296+X) b=(((R*B32+X.toNat)/b.toNat:Nat):Int):=by
   rw[Int.tdiv_eq_ediv_of_nonneg (by omega)]
   have:(R:Int)*4294967296+X=((R*4294967296+X.toNat:Nat):Int):=by omega
   rw[this]
   have hb:b=((b.toNat:Nat):Int):=by omega
   conv=>lhs;rw[hb]
   exact(Int.natCast_ediv _ _).symm
  have eM:Int.tmod ((R:Int)*4294967296+X) b=(((R*B32+X.toNat)%b.toNat:Nat):Int):=by
   rw[Int.tmod_eq_emod_of_nonneg (by omega)]
   have:(R:Int)*4294967296+X=((R*4294967296+X.toNat:Nat):Int):=by omega
   rw[this]
   have hb:b=((b.toNat:Nat):Int):=by omega
   conv=>lhs;rw[hb]
   exact(Int.natCast_emod _ _).symm
  have hQ:(R*B32+X.toNat)/b.toNat<B32:=(Nat.div_lt_iff_lt_mul hbN).2 (by
   show R*4294967296+X.toNat<4294967296*b.toNat
   omega)
  have hQ':(R*B32+X.toNat)/b.toNat<4294967296:=hQ
  have z0:(0:Int)≤(((R*B32+X.toNat)/b.toNat:Nat):Int):=Int.natCast_nonneg _
  have z1:(((R*B32+X.toNat)/b.toNat:Nat):Int)<4294967296:=Int.ofNat_lt.2 hQ'
  rw[eT,eM,wu z0 (Int.lt_trans z1 (by decide)),w32 z0 z1,wr (x:=((xs.length - (j+1):Nat):Int) - 1) (by omega) (by omega),Nat.zero_add,Int.toNat_natCast]
  have hset:∀(Q:List Int) (v:Int),(List.replicate (xs.length - j) (0:Int)++Q).set (xs.length - (j+1)) v=List.replicate (xs.length - (j+1)) 0++v::Q:=by
   intro Q v
   rw[e7]
   exact set_back _ _ _
  rw[hset,←hg]
  congr 1
  simp only[Prod.mk.injEq,qdiv]
  rw[hR]
  and_intros<;>first|rfl|omega|trivial) (fun g=>by
  unfold P.i_nat_divSmall_b0
  dsimp only
  obtain⟨q1,q2,q3,q4⟩:=qdiv_ok B32 b.toNat hbN xs hd
  rw[if_neg (by simp;omega),Nat.sub_self,List.drop_zero,List.replicate_zero,List.nil_append,trim_i _ q1 (by omega),Option.bind_some,q3,q4]
  have hm:=Nat.mod_lt (dval B32 xs) hbN
  rw[w32 (by omega) (by omega)]) (by omega)
 rw[show(xs.length:Int) - 1 - ((0:Nat):Int)=(xs.length:Int) - 1 by omega,Nat.sub_zero,List.drop_length]at key
 simpa [qdiv]using key
abbrev P.i_nat_shifted_b0 (x1:(Int×(Int×((List Int)×(Int×((List Int)×Unit)))))) (g2:(Int×(Int×((List Int)×(Int×((List Int)×Unit)))))→Option ((List Int)×Unit)):Option ((List Int)×Unit):=
 (if((decide (x1.1<x1.2.1))=true)then(if((decide ((0:Int)≤x1.1))=true)then(if((decide (x1.1<((List.length x1.2.2.1):Int)))=true)then(if((decide (x1.2.2.2.1<(0:Int)))=true)then none
 else(if((decide ((0:Int)≤x1.1))=true)then(if((decide (x1.1<((List.length x1.2.2.2.2.1):Int)))=true)then(if((decide ((0:Int)≤x1.1))=true)then(if((decide (x1.1<((List.length x1.2.2.2.2.1):Int)))=true)then(if((decide ((0:Int)≤(IntKind.wrap .i64 (x1.1+(1:Int)))))=true)then(if((decide ((IntKind.wrap .i64 (x1.1+(1:Int)))<((List.length (List.set x1.2.2.2.2.1 ((0:Nat)+(Int.toNat x1.1)) (IntKind.wrap .u32 (((BitVec.toNat ((BitVec.ofInt 32 (List.getD x1.2.2.2.2.1 ((0:Nat)+(Int.toNat x1.1)) (0:Int)))|||(BitVec.ofInt 32 (IntKind.wrap .u32 (IntKind.wrap .u64 ((IntKind.wrap .u64 (List.getD x1.2.2.1 (Int.toNat x1.1) (0:Int)))*((2:Int)^(Min.min (Int.toNat x1.2.2.2.1) 64)))))))):Nat):Int)))):Int)))=true)then(g2 ((IntKind.wrap .i64 (x1.1+(1:Int))),(x1.2.1,(x1.2.2.1,(x1.2.2.2.1,((List.set (List.set x1.2.2.2.2.1 ((0:Nat)+(Int.toNat x1.1)) (IntKind.wrap .u32 (((BitVec.toNat ((BitVec.ofInt 32 (List.getD x1.2.2.2.2.1 ((0:Nat)+(Int.toNat x1.1)) (0:Int)))|||(BitVec.ofInt 32 (IntKind.wrap .u32 (IntKind.wrap .u64 ((IntKind.wrap .u64 (List.getD x1.2.2.1 (Int.toNat x1.1) (0:Int)))*((2:Int)^(Min.min (Int.toNat x1.2.2.2.1) 64)))))))):Nat):Int))) ((0:Nat)+(Int.toNat (IntKind.wrap .i64 (x1.1+(1:Int))))) (IntKind.wrap .u32 (Int.fdiv (IntKind.wrap .u64 ((IntKind.wrap .u64 (List.getD x1.2.2.1 (Int.toNat x1.1) (0:Int)))*((2:Int)^(Min.min (Int.toNat x1.2.2.2.1) 64)))) (4294967296:Int)))),()))))))
 else none)
 else none)
 else none)
 else none)
 else none)
 else none))
 else none)
 else none)
 else(some (x1.2.2.2.2.1,())))
def P.i_nat_shifted (k:Nat) (x:((List Int)×(Int×Unit))):(Option ((List Int)×Unit)):=
 (if((decide ((0:Int)≤(IntKind.wrap .i64 (((List.length x.1):Int)+(1:Int)))))=true)then(if((decide ((IntKind.wrap .i64 (((List.length x.1):Int)+(1:Int)))≤(IntKind.wrap .i64 (((List.length x.1):Int)+(1:Int)))))=true)then(if((decide (((IntKind.wrap .i64 (((List.length x.1):Int)+(1:Int)))*(4:Int))≤(281474976710656:Int)))=true)then(loopP (X:=(Int×(Int×((List Int)×(Int×((List Int)×Unit)))))) (R:=((List Int)×Unit)) (P.i_nat_shifted_b0) k ((0:Int),(((List.length x.1):Int),(x.1,(x.2.1,((List.replicate (Int.toNat (IntKind.wrap .i64 (((List.length x.1):Int)+(1:Int)))) (0:Int)),()))))))
 else none)
 else none)
 else none)
def S.i_nat_shifted (x:((List Int)×(Int×Unit))):(Option ((List Int)×Unit)):=if dig B32 x.1=true∧0≤x.2.1∧x.2.1≤31∧x.1.length≤10000000000 then some (fd B32 (x.1.length+1) (dval B32 x.1*2^x.2.1.toNat),())else none
theorem S.i_nat_shifted_ok (x:((List Int)×(Int×Unit))) (r:_) (h:S.i_nat_shifted x=some r):∃k,P.i_nat_shifted k x=some r:=by
 obtain⟨xs,by',u⟩:=x
 unfold S.i_nat_shifted at h
 dsimp only at h
 split at h
 case isFalse=>cases h
 rename_i hc
 obtain⟨hd,hb0,hb1,hl⟩:=hc
 cases h
 obtain⟨s,rfl⟩:∃d:Nat,by'=(d:Int):=⟨by'.toNat,by omega⟩
 rw[Int.toNat_natCast]
 have hs:s≤31:=by omega
 have hpow:0<2^s:=Nat.pow_pos (by decide)
 have hpow32:2^s≤2147483648:=Nat.le_trans (Nat.pow_le_pow_right (by decide) hs) (by decide)
 refine⟨xs.length+1,?_⟩
 unfold P.i_nat_shifted
 dsimp only
 rw[wr (by omega) (by omega)]
 have a1:(0:Int)≤(xs.length:Int)+1:=by omega
 have a3:((xs.length:Int)+1)*4≤281474976710656:=by omega
 rw[if_pos (decide_eq_true a1),if_pos (decide_eq_true (Int.le_refl _)),if_pos (decide_eq_true a3)]
 have e0:List.replicate ((xs.length:Int)+1).toNat (0:Int)=(mulUp B32 (2^s) xs 0).1++(((mulUp B32 (2^s) xs 0).2:Int)::List.replicate (xs.length - 0) 0):=by
  rw[show((xs.length:Int)+1).toNat=xs.length+1 by omega,List.replicate_succ]
  rfl
 rw[e0]
 have key:=loop_up0 (k:=xs.length+1) (b:=P.i_nat_shifted_b0) (n:=xs.length) (st:=fun i=>((i:Int),(xs.length:Int),xs,(s:Int),(mulUp B32 (2^s) xs i).1++(((mulUp B32 (2^s) xs i).2:Int)::List.replicate (xs.length - i) 0),())) (F:=fun i=>some (fd B32 (xs.length+1) (dval B32 xs*2^s),())) (fun i g hi hg=>by
  unfold P.i_nat_shifted_b0
  dsimp only at hg ⊢
  obtain⟨q1,q2,q3,q4⟩:=mulUp_ok (d:=2^s) B32_le hd i (by omega)
  have hlen:((mulUp B32 (2^s) xs i).1++(((mulUp B32 (2^s) xs i).2:Int)::List.replicate (xs.length - i) 0)).length=xs.length+1:=by rw[List.length_append,q2,List.length_cons,List.length_replicate];omega
  have e1:(i:Int)<(xs.length:Int):=by omega
  have e2:(0:Int)≤(i:Int):=by omega
  have e3:(i:Int)<((xs.length+1:Nat):Int):=by omega
  have e4:¬((s:Int)<0):=by omega
  rw[hlen]
  simp only[e1,e2,e3,e4,decide_true,decide_false,if_true,Nat.zero_add,Int.toNat_natCast,List.length_set,hlen,Bool.false_eq_true,if_false]
  rw[wr (x:=(i:Int)+1) (by omega) (by omega)]
  have e5:(0:Int)≤(i:Int)+1:=by omega
  have e6:(i:Int)+1<((xs.length+1:Nat):Int):=by omega
  simp only[e5,e6,decide_true,if_true]
  have hgD:xs.getD i 0=xs[i]:=by simp [hi]
  have hx:=dig_get hd hi
  have hx1:xs[i]<4294967296:=hx.2
  have hx0:=hx.1
  rw[mulUp,hgD]at hg
  rw[hgD]
  have hcar:(mulUp B32 (2^s) xs i).2<2^s:=by
   have h1:dval B32 (xs.take i)<B32^i:=by
    have h0:dig B32 (xs.take i)=true:=by
     have:=List.take_append_drop i xs
     rw[←this,dig_append,Bool.and_eq_true]at hd
     exact hd.1
    have:=dval_lt h0
    rwa [show(xs.take i).length=i by simp;omega]at this
   have h2:dval B32 (xs.take i)*2^s<B32^i*2^s:=Nat.mul_lt_mul_of_pos_right h1 hpow
   exact Nat.lt_of_mul_lt_mul_left (a:=B32^i) (by omega)
  generalize hP:mulUp B32 (2^s) xs i=p at*
  obtain⟨z,hz⟩:∃z:Nat,xs[i]=(z:Int):=⟨xs[i].toNat,(Int.toNat_of_nonneg hx0).symm⟩
  rw[hz]at hx1 hg ⊢
  rw[Int.toNat_natCast]at hg
  have hz32:z<2^32:=by omega
  have hzp:z*2^s<18446744073709551616:=Nat.lt_of_lt_of_le (Nat.mul_lt_mul_of_pos_right hz32 hpow) (by have:=Nat.mul_le_mul_left (2^32) hpow32;omega)
  have emin:Min.min s 64=s:=by omega
  have ep:((2:Int)^s)=((2^s:Nat):Int):=by rw[Int.natCast_pow];rfl
  have em:(z:Int)*((2^s:Nat):Int)=((z*2^s:Nat):Int):=(Int.natCast_mul _ _).symm
  rw[wu (x:=(z:Int)) (by omega) (by omega),emin,ep,em,wu (x:=((z*2^s:Nat):Int)) (by omega) (by omega)]
  have g1:(p.1++((p.2:Int)::List.replicate (xs.length - i) 0)).getD i 0=(p.2:Int):=by
   rw[List.getD_eq_getElem?_getD,List.getElem?_append_right (by omega),q2,Nat.sub_self]
   rfl
  rw[g1,u32_mod ((z*2^s:Nat):Int) (by omega)]
  have e7:((z*2^s:Nat):Int)%4294967296=((z*2^s%2^32:Nat):Int):=by
   show _=((z*2^s%4294967296:Nat):Int)
   omega
  have hlow:=shl_low z s (by omega)
  have hor:p.2|||(z*2^s%2^32)=p.2+z*2^s%2^32:=by rw[hlow,or_apart _ _ _ hcar]
  have hmlt:z*2^s%2^32<2^32:=Nat.mod_lt _ (by decide)
  have hsum:p.2+z*2^s%2^32<2^32:=by
   have h1:z%2^(32 - s)+1≤2^(32 - s):=Nat.mod_lt _ (Nat.pow_pos (by decide))
   have h2:2^s*(z%2^(32 - s)+1)≤2^s*2^(32 - s):=Nat.mul_le_mul_left _ h1
   rw[←Nat.pow_add,show s+(32 - s)=32 by omega,Nat.mul_add]at h2
   omega
  rw[e7,bv_or _ _ (by omega) hmlt,hor,w32 (by omega) (by omega),Int.fdiv_eq_ediv_of_nonneg _ (by omega)]
  have hq:z*2^s/4294967296<4294967296:=(Nat.div_lt_iff_lt_mul (by decide)).2 (by omega)
  have e8:((z*2^s:Nat):Int)/4294967296=((z*2^s/4294967296:Nat):Int):=by omega
  rw[e8,w32 (by omega) (by omega)]
  have e9:(z*2^s+p.2)%B32=p.2+z*2^s%2^32:=by
   show(z*2^s+p.2)%4294967296=p.2+z*2^s%4294967296
   omega
  have e10:(z*2^s+p.2)/B32=z*2^s/4294967296:=by
   show(z*2^s+p.2)/4294967296=_
   omega
  rw[e9,e10]at hg
  have z1:xs.length - i=(xs.length - (i+1))+1:=by omega
  rw[z1,List.replicate_succ,List.set_append_right _ _ (by omega),q2,Nat.sub_self,List.set_cons_zero,List.set_append_right _ _ (by omega),q2,show((i:Int)+1).toNat - i=1 by omega,List.set_cons_succ,List.set_cons_zero]
  rw[List.append_assoc]at hg
  exact hg) (fun g=>by
  unfold P.i_nat_shifted_b0
  dsimp only
  obtain⟨q1,q2,q3,q4⟩:=mulUp_ok (d:=2^s) B32_le hd xs.length (Nat.le_refl _)
  rw[List.take_length]at q3
  have hcar:(mulUp B32 (2^s) xs xs.length).2<2^s:=by
   have h2:dval B32 xs*2^s<B32^xs.length*2^s:=Nat.mul_lt_mul_of_pos_right (dval_lt hd) hpow
   exact Nat.lt_of_mul_lt_mul_left (a:=B32^xs.length) (by omega)
  rw[if_neg (by simp),Nat.sub_self]
  generalize mulUp B32 (2^s) xs xs.length=p at*
  have hdd:dig B32 (p.1++[(p.2:Int)])=true:=by
   rw[dig_append,q1,Bool.true_and,dig_cons]
   refine⟨⟨Int.natCast_nonneg _,?_⟩,rfl⟩
   show(p.2:Int)<4294967296
   omega
  have:=fd_dval (B:=B32) (by decide) hdd
  rw[dval_append,q2,show dval B32 [(p.2:Int)]=p.2 by simp [dval],q3,List.length_append,q2]at this
  show some (p.1++[(p.2:Int)],())=_
  rw[←this]
  rfl) (by omega)
 exact key
abbrev P.i_takeAway_b3 (x4:(Int×(Int×(Int×((List Int)×((List Int)×Unit)))))) (g5:(Int×(Int×(Int×((List Int)×((List Int)×Unit)))))→Option (Bool×((List Int)×Unit))):Option (Bool×((List Int)×Unit)):=
 (if((decide (x4.1<x4.2.1))=true)then(if((decide ((0:Int)≤x4.1))=true)then(if((decide (x4.1<((List.length x4.2.2.2.1):Int)))=true)then(if((decide (x4.1<((List.length x4.2.2.2.2.1):Int)))=true)then(if((decide ((0:Int)≤x4.1))=true)then(if((decide (x4.1<((List.length x4.2.2.2.2.1):Int)))=true)then(if((decide ((0:Int)≤x4.1))=true)then(if((decide (x4.1<((List.length x4.2.2.2.1):Int)))=true)then(g5 ((IntKind.wrap .i64 (x4.1+(1:Int))),(x4.2.1,((Int.fdiv (IntKind.wrap .u64 ((IntKind.wrap .u64 (x4.2.2.1+(IntKind.wrap .u64 (List.getD x4.2.2.2.1 ((0:Nat)+(Int.toNat x4.1)) (0:Int)))))+(IntKind.wrap .u64 (List.getD x4.2.2.2.2.1 (Int.toNat x4.1) (0:Int))))) (4294967296:Int)),((List.set x4.2.2.2.1 ((0:Nat)+(Int.toNat x4.1)) (IntKind.wrap .u32 (IntKind.wrap .u64 ((IntKind.wrap .u64 (x4.2.2.1+(IntKind.wrap .u64 (List.getD x4.2.2.2.1 ((0:Nat)+(Int.toNat x4.1)) (0:Int)))))+(IntKind.wrap .u64 (List.getD x4.2.2.2.2.1 (Int.toNat x4.1) (0:Int))))))),(x4.2.2.2.2.1,()))))))
 else none)
 else none)
 else none)
 else none)
 else(if((decide ((0:Int)≤x4.1))=true)then(if((decide (x4.1<((List.length x4.2.2.2.1):Int)))=true)then(g5 ((IntKind.wrap .i64 (x4.1+(1:Int))),(x4.2.1,((Int.fdiv (IntKind.wrap .u64 (x4.2.2.1+(IntKind.wrap .u64 (List.getD x4.2.2.2.1 ((0:Nat)+(Int.toNat x4.1)) (0:Int))))) (4294967296:Int)),((List.set x4.2.2.2.1 ((0:Nat)+(Int.toNat x4.1)) (IntKind.wrap .u32 (IntKind.wrap .u64 (x4.2.2.1+(IntKind.wrap .u64 (List.getD x4.2.2.2.1 ((0:Nat)+(Int.toNat x4.1)) (0:Int))))))),(x4.2.2.2.2.1,()))))))
 else none)
 else none))
 else none)
 else none)
 else(some (true,(x4.2.2.2.1,()))))
abbrev P.i_takeAway_b6 (x7:(Int×(Int×(Int×((List Int)×((List Int)×Unit)))))) (g8:(Int×(Int×(Int×((List Int)×((List Int)×Unit)))))→Option (Bool×((List Int)×Unit))):Option (Bool×((List Int)×Unit)):=
 (if((decide (x7.1<x7.2.1))=true)then(if((decide ((0:Int)≤x7.1))=true)then(if((decide (x7.1<((List.length x7.2.2.2.1):Int)))=true)then(if((decide (x7.1<((List.length x7.2.2.2.2.1):Int)))=true)then(if((decide ((0:Int)≤x7.1))=true)then(if((decide (x7.1<((List.length x7.2.2.2.2.1):Int)))=true)then(if((decide ((0:Int)≤x7.1))=true)then(if((decide (x7.1<((List.length x7.2.2.2.1):Int)))=true)then(g8 ((IntKind.wrap .i64 (x7.1+(1:Int))),(x7.2.1,((Int.fdiv (IntKind.wrap .u64 ((IntKind.wrap .u64 (x7.2.2.1+(IntKind.wrap .u64 (List.getD x7.2.2.2.1 ((0:Nat)+(Int.toNat x7.1)) (0:Int)))))+(IntKind.wrap .u64 (List.getD x7.2.2.2.2.1 (Int.toNat x7.1) (0:Int))))) (4294967296:Int)),((List.set x7.2.2.2.1 ((0:Nat)+(Int.toNat x7.1)) (IntKind.wrap .u32 (IntKind.wrap .u64 ((IntKind.wrap .u64 (x7.2.2.1+(IntKind.wrap .u64 (List.getD x7.2.2.2.1 ((0:Nat)+(Int.toNat x7.1)) (0:Int)))))+(IntKind.wrap .u64 (List.getD x7.2.2.2.2.1 (Int.toNat x7.1) (0:Int))))))),(x7.2.2.2.2.1,()))))))
 else none)
 else none)
 else none)
 else none)
 else(if((decide ((0:Int)≤x7.1))=true)then(if((decide (x7.1<((List.length x7.2.2.2.1):Int)))=true)then(g8 ((IntKind.wrap .i64 (x7.1+(1:Int))),(x7.2.1,((Int.fdiv (IntKind.wrap .u64 (x7.2.2.1+(IntKind.wrap .u64 (List.getD x7.2.2.2.1 ((0:Nat)+(Int.toNat x7.1)) (0:Int))))) (4294967296:Int)),((List.set x7.2.2.2.1 ((0:Nat)+(Int.toNat x7.1)) (IntKind.wrap .u32 (IntKind.wrap .u64 (x7.2.2.1+(IntKind.wrap .u64 (List.getD x7.2.2.2.1 ((0:Nat)+(Int.toNat x7.1)) (0:Int))))))),(x7.2.2.2.2.1,()))))))
 else none)
 else none))
 else none)
 else none)
 else(some (true,(x7.2.2.2.1,()))))
abbrev P.i_takeAway_b0 (k:Nat) (x1:(Int×(Int×((List Int)×(Int×(Int×((List Int)×(Int×Unit)))))))) (g2:(Int×(Int×((List Int)×(Int×(Int×((List Int)×(Int×Unit)))))))→Option (Bool×((List Int)×Unit))):Option (Bool×((List Int)×Unit)):=
 (if((decide (x1.1<x1.2.1))=true)then(if((decide (x1.1<((List.length x1.2.2.1):Int)))=true)then(if((decide ((0:Int)≤x1.1))=true)then(if((decide (x1.1<((List.length x1.2.2.1):Int)))=true)then(if((decide ((0:Int)≤x1.1))=true)then(if((decide (x1.1<((List.length x1.2.2.2.2.2.1):Int)))=true)then(if((decide ((IntKind.wrap .i64 ((IntKind.wrap .i64 ((IntKind.wrap .i64 (List.getD x1.2.2.2.2.2.1 ((0:Nat)+(Int.toNat x1.1)) (0:Int))) - (IntKind.wrap .i64 (IntKind.wrap .u32 (IntKind.wrap .u64 (x1.2.2.2.1+(IntKind.wrap .u64 (x1.2.2.2.2.1*(IntKind.wrap .u64 (List.getD x1.2.2.1 (Int.toNat x1.1) (0:Int))))))))))) - x1.2.2.2.2.2.2.1))<(0:Int)))=true)then(if((decide ((0:Int)≤x1.1))=true)then(if((decide (x1.1<((List.length x1.2.2.2.2.2.1):Int)))=true)then(g2 ((IntKind.wrap .i64 (x1.1+(1:Int))),(x1.2.1,(x1.2.2.1,((Int.fdiv (IntKind.wrap .u64 (x1.2.2.2.1+(IntKind.wrap .u64 (x1.2.2.2.2.1*(IntKind.wrap .u64 (List.getD x1.2.2.1 (Int.toNat x1.1) (0:Int))))))) (4294967296:Int)),(x1.2.2.2.2.1,((List.set x1.2.2.2.2.2.1 ((0:Nat)+(Int.toNat x1.1)) (IntKind.wrap .u32 (IntKind.wrap .i64 ((IntKind.wrap .i64 ((IntKind.wrap .i64 (List.getD x1.2.2.2.2.2.1 ((0:Nat)+(Int.toNat x1.1)) (0:Int))) - (IntKind.wrap .i64 (IntKind.wrap .u32 (IntKind.wrap .u64 (x1.2.2.2.1+(IntKind.wrap .u64 (x1.2.2.2.2.1*(IntKind.wrap .u64 (List.getD x1.2.2.1 (Int.toNat x1.1) (0:Int))))))))))) - x1.2.2.2.2.2.2.1)))),((1:Int),()))))))))
 else none)
 else none)
 else(if((decide ((0:Int)≤x1.1))=true)then(if((decide (x1.1<((List.length x1.2.2.2.2.2.1):Int)))=true)then(g2 ((IntKind.wrap .i64 (x1.1+(1:Int))),(x1.2.1,(x1.2.2.1,((Int.fdiv (IntKind.wrap .u64 (x1.2.2.2.1+(IntKind.wrap .u64 (x1.2.2.2.2.1*(IntKind.wrap .u64 (List.getD x1.2.2.1 (Int.toNat x1.1) (0:Int))))))) (4294967296:Int)),(x1.2.2.2.2.1,((List.set x1.2.2.2.2.2.1 ((0:Nat)+(Int.toNat x1.1)) (IntKind.wrap .u32 (IntKind.wrap .i64 ((IntKind.wrap .i64 ((IntKind.wrap .i64 (List.getD x1.2.2.2.2.2.1 ((0:Nat)+(Int.toNat x1.1)) (0:Int))) - (IntKind.wrap .i64 (IntKind.wrap .u32 (IntKind.wrap .u64 (x1.2.2.2.1+(IntKind.wrap .u64 (x1.2.2.2.2.1*(IntKind.wrap .u64 (List.getD x1.2.2.1 (Int.toNat x1.1) (0:Int))))))))))) - x1.2.2.2.2.2.2.1)))),((0:Int),()))))))))
 else none)
 else none))
 else none)
 else none)
 else none)
 else none)
 else(if((decide ((0:Int)≤x1.1))=true)then(if((decide (x1.1<((List.length x1.2.2.2.2.2.1):Int)))=true)then(if((decide ((IntKind.wrap .i64 ((IntKind.wrap .i64 ((IntKind.wrap .i64 (List.getD x1.2.2.2.2.2.1 ((0:Nat)+(Int.toNat x1.1)) (0:Int))) - (IntKind.wrap .i64 (IntKind.wrap .u32 x1.2.2.2.1)))) - x1.2.2.2.2.2.2.1))<(0:Int)))=true)then(if((decide ((0:Int)≤x1.1))=true)then(if((decide (x1.1<((List.length x1.2.2.2.2.2.1):Int)))=true)then(g2 ((IntKind.wrap .i64 (x1.1+(1:Int))),(x1.2.1,(x1.2.2.1,((Int.fdiv x1.2.2.2.1 (4294967296:Int)),(x1.2.2.2.2.1,((List.set x1.2.2.2.2.2.1 ((0:Nat)+(Int.toNat x1.1)) (IntKind.wrap .u32 (IntKind.wrap .i64 ((IntKind.wrap .i64 ((IntKind.wrap .i64 (List.getD x1.2.2.2.2.2.1 ((0:Nat)+(Int.toNat x1.1)) (0:Int))) - (IntKind.wrap .i64 (IntKind.wrap .u32 x1.2.2.2.1)))) - x1.2.2.2.2.2.2.1)))),((1:Int),()))))))))
 else none)
 else none)
 else(if((decide ((0:Int)≤x1.1))=true)then(if((decide (x1.1<((List.length x1.2.2.2.2.2.1):Int)))=true)then(g2 ((IntKind.wrap .i64 (x1.1+(1:Int))),(x1.2.1,(x1.2.2.1,((Int.fdiv x1.2.2.2.1 (4294967296:Int)),(x1.2.2.2.2.1,((List.set x1.2.2.2.2.2.1 ((0:Nat)+(Int.toNat x1.1)) (IntKind.wrap .u32 (IntKind.wrap .i64 ((IntKind.wrap .i64 ((IntKind.wrap .i64 (List.getD x1.2.2.2.2.2.1 ((0:Nat)+(Int.toNat x1.1)) (0:Int))) - (IntKind.wrap .i64 (IntKind.wrap .u32 x1.2.2.2.1)))) - x1.2.2.2.2.2.2.1)))),((0:Int),()))))))))
 else none)
 else none))
 else none)
 else none))
 else(if((x1.2.2.2.2.2.2.1==(0:Int))=true)then(if((x1.2.2.2.1==(0:Int))=true)then(some (false,(x1.2.2.2.2.2.1,())))
 else(loopP (X:=(Int×(Int×(Int×((List Int)×((List Int)×Unit)))))) (R:=(Bool×((List Int)×Unit))) (P.i_takeAway_b3) k ((0:Int),(((List.length x1.2.2.2.2.2.1):Int),((0:Int),(x1.2.2.2.2.2.1,(x1.2.2.1,())))))))
 else(loopP (X:=(Int×(Int×(Int×((List Int)×((List Int)×Unit)))))) (R:=(Bool×((List Int)×Unit))) (P.i_takeAway_b6) k ((0:Int),(((List.length x1.2.2.2.2.2.1):Int),((0:Int),(x1.2.2.2.2.2.1,(x1.2.2.1,()))))))))
def P.i_takeAway (k:Nat) (x:((List Int)×((List Int)×(Int×Unit)))):(Option (Bool×((List Int)×Unit))):=
 (loopP (X:=(Int×(Int×((List Int)×(Int×(Int×((List Int)×(Int×Unit)))))))) (R:=(Bool×((List Int)×Unit))) (P.i_takeAway_b0 k) k ((0:Int),(((List.length x.1):Int),(x.2.1,((0:Int),(x.2.2.1,(x.1,((0:Int),()))))))))
theorem takeBack (b:(Int×(Int×(Int×((List Int)×((List Int)×Unit)))))→((Int×(Int×(Int×((List Int)×((List Int)×Unit)))))→Option (Bool×((List Int)×Unit)))→Option (Bool×((List Int)×Unit))) (hb:b=P.i_takeAway_b3)
  (xs ys:List Int) (hx:dig B32 xs=true) (hy:dig B32 ys=true) (hl:ys.length≤xs.length) (hbig:xs.length≤100000000000):
  loopP b (xs.length+1) ((0:Int),((xs.length:Int),((0:Int),(xs,(ys,())))))=some (true,fd B32 xs.length (dval B32 xs+dval B32 ys),()):=by
 subst hb
 have key:=loop_up0 (k:=xs.length+1) (b:=P.i_takeAway_b3) (n:=xs.length) (st:=fun i=>((i:Int),(xs.length:Int),((addUp B32 xs ys i).2:Int),(addUp B32 xs ys i).1++xs.drop i,ys,())) (F:=fun i=>some (true,fd B32 xs.length (dval B32 xs+dval B32 ys),())) (fun i g hi hg=>by
  unfold P.i_takeAway_b3
  dsimp only at hg ⊢
  obtain⟨q1,q2,q3,q4⟩:=addUp_ok B32_le hx hy i
  have gx:=dig_getD (B:=B32) (by decide) hx i
  have gy:=dig_getD (B:=B32) (by decide) hy i
  have gx1:xs.getD i 0<4294967296:=gx.2
  have gy1:ys.getD i 0<4294967296:=gy.2
  have gx0:=gx.1
  have gy0:=gy.1
  have hlen:((addUp B32 xs ys i).1++xs.drop i).length=xs.length:=by rw[List.length_append,q2,List.length_drop];omega
  have e1:(i:Int)<(xs.length:Int):=by omega
  have e2:(0:Int)≤(i:Int):=by omega
  rw[hlen]
  simp only[e1,e2,decide_true,if_true,Nat.zero_add,Int.toNat_natCast]
  rw[drop_cons_getD hi,mid_get q2]
  simp only[mid_set q2]
  have hnat:∀n:Nat,n=(addUp B32 xs ys i).2+(xs.getD i 0).toNat+(ys.getD i 0).toNat→(((n%B32:Nat):Int)=(n:Int)%4294967296∧((n/B32:Nat):Int)=(n:Int)/4294967296):=by
   intro n _
   constructor
   ·show((n%4294967296:Nat):Int)=_;omega
   ·show((n/4294967296:Nat):Int)=_;omega
  obtain⟨n1,n2⟩:=hnat _ rfl
  rw[addUp]at hg
  dsimp only at hg
  rw[n1,n2]at hg
  by_cases hj:(i:Int)<(ys.length:Int)
  ·rw[if_pos (decide_eq_true hj),if_pos (decide_eq_true hj)]
   rw[wu (x:=xs.getD i 0) (by omega) (by omega),wu (x:=ys.getD i 0) (by omega) (by omega),wu (x:=((addUp B32 xs ys i).2:Int)+xs.getD i 0) (by omega) (by omega),wu (x:=((addUp B32 xs ys i).2:Int)+xs.getD i 0+ys.getD i 0) (by omega) (by omega),u32_mod _ (by omega),Int.fdiv_eq_ediv_of_nonneg _ (by omega),wr (by omega) (by omega)]
   have e:(((addUp B32 xs ys i).2+(xs.getD i 0).toNat+(ys.getD i 0).toNat:Nat):Int)=((addUp B32 xs ys i).2:Int)+xs.getD i 0+ys.getD i 0:=by omega
   rw[e]at hg
   exact hg
  ·rw[if_neg (by simpa using hj)]
   have y0:ys.getD i 0=0:=by rw[List.getD_eq_getElem?_getD,List.getElem?_eq_none (by omega)];rfl
   rw[wu (x:=xs.getD i 0) (by omega) (by omega),wu (x:=((addUp B32 xs ys i).2:Int)+xs.getD i 0) (by omega) (by omega),u32_mod _ (by omega),Int.fdiv_eq_ediv_of_nonneg _ (by omega),wr (by omega) (by omega)]
   have e:(((addUp B32 xs ys i).2+(xs.getD i 0).toNat+(ys.getD i 0).toNat:Nat):Int)=((addUp B32 xs ys i).2:Int)+xs.getD i 0:=by omega
   rw[e]at hg
   exact hg) (fun g=>by
  unfold P.i_takeAway_b3
  dsimp only
  rw[if_neg (by simp),List.drop_length,List.append_nil,addUp_fd B32_le hx hy hl]) (by omega)
 have e0:(addUp B32 xs ys 0).1++xs.drop 0=xs:=rfl
 rw[e0]at key
 exact key
def S.i_takeAway (x:((List Int)×((List Int)×(Int×Unit)))):(Option (Bool×((List Int)×Unit))):=
 if dig B32 x.1=true∧dig B32 x.2.1=true∧0≤x.2.2.1∧x.2.2.1<4294967296∧x.2.1.length≤x.1.length∧x.1.length≤10000000000∧dval B32 x.2.1*x.2.2.1.toNat≤dval B32 x.1+dval B32 x.2.1 then
  (if dval B32 x.2.1*x.2.2.1.toNat≤dval B32 x.1 then some (false,fd B32 x.1.length (dval B32 x.1 - dval B32 x.2.1*x.2.2.1.toNat),())
   else some (true,fd B32 x.1.length (dval B32 x.1+dval B32 x.2.1 - dval B32 x.2.1*x.2.2.1.toNat),()))else none
theorem S.i_takeAway_ok (x:((List Int)×((List Int)×(Int×Unit)))) (r:_) (h:S.i_takeAway x=some r):∃k,P.i_takeAway k x=some r:=by
 obtain⟨xs,ys,t',u⟩:=x
 unfold S.i_takeAway at h
 dsimp only at h
 split at h
 case isFalse=>cases h
 rename_i hc
 obtain⟨hx,hy,ht0,ht1,hl,hbig,hfit⟩:=hc
 obtain⟨t,rfl⟩:∃d:Nat,t'=(d:Int):=⟨t'.toNat,by omega⟩
 rw[Int.toNat_natCast]at h hfit
 have ht:t≤4294967295:=by omega
 refine⟨xs.length+1,?_⟩
 rw[←h]
 unfold P.i_takeAway
 dsimp only
 have key:=loop_up0 (k:=xs.length+1) (b:=P.i_takeAway_b0 (xs.length+1)) (n:=xs.length) (st:=fun i=>((i:Int),(xs.length:Int),ys,((takeUp B32 t xs ys i).2.1:Int),(t:Int),(takeUp B32 t xs ys i).1++xs.drop i,((takeUp B32 t xs ys i).2.2:Int),())) (F:=fun i=>(if dval B32 ys*t≤dval B32 xs then some (false,fd B32 xs.length (dval B32 xs - dval B32 ys*t),())
   else some (true,fd B32 xs.length (dval B32 xs+dval B32 ys - dval B32 ys*t),()))) (fun i g hi hg=>by
  unfold P.i_takeAway_b0
  dsimp only at hg ⊢
  obtain⟨q1,q2,q3,q4,q5⟩:=takeUp_ok (t:=t) B32_le hx hy i
  have gx:=dig_getD (B:=B32) (by decide) hx i
  have gy:=dig_getD (B:=B32) (by decide) hy i
  have gx1:xs.getD i 0<4294967296:=gx.2
  have gy1:ys.getD i 0<4294967296:=gy.2
  have gx0:=gx.1
  have gy0:=gy.1
  have hlen:((takeUp B32 t xs ys i).1++xs.drop i).length=xs.length:=by rw[List.length_append,q2,List.length_drop];omega
  have e1:(i:Int)<(xs.length:Int):=by omega
  have e2:(0:Int)≤(i:Int):=by omega
  rw[hlen]
  simp only[e1,e2,decide_true,if_true,Nat.zero_add,Int.toNat_natCast]
  rw[drop_cons_getD hi,mid_get q2]
  simp only[mid_set q2]
  rw[takeUp]at hg
  dsimp only at hg
  have y0:¬((i:Int)<(ys.length:Int))→ys.getD i 0=0:=by
   intro hj
   rw[List.getD_eq_getElem?_getD,List.getElem?_eq_none (by omega)]
   rfl
  generalize xs.getD i 0=x at*
  generalize ys.getD i 0=y at*
  generalize takeUp B32 t xs ys i=p at*
  obtain⟨pl,c0,l0⟩:=p
  dsimp only at*
  obtain⟨Y,rfl⟩:∃Y:Nat,y=(Y:Int):=⟨y.toNat,by omega⟩
  rw[Int.toNat_natCast]at hg
  have htY:t*Y≤4294967295*4294967295:=Nat.mul_le_mul ht (by omega)
  have em:(t:Int)*(Y:Int)=((t*Y:Nat):Int):=(Int.natCast_mul _ _).symm
  have fin:∀c:Nat,c=c0+t*Y→(let n:=IntKind.wrap .i64 (IntKind.wrap .i64 (IntKind.wrap .i64 x - IntKind.wrap .i64 (IntKind.wrap .u32 (c:Int))) - (l0:Int))
    (if decide (n<0)=true then g (IntKind.wrap .i64 ((i:Int)+1),(xs.length:Int),ys,Int.fdiv (c:Int) 4294967296,(t:Int),(pl++[IntKind.wrap .u32 n])++xs.drop (i+1),1,())
     else g (IntKind.wrap .i64 ((i:Int)+1),(xs.length:Int),ys,Int.fdiv (c:Int) 4294967296,(t:Int),(pl++[IntKind.wrap .u32 n])++xs.drop (i+1),0,()))=(if dval B32 ys*t≤dval B32 xs then some (false,fd B32 xs.length (dval B32 xs - dval B32 ys*t),())
   else some (true,fd B32 xs.length (dval B32 xs+dval B32 ys - dval B32 ys*t),()))):=by
   intro c hcc
   rw[←hcc]at hg
   have e8:(c:Int)%4294967296=((c%B32:Nat):Int):=by
    show _=((c%4294967296:Nat):Int)
    omega
   have e9:Int.fdiv (c:Int) 4294967296=((c/B32:Nat):Int):=by
    rw[Int.fdiv_eq_ediv_of_nonneg _ (by omega)]
    show _=((c/4294967296:Nat):Int)
    omega
   have e10:c%B32<4294967296:=Nat.mod_lt _ (by decide)
   rw[u32_mod (c:Int) (by omega),e8,e9,wr (x:=(i:Int)+1) (by omega) (by omega),wr (x:=x) (by omega) (by omega),wr (x:=((c%B32:Nat):Int)) (by omega) (by omega),wr (x:=x - ((c%B32:Nat):Int)) (by omega) (by omega),wr (x:=x - ((c%B32:Nat):Int) - (l0:Int)) (by omega) (by omega)]
   dsimp only
   rw[u32_emod]
   by_cases hn:x - ((c%B32:Nat):Int) - (l0:Int)<0
   ·rw[if_pos hn]at hg
    rw[if_pos (decide_eq_true hn)]
    exact hg
   ·rw[if_neg hn]at hg
    rw[if_neg (by simpa using hn)]
    exact hg
  by_cases hj:(i:Int)<(ys.length:Int)
  ·simp only[hj,decide_true,if_true]
   rw[wu (x:=(Y:Int)) (by omega) (by omega),em,wu (x:=((t*Y:Nat):Int)) (by omega) (by omega),←Int.natCast_add,wu (x:=((c0+t*Y:Nat):Int)) (by omega) (by omega)]
   exact fin _ rfl
  ·rw[if_neg (by simpa using hj)]
   have hY:Y=0:=by have:=y0 hj;omega
   subst hY
   exact fin c0 rfl) (fun g=>by
  unfold P.i_takeAway_b0
  dsimp only
  obtain⟨q1,q2,q3,q4,q5⟩:=takeUp_ok (t:=t) B32_le hx hy xs.length
  rw[List.take_length,List.take_of_length_le hl]at q3
  rw[if_neg (by simp),List.drop_length,List.append_nil]
  generalize takeUp B32 t xs ys xs.length=p at*
  obtain⟨pl,c0,l0⟩:=p
  dsimp only at*
  have hlt:=dval_lt q1
  rw[q2]at hlt
  have hback:∀b,b=P.i_takeAway_b3→0<c0+l0→loopP b (xs.length+1) ((0:Int),((pl.length:Int),((0:Int),(pl,(ys,())))))=(if dval B32 ys*t≤dval B32 xs then some (false,fd B32 xs.length (dval B32 xs - dval B32 ys*t),())
   else some (true,fd B32 xs.length (dval B32 xs+dval B32 ys - dval B32 ys*t),())):=by
   intro b hb hpos
   have hge:B32^xs.length*1≤B32^xs.length*(c0+l0):=Nat.mul_le_mul_left _ hpos
   rw[if_neg (by omega)]
   have:=takeBack b hb pl ys q1 hy (by omega) (by omega)
   rw[q2]at this
   rw[q2,this]
   congr 2
   have e1:dval B32 pl+dval B32 ys=(dval B32 xs+dval B32 ys - dval B32 ys*t)+B32^xs.length*(c0+l0):=by omega
   rw[e1,←fd_mod B32 xs.length (_+_),Nat.add_mul_mod_self_left,fd_mod]
  by_cases hl0:l0=0
  ·subst hl0
   rw[if_pos (by rfl)]
   by_cases hc0:c0=0
   ·subst hc0
    rw[if_pos (by rfl),if_pos (by omega)]
    congr 2
    have:pl=fd B32 xs.length (dval B32 xs - dval B32 ys*t):=fd_eq B32_le q1 q2 (by omega)
    rw[this]
   ·rw[if_neg (by simp;omega)]
    exact hback _ rfl (by omega)
  ·rw[if_neg (by simp;omega)]
   exact hback _ rfl (by omega)) (by omega)
 exact key
abbrev P.i_nat_div_b21 (g20:((Int×((List Int)×((List Int)×(Int×(Int×((List Int)×(Int×Unit)))))))→(Option (((List Int)×(List Int))×Unit)))) (x22:(Int×(Int×(Int×((List Int)×(Int×(Int×(Int×((List Int)×((List Int)×(Int×Unit))))))))))) (g23:(Int×(Int×(Int×((List Int)×(Int×(Int×(Int×((List Int)×((List Int)×(Int×Unit))))))))))→Option (((List Int)×(List Int))×Unit)):Option (((List Int)×(List Int))×Unit):=
 (if((decide (x22.1≥(4294967296:Int)))=true)then(if((decide ((IntKind.wrap .u64 (x22.2.2.1+x22.2.2.2.2.2.1))≥(4294967296:Int)))=true)then(if((decide ((0:Int)≤(IntKind.wrap .i64 (x22.2.2.2.2.1+(1:Int)))))=true)then(if((decide (((IntKind.wrap .i64 (x22.2.2.2.2.1+(1:Int)))+(0:Int))≤((List.length x22.2.2.2.1):Int)))=true)then(if((decide ((0:Int)≤x22.2.2.2.2.2.2.1))=true)then(if((decide (x22.2.2.2.2.2.2.1≤(IntKind.wrap .i64 (x22.2.2.2.2.1+(1:Int)))))=true)then(Option.bind (S.i_takeAway ((seen x22.2.2.2.1 ((0:Nat)+(Int.toNat x22.2.2.2.2.2.2.1)) ((Int.toNat (IntKind.wrap .i64 (x22.2.2.2.2.1+(1:Int)))) - (Int.toNat x22.2.2.2.2.2.2.1))),(x22.2.2.2.2.2.2.2.1,((IntKind.wrap .u64 (x22.1 - (1:Int))),())))) (fun(y24:(Bool×((List Int)×Unit)))=>(if(y24.1=true)then(if((decide ((0:Int)≤x22.2.2.2.2.2.2.1))=true)then(if((decide (x22.2.2.2.2.2.2.1<((List.length x22.2.2.2.2.2.2.2.2.1):Int)))=true)then(g20 ((IntKind.wrap .i64 (x22.2.2.2.2.2.2.1 - (1:Int))),(x22.2.2.2.2.2.2.2.1,((splice x22.2.2.2.1 y24.2.1 ((0:Nat)+(Int.toNat x22.2.2.2.2.2.2.1))),(x22.2.2.2.2.2.1,(x22.2.1,((List.set x22.2.2.2.2.2.2.2.2.1 ((0:Nat)+(Int.toNat x22.2.2.2.2.2.2.1)) (IntKind.wrap .u32 (IntKind.wrap .u64 ((IntKind.wrap .u64 (x22.1 - (1:Int))) - (1:Int))))),(x22.2.2.2.2.2.2.2.2.2.1,()))))))))
 else none)
 else none)
 else(if((decide ((0:Int)≤x22.2.2.2.2.2.2.1))=true)then(if((decide (x22.2.2.2.2.2.2.1<((List.length x22.2.2.2.2.2.2.2.2.1):Int)))=true)then(g20 ((IntKind.wrap .i64 (x22.2.2.2.2.2.2.1 - (1:Int))),(x22.2.2.2.2.2.2.2.1,((splice x22.2.2.2.1 y24.2.1 ((0:Nat)+(Int.toNat x22.2.2.2.2.2.2.1))),(x22.2.2.2.2.2.1,(x22.2.1,((List.set x22.2.2.2.2.2.2.2.2.1 ((0:Nat)+(Int.toNat x22.2.2.2.2.2.2.1)) (IntKind.wrap .u32 (IntKind.wrap .u64 (x22.1 - (1:Int))))),(x22.2.2.2.2.2.2.2.2.2.1,()))))))))
 else none)
 else none))))
 else none)
 else none)
 else none)
 else none)
 else(g23 ((IntKind.wrap .u64 (x22.1 - (1:Int))),(x22.2.1,((IntKind.wrap .u64 (x22.2.2.1+x22.2.2.2.2.2.1)),(x22.2.2.2.1,(x22.2.2.2.2.1,(x22.2.2.2.2.2.1,(x22.2.2.2.2.2.2.1,(x22.2.2.2.2.2.2.2.1,(x22.2.2.2.2.2.2.2.2.1,(x22.2.2.2.2.2.2.2.2.2.1,()))))))))))))
 else(if((decide ((0:Int)≤(IntKind.wrap .i64 (x22.2.2.2.2.1 - (2:Int)))))=true)then(if((decide ((IntKind.wrap .i64 (x22.2.2.2.2.1 - (2:Int)))<((List.length x22.2.2.2.1):Int)))=true)then(if((decide ((IntKind.wrap .u64 (x22.1*x22.2.1))>(IntKind.wrap .u64 ((IntKind.wrap .u64 (x22.2.2.1*(4294967296:Int)))+(IntKind.wrap .u64 (List.getD x22.2.2.2.1 ((0:Nat)+(Int.toNat (IntKind.wrap .i64 (x22.2.2.2.2.1 - (2:Int))))) (0:Int)))))))=true)then(if((decide ((IntKind.wrap .u64 (x22.2.2.1+x22.2.2.2.2.2.1))≥(4294967296:Int)))=true)then(if((decide ((0:Int)≤(IntKind.wrap .i64 (x22.2.2.2.2.1+(1:Int)))))=true)then(if((decide (((IntKind.wrap .i64 (x22.2.2.2.2.1+(1:Int)))+(0:Int))≤((List.length x22.2.2.2.1):Int)))=true)then(if((decide ((0:Int)≤x22.2.2.2.2.2.2.1))=true)then(if((decide (x22.2.2.2.2.2.2.1≤(IntKind.wrap .i64 (x22.2.2.2.2.1+(1:Int)))))=true)then(Option.bind (S.i_takeAway ((seen x22.2.2.2.1 ((0:Nat)+(Int.toNat x22.2.2.2.2.2.2.1)) ((Int.toNat (IntKind.wrap .i64 (x22.2.2.2.2.1+(1:Int)))) - (Int.toNat x22.2.2.2.2.2.2.1))),(x22.2.2.2.2.2.2.2.1,((IntKind.wrap .u64 (x22.1 - (1:Int))),())))) (fun(y25:(Bool×((List Int)×Unit)))=>(if(y25.1=true)then(if((decide ((0:Int)≤x22.2.2.2.2.2.2.1))=true)then(if((decide (x22.2.2.2.2.2.2.1<((List.length x22.2.2.2.2.2.2.2.2.1):Int)))=true)then(g20 ((IntKind.wrap .i64 (x22.2.2.2.2.2.2.1 - (1:Int))),(x22.2.2.2.2.2.2.2.1,((splice x22.2.2.2.1 y25.2.1 ((0:Nat)+(Int.toNat x22.2.2.2.2.2.2.1))),(x22.2.2.2.2.2.1,(x22.2.1,((List.set x22.2.2.2.2.2.2.2.2.1 ((0:Nat)+(Int.toNat x22.2.2.2.2.2.2.1)) (IntKind.wrap .u32 (IntKind.wrap .u64 ((IntKind.wrap .u64 (x22.1 - (1:Int))) - (1:Int))))),(x22.2.2.2.2.2.2.2.2.2.1,()))))))))
 else none)
 else none)
 else(if((decide ((0:Int)≤x22.2.2.2.2.2.2.1))=true)then(if((decide (x22.2.2.2.2.2.2.1<((List.length x22.2.2.2.2.2.2.2.2.1):Int)))=true)then(g20 ((IntKind.wrap .i64 (x22.2.2.2.2.2.2.1 - (1:Int))),(x22.2.2.2.2.2.2.2.1,((splice x22.2.2.2.1 y25.2.1 ((0:Nat)+(Int.toNat x22.2.2.2.2.2.2.1))),(x22.2.2.2.2.2.1,(x22.2.1,((List.set x22.2.2.2.2.2.2.2.2.1 ((0:Nat)+(Int.toNat x22.2.2.2.2.2.2.1)) (IntKind.wrap .u32 (IntKind.wrap .u64 (x22.1 - (1:Int))))),(x22.2.2.2.2.2.2.2.2.2.1,()))))))))
 else none)
 else none))))
 else none)
 else none)
 else none)
 else none)
 else(g23 ((IntKind.wrap .u64 (x22.1 - (1:Int))),(x22.2.1,((IntKind.wrap .u64 (x22.2.2.1+x22.2.2.2.2.2.1)),(x22.2.2.2.1,(x22.2.2.2.2.1,(x22.2.2.2.2.2.1,(x22.2.2.2.2.2.2.1,(x22.2.2.2.2.2.2.2.1,(x22.2.2.2.2.2.2.2.2.1,(x22.2.2.2.2.2.2.2.2.2.1,()))))))))))))
 else(if((decide ((0:Int)≤(IntKind.wrap .i64 (x22.2.2.2.2.1+(1:Int)))))=true)then(if((decide (((IntKind.wrap .i64 (x22.2.2.2.2.1+(1:Int)))+(0:Int))≤((List.length x22.2.2.2.1):Int)))=true)then(if((decide ((0:Int)≤x22.2.2.2.2.2.2.1))=true)then(if((decide (x22.2.2.2.2.2.2.1≤(IntKind.wrap .i64 (x22.2.2.2.2.1+(1:Int)))))=true)then(Option.bind (S.i_takeAway ((seen x22.2.2.2.1 ((0:Nat)+(Int.toNat x22.2.2.2.2.2.2.1)) ((Int.toNat (IntKind.wrap .i64 (x22.2.2.2.2.1+(1:Int)))) - (Int.toNat x22.2.2.2.2.2.2.1))),(x22.2.2.2.2.2.2.2.1,(x22.1,())))) (fun(y26:(Bool×((List Int)×Unit)))=>(if(y26.1=true)then(if((decide ((0:Int)≤x22.2.2.2.2.2.2.1))=true)then(if((decide (x22.2.2.2.2.2.2.1<((List.length x22.2.2.2.2.2.2.2.2.1):Int)))=true)then(g20 ((IntKind.wrap .i64 (x22.2.2.2.2.2.2.1 - (1:Int))),(x22.2.2.2.2.2.2.2.1,((splice x22.2.2.2.1 y26.2.1 ((0:Nat)+(Int.toNat x22.2.2.2.2.2.2.1))),(x22.2.2.2.2.2.1,(x22.2.1,((List.set x22.2.2.2.2.2.2.2.2.1 ((0:Nat)+(Int.toNat x22.2.2.2.2.2.2.1)) (IntKind.wrap .u32 (IntKind.wrap .u64 (x22.1 - (1:Int))))),(x22.2.2.2.2.2.2.2.2.2.1,()))))))))
 else none)
 else none)
 else(if((decide ((0:Int)≤x22.2.2.2.2.2.2.1))=true)then(if((decide (x22.2.2.2.2.2.2.1<((List.length x22.2.2.2.2.2.2.2.2.1):Int)))=true)then(g20 ((IntKind.wrap .i64 (x22.2.2.2.2.2.2.1 - (1:Int))),(x22.2.2.2.2.2.2.2.1,((splice x22.2.2.2.1 y26.2.1 ((0:Nat)+(Int.toNat x22.2.2.2.2.2.2.1))),(x22.2.2.2.2.2.1,(x22.2.1,((List.set x22.2.2.2.2.2.2.2.2.1 ((0:Nat)+(Int.toNat x22.2.2.2.2.2.2.1)) (IntKind.wrap .u32 x22.1)),(x22.2.2.2.2.2.2.2.2.2.1,()))))))))
 else none)
 else none))))
 else none)
 else none)
 else none)
 else none))
 else none)
 else none))
abbrev P.i_nat_div_b27 (x28:(Int×(Int×((List Int)×(Int×((List Int)×Unit)))))) (g29:(Int×(Int×((List Int)×(Int×((List Int)×Unit)))))→Option (((List Int)×(List Int))×Unit)):Option (((List Int)×(List Int))×Unit):=
 (if((decide (x28.1<x28.2.1))=true)then(if((decide ((IntKind.wrap .i64 (x28.1+(1:Int)))<((List.length x28.2.2.1):Int)))=true)then(if((decide ((0:Int)≤(IntKind.wrap .i64 (x28.1+(1:Int)))))=true)then(if((decide ((IntKind.wrap .i64 (x28.1+(1:Int)))<((List.length x28.2.2.1):Int)))=true)then(if((decide ((0:Int)≤x28.1))=true)then(if((decide (x28.1<((List.length x28.2.2.1):Int)))=true)then(if((decide (x28.2.2.2.1<(0:Int)))=true)then none
 else(if((decide ((0:Int)≤x28.1))=true)then(if((decide (x28.1<((List.length x28.2.2.1):Int)))=true)then(g29 ((IntKind.wrap .i64 (x28.1+(1:Int))),(x28.2.1,((List.set x28.2.2.1 ((0:Nat)+(Int.toNat x28.1)) (IntKind.wrap .u32 (Int.fdiv (IntKind.wrap .u64 ((IntKind.wrap .u64 ((IntKind.wrap .u64 (List.getD x28.2.2.1 ((0:Nat)+(Int.toNat (IntKind.wrap .i64 (x28.1+(1:Int))))) (0:Int)))*(4294967296:Int)))+(IntKind.wrap .u64 (List.getD x28.2.2.1 ((0:Nat)+(Int.toNat x28.1)) (0:Int))))) ((2:Int)^(Min.min (Int.toNat x28.2.2.2.1) 64))))),(x28.2.2.2.1,(x28.2.2.2.2.1,()))))))
 else none)
 else none))
 else none)
 else none)
 else none)
 else none)
 else(if((decide ((0:Int)≤x28.1))=true)then(if((decide (x28.1<((List.length x28.2.2.1):Int)))=true)then(if((decide (x28.2.2.2.1<(0:Int)))=true)then none
 else(if((decide ((0:Int)≤x28.1))=true)then(if((decide (x28.1<((List.length x28.2.2.1):Int)))=true)then(g29 ((IntKind.wrap .i64 (x28.1+(1:Int))),(x28.2.1,((List.set x28.2.2.1 ((0:Nat)+(Int.toNat x28.1)) (IntKind.wrap .u32 (Int.fdiv (IntKind.wrap .u64 ((0:Int)+(IntKind.wrap .u64 (List.getD x28.2.2.1 ((0:Nat)+(Int.toNat x28.1)) (0:Int))))) ((2:Int)^(Min.min (Int.toNat x28.2.2.2.1) 64))))),(x28.2.2.2.1,(x28.2.2.2.2.1,()))))))
 else none)
 else none))
 else none)
 else none))
 else(if((decide ((List.length x28.2.2.2.2.1)≤(1000000000000:Nat)))=true)then(if((decide ((List.length x28.2.2.1)≤(1000000000000:Nat)))=true)then(some (((List.take (List.length (List.dropWhile (fun(y30:Int)=>(y30==(0:Int))) (List.reverseAux x28.2.2.2.2.1 ([]:List Int)))) x28.2.2.2.2.1),(List.take (List.length (List.dropWhile (fun(y31:Int)=>(y31==(0:Int))) (List.reverseAux x28.2.2.1 ([]:List Int)))) x28.2.2.1)),()))
 else none)
 else none))
abbrev P.i_nat_div_b18 (k:Nat) (x19:(Int×((List Int)×((List Int)×(Int×(Int×((List Int)×(Int×Unit)))))))) (g20:(Int×((List Int)×((List Int)×(Int×(Int×((List Int)×(Int×Unit)))))))→Option (((List Int)×(List Int))×Unit)):Option (((List Int)×(List Int))×Unit):=
 (if((decide (x19.1≥(0:Int)))=true)then(if((decide ((0:Int)≤(IntKind.wrap .i64 (x19.1+((List.length x19.2.1):Int)))))=true)then(if((decide ((IntKind.wrap .i64 (x19.1+((List.length x19.2.1):Int)))<((List.length x19.2.2.1):Int)))=true)then(if((decide ((0:Int)≤(IntKind.wrap .i64 ((IntKind.wrap .i64 (x19.1+((List.length x19.2.1):Int))) - (1:Int)))))=true)then(if((decide ((IntKind.wrap .i64 ((IntKind.wrap .i64 (x19.1+((List.length x19.2.1):Int))) - (1:Int)))<((List.length x19.2.2.1):Int)))=true)then(if((decide (x19.2.2.2.1=(0:Int)))=true)then none
 else(if((decide (x19.2.2.2.1=(0:Int)))=true)then none
 else(loopP (X:=(Int×(Int×(Int×((List Int)×(Int×(Int×(Int×((List Int)×((List Int)×(Int×Unit))))))))))) (R:=(((List Int)×(List Int))×Unit)) (P.i_nat_div_b21 g20) k ((IntKind.wrap .u64 (Int.tdiv (IntKind.wrap .u64 ((IntKind.wrap .u64 ((IntKind.wrap .u64 (List.getD x19.2.2.1 ((0:Nat)+(Int.toNat (IntKind.wrap .i64 (x19.1+((List.length x19.2.1):Int))))) (0:Int)))*(4294967296:Int)))+(IntKind.wrap .u64 (List.getD x19.2.2.1 ((0:Nat)+(Int.toNat (IntKind.wrap .i64 ((IntKind.wrap .i64 (x19.1+((List.length x19.2.1):Int))) - (1:Int))))) (0:Int))))) x19.2.2.2.1)),(x19.2.2.2.2.1,((Int.tmod (IntKind.wrap .u64 ((IntKind.wrap .u64 ((IntKind.wrap .u64 (List.getD x19.2.2.1 ((0:Nat)+(Int.toNat (IntKind.wrap .i64 (x19.1+((List.length x19.2.1):Int))))) (0:Int)))*(4294967296:Int)))+(IntKind.wrap .u64 (List.getD x19.2.2.1 ((0:Nat)+(Int.toNat (IntKind.wrap .i64 ((IntKind.wrap .i64 (x19.1+((List.length x19.2.1):Int))) - (1:Int))))) (0:Int))))) x19.2.2.2.1),(x19.2.2.1,((IntKind.wrap .i64 (x19.1+((List.length x19.2.1):Int))),(x19.2.2.2.1,(x19.1,(x19.2.1,(x19.2.2.2.2.2.1,(x19.2.2.2.2.2.2.1,())))))))))))))
 else none)
 else none)
 else none)
 else none)
 else(if((decide ((List.length x19.2.2.1)≤(1000000000000:Nat)))=true)then(loopP (X:=(Int×(Int×((List Int)×(Int×((List Int)×Unit)))))) (R:=(((List Int)×(List Int))×Unit)) (P.i_nat_div_b27) k ((0:Int),(((List.length (List.take (List.length (List.dropWhile (fun(y32:Int)=>(y32==(0:Int))) (List.reverseAux x19.2.2.1 ([]:List Int)))) x19.2.2.1)):Int),((List.take (List.length (List.dropWhile (fun(y33:Int)=>(y33==(0:Int))) (List.reverseAux x19.2.2.1 ([]:List Int)))) x19.2.2.1),(x19.2.2.2.2.2.2.1,(x19.2.2.2.2.2.1,()))))))
 else none))
def P.i_nat_div (k:Nat) (x:((List Int)×((List Int)×Unit))):(Option (((List Int)×(List Int))×Unit)):=
 (Option.bind (S.i_nat_cmp (x.1,(x.2.1,()))) (fun(y0:(Int×Unit))=>(if((decide (y0.1<(0:Int)))=true)then(some ((([]:List Int),x.1),()))
 else(if((((List.length x.2.1):Int)==(1:Int))=true)then(if((decide ((0:Int)<((List.length x.2.1):Int)))=true)then(Option.bind (S.i_nat_divSmall (x.1,((List.getD x.2.1 (0:Nat) (0:Int)),()))) (fun(y1:(((List Int)×Int)×Unit))=>(if((decide ((List.length (y1.1.2::([]:List Int)))≤(1000000000000:Nat)))=true)then(some ((y1.1.1,(List.take (List.length (List.filter.match_1 (fun(y2:Bool)=>(List Int)) (y1.1.2==(0:Int)) (fun(y3:Unit)=>([]:List Int)) (fun(y4:Unit)=>(y1.1.2::([]:List Int))))) (y1.1.2::([]:List Int)))),()))
 else none)))
 else none)
 else(if((decide ((0:Int)≤(IntKind.wrap .i64 (((List.length x.2.1):Int) - (1:Int)))))=true)then(if((decide ((IntKind.wrap .i64 (((List.length x.2.1):Int) - (1:Int)))<((List.length x.2.1):Int)))=true)then(Option.bind (S.math_bits_LeadingZeros32 ((List.getD x.2.1 (Int.toNat (IntKind.wrap .i64 (((List.length x.2.1):Int) - (1:Int)))) (0:Int)),())) (fun(y5:(Int×Unit))=>(Option.bind (S.i_nat_shifted (x.1,(y5.1,()))) (fun(y6:((List Int)×Unit))=>(Option.bind (S.i_nat_shifted (x.2.1,(y5.1,()))) (fun(y7:((List Int)×Unit))=>(if((decide ((List.length y7.1)≤(1000000000000:Nat)))=true)then(if((decide ((0:Int)≤(IntKind.wrap .i64 (((List.length (List.take (List.length (List.dropWhile (fun(y8:Int)=>(y8==(0:Int))) (List.reverseAux y7.1 ([]:List Int)))) y7.1)):Int) - (1:Int)))))=true)then(if((decide ((IntKind.wrap .i64 (((List.length (List.take (List.length (List.dropWhile (fun(y9:Int)=>(y9==(0:Int))) (List.reverseAux y7.1 ([]:List Int)))) y7.1)):Int) - (1:Int)))<((List.length (List.take (List.length (List.dropWhile (fun(y10:Int)=>(y10==(0:Int))) (List.reverseAux y7.1 ([]:List Int)))) y7.1)):Int)))=true)then(if((decide ((0:Int)≤(IntKind.wrap .i64 (((List.length (List.take (List.length (List.dropWhile (fun(y11:Int)=>(y11==(0:Int))) (List.reverseAux y7.1 ([]:List Int)))) y7.1)):Int) - (2:Int)))))=true)then(if((decide ((IntKind.wrap .i64 (((List.length (List.take (List.length (List.dropWhile (fun(y12:Int)=>(y12==(0:Int))) (List.reverseAux y7.1 ([]:List Int)))) y7.1)):Int) - (2:Int)))<((List.length (List.take (List.length (List.dropWhile (fun(y13:Int)=>(y13==(0:Int))) (List.reverseAux y7.1 ([]:List Int)))) y7.1)):Int)))=true)then(if((decide ((0:Int)≤(IntKind.wrap .i64 (((List.length y6.1):Int) - ((List.length (List.take (List.length (List.dropWhile (fun(y14:Int)=>(y14==(0:Int))) (List.reverseAux y7.1 ([]:List Int)))) y7.1)):Int)))))=true)then(if((decide ((IntKind.wrap .i64 (((List.length y6.1):Int) - ((List.length (List.take (List.length (List.dropWhile (fun(y15:Int)=>(y15==(0:Int))) (List.reverseAux y7.1 ([]:List Int)))) y7.1)):Int)))≤(IntKind.wrap .i64 (((List.length y6.1):Int) - ((List.length (List.take (List.length (List.dropWhile (fun(y16:Int)=>(y16==(0:Int))) (List.reverseAux y7.1 ([]:List Int)))) y7.1)):Int)))))=true)then(if((decide (((IntKind.wrap .i64 (((List.length y6.1):Int) - ((List.length (List.take (List.length (List.dropWhile (fun(y17:Int)=>(y17==(0:Int))) (List.reverseAux y7.1 ([]:List Int)))) y7.1)):Int)))*(4:Int))≤(281474976710656:Int)))=true)then(loopP (X:=(Int×((List Int)×((List Int)×(Int×(Int×((List Int)×(Int×Unit)))))))) (R:=(((List Int)×(List Int))×Unit)) (P.i_nat_div_b18 k) k ((IntKind.wrap .i64 (((List.length (List.replicate (Int.toNat (IntKind.wrap .i64 (((List.length y6.1):Int) - ((List.length (List.take (List.length (List.dropWhile (fun(y34:Int)=>(y34==(0:Int))) (List.reverseAux y7.1 ([]:List Int)))) y7.1)):Int)))) (0:Int))):Int) - (1:Int))),((List.take (List.length (List.dropWhile (fun(y35:Int)=>(y35==(0:Int))) (List.reverseAux y7.1 ([]:List Int)))) y7.1),(y6.1,((IntKind.wrap .u64 (List.getD (List.take (List.length (List.dropWhile (fun(y36:Int)=>(y36==(0:Int))) (List.reverseAux y7.1 ([]:List Int)))) y7.1) ((0:Nat)+(Int.toNat (IntKind.wrap .i64 (((List.length (List.take (List.length (List.dropWhile (fun(y37:Int)=>(y37==(0:Int))) (List.reverseAux y7.1 ([]:List Int)))) y7.1)):Int) - (1:Int))))) (0:Int))),((IntKind.wrap .u64 (List.getD (List.take (List.length (List.dropWhile (fun(y38:Int)=>(y38==(0:Int))) (List.reverseAux y7.1 ([]:List Int)))) y7.1) ((0:Nat)+(Int.toNat (IntKind.wrap .i64 (((List.length (List.take (List.length (List.dropWhile (fun(y39:Int)=>(y39==(0:Int))) (List.reverseAux y7.1 ([]:List Int)))) y7.1)):Int) - (2:Int))))) (0:Int))),((List.replicate (Int.toNat (IntKind.wrap .i64 (((List.length y6.1):Int) - ((List.length (List.take (List.length (List.dropWhile (fun(y40:Int)=>(y40==(0:Int))) (List.reverseAux y7.1 ([]:List Int)))) y7.1)):Int)))) (0:Int)),(y5.1,()))))))))
 else none)
 else none)
 else none)
 else none)
 else none)
 else none)
 else none)
 else none)))))))
 else none)
 else none)))))
theorem id_tail (g:(Int×((List Int)×((List Int)×(Int×(Int×((List Int)×(Int×Unit)))))))→(Option (((List Int)×(List Int))×Unit))) (F:Option (((List Int)×(List Int))×Unit)) {u0 vs:List Int} {m j:Nat} {top next sh:Int}
  (h0:dig B32 u0=true) (hv:dig B32 vs=true) (hN:u0.length=m+vs.length) (hbig:u0.length≤1000000000) (hj:j<m) (hV:0<dval B32 vs)
  (hg:g ((j:Int) - 1,(vs,(ldU B32 (dval B32 vs) u0 j,(top,(next,(ldQ B32 (dval B32 vs) u0 m j,(sh,())))))))=F)
  (q:Nat) (hq:q<4294967296) (h1:ldW B32 (dval B32 vs) u0 j/dval B32 vs≤q) (h2:q*dval B32 vs<ldW B32 (dval B32 vs) u0 j+dval B32 vs) (q':Int) (hq':q'=(q:Int)):
  (if((decide ((0:Int)≤(IntKind.wrap .i64 (((j+vs.length:Nat):Int)+(1:Int)))))=true)then(if((decide (((IntKind.wrap .i64 (((j+vs.length:Nat):Int)+(1:Int)))+(0:Int))≤((List.length (ldU B32 (dval B32 vs) u0 (j+1))):Int)))=true)then(if((decide ((0:Int)≤(j:Int)))=true)then(if((decide ((j:Int)≤(IntKind.wrap .i64 (((j+vs.length:Nat):Int)+(1:Int)))))=true)then(Option.bind (S.i_takeAway ((Go.Cm.seen (ldU B32 (dval B32 vs) u0 (j+1)) ((0:Nat)+(Int.toNat (j:Int))) ((Int.toNat (IntKind.wrap .i64 (((j+vs.length:Nat):Int)+(1:Int)))) - (Int.toNat (j:Int)))),(vs,(q',())))) (fun(y26:(Bool×((List Int)×Unit)))=>(if(y26.1=true)then(if((decide ((0:Int)≤(j:Int)))=true)then(if((decide ((j:Int)<((List.length (ldQ B32 (dval B32 vs) u0 m (j+1))):Int)))=true)then(g ((IntKind.wrap .i64 ((j:Int) - (1:Int))),(vs,((Go.Cm.splice (ldU B32 (dval B32 vs) u0 (j+1)) y26.2.1 ((0:Nat)+(Int.toNat (j:Int)))),(top,(next,((List.set (ldQ B32 (dval B32 vs) u0 m (j+1)) ((0:Nat)+(Int.toNat (j:Int))) (IntKind.wrap .u32 (IntKind.wrap .u64 (q' - (1:Int))))),(sh,()))))))))
 else none)
 else none)
 else(if((decide ((0:Int)≤(j:Int)))=true)then(if((decide ((j:Int)<((List.length (ldQ B32 (dval B32 vs) u0 m (j+1))):Int)))=true)then(g ((IntKind.wrap .i64 ((j:Int) - (1:Int))),(vs,((Go.Cm.splice (ldU B32 (dval B32 vs) u0 (j+1)) y26.2.1 ((0:Nat)+(Int.toNat (j:Int)))),(top,(next,((List.set (ldQ B32 (dval B32 vs) u0 m (j+1)) ((0:Nat)+(Int.toNat (j:Int))) (IntKind.wrap .u32 q')),(sh,()))))))))
 else none)
 else none))))
 else none)
 else none)
 else none)
 else none)=F:=by
 subst hq'
 have hhi:=dval_lt hv
 have hA:(u0.take j).length=j:=by simp;omega
 have hQ:=ld_Q B32_le hV h0 (show j<u0.length by omega) hj
 have hQl:(ldQ B32 (dval B32 vs) u0 m (j+1)).length=m:=by unfold ldQ;rw[List.length_append,List.length_replicate,fd_len];omega
 have hUl:=ld_U_lt B32_le hV h0 hN hj hhi
 have hs:=ld_step B32_le hV h0 (show j<u0.length by omega)
 have hs':=ld_U B32_le hV h0 (show j<u0.length by omega)
 have hvl:vs.length≤vs.length+1:=by omega
 have hve:∀X,X<B32^(vs.length+1)→fd B32 (u0.length - j) X=fd B32 (vs.length+1) X++List.replicate (m - 1 - j) 0:=by
  intro X hX
  rw[show u0.length - j=(vs.length+1)+(m - 1 - j) by omega,fd_pad hX]
 have hVl:dval B32 vs<B32^(vs.length+1):=Nat.lt_of_lt_of_le hhi (Nat.pow_le_pow_right (by decide) hvl)
 generalize hn:vs.length=n at*
 generalize hVV:dval B32 vs=V at*
 generalize hUU:ldW B32 V u0 j=U at*
 have hdm:=Nat.mod_add_div U V
 have hml:=Nat.mod_lt U hV
 obtain⟨n1,n2⟩:=near hV h1 h2
 generalize U/V=Q at*
 generalize U%V=M at*
 have hM:=hve M (by omega)
 have hU':=hve U hUl
 rw[hM]at hs'
 rw[hU']at hs
 generalize hR:List.replicate (m - 1 - j) (0:Int)=R at*
 have hRl:R.length=m - 1 - j:=by rw[←hR,List.length_replicate]
 have e1:(0:Int)≤(j:Int):=by omega
 have e2:(j:Int)<(m:Int):=by omega
 have e3:(0:Int)≤((j+n:Nat):Int)+1:=by omega
 have e4:(j:Int)≤((j+n:Nat):Int)+1:=by omega
 have hlen:(ldU B32 V u0 (j+1)).length=j+n+1+R.length:=by
  rw[hs,List.length_append,List.length_append,hA,fd_len]
  omega
 have e5:((j+n:Nat):Int)+1+0≤((j+n+1+R.length:Nat):Int):=by omega
 rw[wr (x:=((j+n:Nat):Int)+1) (by omega) (by omega),hlen,hQl]
 simp only[e1,e2,e3,e4,e5,decide_true,if_true,Nat.zero_add,Int.toNat_natCast]
 have hseen:seen (ldU B32 V u0 (j+1)) j ((((j+n:Nat):Int)+1).toNat - j)=fd B32 (n+1) U:=by
  unfold seen
  rw[hs,List.drop_left' hA,show(((j+n:Nat):Int)+1).toNat - j=n+1 by omega]
  exact List.take_left' (fd_len _ _ _)
 have hspl:∀X,splice (ldU B32 V u0 (j+1)) (fd B32 (n+1) X) j=u0.take j++(fd B32 (n+1) X++R):=by
  intro X
  unfold splice
  rw[hs,List.take_left' hA,fd_len,←List.drop_drop,List.drop_left' hA,List.drop_left' (fd_len _ _ _),List.append_assoc]
 rw[hseen]
 have hd:dval B32 (fd B32 (n+1) U)=U:=by rw[dval_fd,Nat.mod_eq_of_lt hUl]
 unfold S.i_takeAway
 dsimp only
 rw[fd_len,hd,hVV,hn,Int.toNat_natCast,if_pos ⟨dig_fd (by decide) _ _,hv,by omega,by omega,by omega,by omega,by rw[Nat.mul_comm];omega⟩]
 rw[Nat.mul_comm q V]at n1 n2
 by_cases hle:V*q≤U
 ·have hqe:=n1 hle
  have hsub:U - V*q=M:=by rw[hqe];omega
  rw[if_pos hle,Option.bind_some,hsub]
  dsimp only
  rw[if_neg (by simp),hspl,←hs',w32 (by omega) (by omega),hqe,hQ,wr (by omega) (by omega)]
  exact hg
 ·have hqe:=n2 (by omega)
  have hsub:U+V - V*q=M:=by rw[hqe,Nat.mul_add];omega
  rw[if_neg hle,Option.bind_some,hsub]
  dsimp only
  rw[if_pos rfl,hspl,←hs',wu (x:=(q:Int) - 1) (by omega) (by omega),w32 (by omega) (by omega),hqe,show((Q+1:Nat):Int) - 1=((Q:Nat):Int) by omega,hQ,wr (by omega) (by omega)]
  exact hg
theorem id_inner (g:(Int×((List Int)×((List Int)×(Int×(Int×((List Int)×(Int×Unit)))))))→(Option (((List Int)×(List Int))×Unit))) (F:Option (((List Int)×(List Int))×Unit)) {u0 vs:List Int} {m j:Nat} {sh:Int}
  (h0:dig B32 u0=true) (hv:dig B32 vs=true) (hN:u0.length=m+vs.length) (hbig:u0.length≤1000000000) (hj:j<m) (hn2:2≤vs.length) (hlo:B32^(vs.length - 1)≤dval B32 vs)
  (hg:g ((j:Int) - 1,(vs,(ldU B32 (dval B32 vs) u0 j,(((dval B32 vs/B32^(vs.length - 1):Nat):Int),(((dval B32 vs/B32^(vs.length - 2)%B32:Nat):Int),(ldQ B32 (dval B32 vs) u0 m j,(sh,())))))))=F) (w:Nat):
  ∀q r k:Nat,q*(dval B32 vs/B32^(vs.length - 1))+r=ldW B32 (dval B32 vs) u0 j/B32^(vs.length - 1)→ldW B32 (dval B32 vs) u0 j/dval B32 vs≤q→r<4294967296→4294967296 - r≤w→w<k→q≤18446744073709551615→
  loopP (P.i_nat_div_b21 g) k ((q:Int),(((dval B32 vs/B32^(vs.length - 2)%B32:Nat):Int),((r:Int),(ldU B32 (dval B32 vs) u0 (j+1),(((j+vs.length:Nat):Int),(((dval B32 vs/B32^(vs.length - 1):Nat):Int),((j:Int),(vs,(ldQ B32 (dval B32 vs) u0 m (j+1),(sh,()))))))))))=F:=by
 have hV:0<dval B32 vs:=Nat.lt_of_lt_of_le (Nat.pow_pos (by decide)) hlo
 have hhi:=dval_lt hv
 have hU:=ld_lt B32_le hV h0 (show j<u0.length by omega)
 have win:=ld_win B32_le hn2 hlo hhi hU
 have htail:=fun q hq h1 h2 q' hq'=>id_tail g F h0 hv hN hbig hj hV hg q hq h1 h2 q' hq'
 have g3:=ld_get B32_le hV h0 hN hj hhi (i:=vs.length - 2) (by omega)
 have hsl:(ldU B32 (dval B32 vs) u0 (j+1)).length=m+vs.length:=by unfold ldU;rw[List.length_append,fd_len,List.length_take];omega
 have hv1B:dval B32 vs/B32^(vs.length - 1)<4294967296:=by
  have:dval B32 vs/B32^(vs.length - 1)<B32:=by
   rw[Nat.div_lt_iff_lt_mul (Nat.pow_pos (by decide)),Nat.mul_comm,←Nat.pow_succ,show(vs.length - 1).succ=vs.length by omega]
   exact hhi
  exact this
 have hv1:=win.hv1
 generalize hX:ldW B32 (dval B32 vs) u0 j/B32^(vs.length - 1)=X at*
 generalize hv1e:dval B32 vs/B32^(vs.length - 1)=v1 at*
 have hv2B:dval B32 vs/B32^(vs.length - 2)%B32<4294967296:=win.hv2
 have hu2B:ldW B32 (dval B32 vs) u0 j/B32^(vs.length - 2)%B32<4294967296:=win.hu2
 generalize hv2e:dval B32 vs/B32^(vs.length - 2)%B32=v2 at*
 generalize hu2e:ldW B32 (dval B32 vs) u0 j/B32^(vs.length - 2)%B32=u2 at*
 induction w with
 |zero=>intro q r k _ _ hr hw;omega
 |succ w ih=>
  intro q r k e hq hr hw hk hqb
  obtain⟨k,rfl⟩:∃k',k=k'+1:=⟨k - 1,by omega⟩
  rw[loopP_succ]
  unfold P.i_nat_div_b21
  dsimp only
  have c5:(0:Int)≤((j+vs.length:Nat):Int) - 2:=by omega
  have c6:((j+vs.length:Nat):Int) - 2<((m+vs.length:Nat):Int):=by omega
  have hwl:((m+vs.length:Nat):Int)=((List.length (ldU B32 (dval B32 vs) u0 (j+1)):Nat):Int):=by rw[hsl]
  rw[hwl]at c6
  have hstep:ldW B32 (dval B32 vs) u0 j/dval B32 vs<q→((r:Int)+(v1:Int)≥4294967296→(q - 1)<4294967296∧ldW B32 (dval B32 vs) u0 j/dval B32 vs≤q - 1∧(q - 1)*dval B32 vs<ldW B32 (dval B32 vs) u0 j+dval B32 vs∧IntKind.wrap .u64 ((q:Int) - 1)=((q - 1:Nat):Int))∧(¬((r:Int)+(v1:Int)≥4294967296)→loopP (P.i_nat_div_b21 g) k (IntKind.wrap .u64 ((q:Int) - 1),((v2:Int),((r:Int)+(v1:Int),(ldU B32 (dval B32 vs) u0 (j+1),(((j+vs.length:Nat):Int),((v1:Int),((j:Int),(vs,(ldQ B32 (dval B32 vs) u0 m (j+1),(sh,()))))))))))=F):=by
   intro hlt
   have hq1:1≤q:=Nat.lt_of_le_of_lt (Nat.zero_le _) hlt
   have eq1:IntKind.wrap .u64 ((q:Int) - 1)=((q - 1:Nat):Int):=by
    rw[wu (by omega) (by omega)]
    omega
   have e':(q - 1)*v1+(r+v1)=X:=by
    obtain⟨p,rfl⟩:∃p,q=p+1:=⟨q - 1,by omega⟩
    rw[Nat.add_mul,Nat.one_mul]at e
    rw[Nat.add_sub_cancel]
    omega
   constructor
   ·intro hge
    have hd:=win.done e' (.inr (show(4294967296:Nat)≤r+v1 by omega))
    exact⟨hd.1,by omega,hd.2,eq1⟩
   ·intro hge
    rw[eq1,←Int.natCast_add]
    exact ih (q - 1) (r+v1) k e' (by omega) (by omega) (by omega) (by omega) (by omega)
  rw[wu (x:=(r:Int)+(v1:Int)) (by omega) (by omega)]
  by_cases b1:q≥4294967296
  ·rw[if_pos (decide_eq_true (show(q:Int)≥4294967296 by omega))]
   obtain⟨s1,s2⟩:=hstep (win.down e hq (.inl b1))
   by_cases b2:(r:Int)+(v1:Int)≥4294967296
   ·rw[if_pos (decide_eq_true b2)]
    obtain⟨t1,t2,t3,t4⟩:=s1 b2
    exact htail (q - 1) t1 t2 t3 _ t4
   ·rw[if_neg (by simpa using b2)]
    exact s2 b2
  ·rw[if_neg (by simp;omega)]
   rw[wr (x:=((j+vs.length:Nat):Int) - 2) (by omega) (by omega),if_pos (decide_eq_true c5),if_pos (decide_eq_true c6),show 0+(((j+vs.length:Nat):Int) - 2).toNat=j+(vs.length - 2) by omega,g3]
   have hqv:q*v2≤4294967295*4294967295:=Nat.mul_le_mul (by omega) (by omega)
   rw[←Int.natCast_mul,wu (x:=((q*v2:Nat):Int)) (by omega) (by omega),wu (x:=(r:Int)*4294967296) (by omega) (by omega),wu (x:=(u2:Int)) (by omega) (by omega),wu (x:=(r:Int)*4294967296+(u2:Int)) (by omega) (by omega)]
   by_cases b3:q*v2>r*4294967296+u2
   ·rw[if_pos (decide_eq_true (show((q*v2:Nat):Int)>(r:Int)*4294967296+(u2:Int) by omega))]
    obtain⟨s1,s2⟩:=hstep (win.down e hq (.inr b3))
    by_cases b2:(r:Int)+(v1:Int)≥4294967296
    ·rw[if_pos (decide_eq_true b2)]
     obtain⟨t1,t2,t3,t4⟩:=s1 b2
     exact htail (q - 1) t1 t2 t3 _ t4
    ·rw[if_neg (by simpa using b2)]
     exact s2 b2
   ·rw[if_neg (by simp;omega)]
    have hd:=win.done e (.inl ⟨show q<B32 by show q<4294967296;omega,show q*v2≤r*B32+u2 by show q*v2≤r*4294967296+u2;omega⟩)
    exact htail q hd.1 hq hd.2 _ rfl
theorem id_down {R sh:Nat} {qs:List Int} {n:Nat} (hn:(nd B32 R).length=n) (hsh:sh≤31) (hb:n≤1000000000) (hq:dig B32 qs=true) (hql:qs.length≤1000000000) (k:Nat) (hk:n<k):
  loopP P.i_nat_div_b27 k ((0:Int),((n:Int),(nd B32 R,((sh:Int),(qs,())))))=some ((nd B32 (dval B32 qs),nd B32 (R/2^sh)),()):=by
 have hRn:R<B32^n:=(nd_len B32_le R n).1 (by omega)
 have hpow:0<2^sh:=Nat.pow_pos (by decide)
 have hndfd:nd B32 R=fd B32 n R:=by
  have:=fd_dval (B:=B32) (by decide) (dig_nd B32_le R)
  rw[hn,dval_nd B32_le]at this
  exact this.symm
 have key:=loop_up0 (k:=k) (b:=P.i_nat_div_b27) (n:=n) (st:=fun i=>((i:Int),(n:Int),fd B32 i (R/2^sh)++fd B32 (n - i) (R/B32^i),(sh:Int),qs,())) (F:=fun i=>some ((nd B32 (dval B32 qs),nd B32 (R/2^sh)),())) (fun i g hi hg=>by
  unfold P.i_nat_div_b27
  dsimp only at hg ⊢
  refine Eq.trans ?_ hg
  clear hg
  have hlen:(fd B32 i (R/2^sh)++fd B32 (n - i) (R/B32^i)).length=n:=by rw[List.length_append,fd_len,fd_len];omega
  have hfl:(fd B32 i (R/2^sh)).length=i:=fd_len _ _ _
  have e1:(i:Int)<(n:Int):=by omega
  have e2:(0:Int)≤(i:Int):=by omega
  have e3:¬((sh:Int)<0):=by omega
  have e4:(0:Int)≤(i:Int)+1:=by omega
  have emin:Min.min sh 64=sh:=by omega
  have ep:((2:Int)^sh)=((2^sh:Nat):Int):=by rw[Int.natCast_pow];rfl
  rw[hlen,wr (x:=(i:Int)+1) (by omega) (by omega)]
  simp only[e1,e2,e3,e4,decide_true,decide_false,if_true,if_false,Bool.false_eq_true,Nat.zero_add,Int.toNat_natCast]
  rw[emin,ep]
  have hsplit:fd B32 (n - i) (R/B32^i)=((R/B32^i%B32:Nat):Int)::fd B32 (n - (i+1)) (R/B32^(i+1)):=by
   rw[show n - i=(n - (i+1))+1 by omega,fd,Nat.div_div_eq_div_mul,Nat.pow_succ]
  rw[hsplit]
  simp only[mid_set hfl,mid_get hfl]
  have hx:R/B32^i%B32<4294967296:=Nat.mod_lt _ (by decide)
  have hy:R/B32^(i+1)%B32<4294967296:=Nat.mod_lt _ (by decide)
  have hval:∀Y:Nat,Y=R/B32^(i+1)%B32→IntKind.wrap .u32 (Int.fdiv (((Y*4294967296+R/B32^i%B32:Nat):Int)) ((2^sh:Nat):Int))=((R/2^sh/B32^i%B32:Nat):Int):=by
   intro Y hY
   rw[Int.fdiv_eq_ediv_of_nonneg _ (by omega),←Int.natCast_ediv,u32_emod]
   have e5:∀z:Nat,((z:Nat):Int)%4294967296=((z%B32:Nat):Int):=by
    intro z
    show _=((z%4294967296:Nat):Int)
    omega
   rw[e5]
   congr 1
   have e6:Y*4294967296+R/B32^i%B32=R/B32^i%(B32*B32):=by
    rw[hY,Nat.mod_mul,Nat.div_div_eq_div_mul,←Nat.pow_succ,Nat.add_comm,Nat.mul_comm]
   have e7:R/2^sh/B32^i=R/B32^i/2^sh:=by rw[Nat.div_div_eq_div_mul,Nat.div_div_eq_div_mul,Nat.mul_comm]
   have e8:B32*B32=2^sh*(B32*2^(32 - sh)):=by
    have:B32=2^sh*2^(32 - sh):=by rw[←Nat.pow_add,show sh+(32 - sh)=32 by omega]
    calc B32*B32=2^sh*2^(32 - sh)*B32:=by rw[←this]
     _=2^sh*(B32*2^(32 - sh)):=by ac_rfl
   rw[e6,e7,e8,Nat.mod_mul_right_div_self,Nat.mod_mul_right_mod]
  by_cases hj:(i:Int)+1<(n:Int)
  ·have hj':fd B32 (n - (i+1)) (R/B32^(i+1))=((R/B32^(i+1)%B32:Nat):Int)::fd B32 (n - (i+1) - 1) (R/B32^(i+1)/B32):=by
    conv=>lhs;rw[show n - (i+1)=(n - (i+1) - 1)+1 by omega,fd]
   have hg2:(fd B32 i (R/2^sh)++((R/B32^i%B32:Nat):Int)::fd B32 (n - (i+1)) (R/B32^(i+1))).getD ((i:Int)+1).toNat 0=((R/B32^(i+1)%B32:Nat):Int):=by
    rw[hj',show((i:Int)+1).toNat=i+1 by omega,List.append_cons]
    exact mid_get (by rw[List.length_append,hfl];rfl)
   rw[if_pos (decide_eq_true hj),if_pos (decide_eq_true hj),hg2]
   rw[wu (x:=((R/B32^(i+1)%B32:Nat):Int)) (by omega) (by omega),wu (x:=((R/B32^(i+1)%B32:Nat):Int)*4294967296) (by omega) (by omega),wu (x:=((R/B32^i%B32:Nat):Int)) (by omega) (by omega),wu (x:=((R/B32^(i+1)%B32:Nat):Int)*4294967296+((R/B32^i%B32:Nat):Int)) (by omega) (by omega),show((R/B32^(i+1)%B32:Nat):Int)*4294967296+((R/B32^i%B32:Nat):Int)=((R/B32^(i+1)%B32*4294967296+R/B32^i%B32:Nat):Int) by omega,hval _ rfl,←fd_snoc]
   rfl
  ·rw[if_neg (by simpa using hj)]
   have hn1:n=i+1:=by omega
   have h0:0=R/B32^(i+1)%B32:=by rw[←hn1,Nat.div_eq_of_lt hRn,Nat.zero_mod]
   rw[wu (x:=((R/B32^i%B32:Nat):Int)) (by omega) (by omega),wu (x:=0+((R/B32^i%B32:Nat):Int)) (by omega) (by omega),show 0+((R/B32^i%B32:Nat):Int)=((0*4294967296+R/B32^i%B32:Nat):Int) by omega,hval 0 h0,←fd_snoc]
   rfl) (fun g=>by
  unfold P.i_nat_div_b27
  dsimp only
  have hRs:R/2^sh<B32^n:=Nat.lt_of_le_of_lt (Nat.div_le_self _ _) hRn
  have hl1:qs.length≤1000000000000:=by omega
  have hfl:(fd B32 n (R/2^sh)).length=n:=fd_len _ _ _
  have hl2:(fd B32 n (R/2^sh)).length≤1000000000000:=by omega
  rw[if_neg (by simp),Nat.sub_self,show fd B32 0 (R/B32^n)=[]from rfl,List.append_nil,if_pos (decide_eq_true hl1),if_pos (decide_eq_true hl2),trim_nd B32_le _ _ rfl hq,trim_nd B32_le _ _ rfl (dig_fd (by decide) _ _),nd_fd B32_le hRs]) hk
 rw[show fd B32 0 (R/2^sh)++fd B32 (n - 0) (R/B32^0)=nd B32 R by rw[hndfd,Nat.pow_zero,Nat.div_one];rfl]at key
 exact key
theorem id_outer {u0 vs:List Int} {m sh:Nat}
  (h0:dig B32 u0=true) (hv:dig B32 vs=true) (hN:u0.length=m+vs.length) (hbig:u0.length≤1000000000) (hn2:2≤vs.length) (hlo:B32^(vs.length - 1)≤dval B32 vs) (hsh:sh≤31) (ht:dval B32 (u0.drop m)<dval B32 vs) (k:Nat) (hk:k=u0.length+4294967310):
  loopP (P.i_nat_div_b18 k) k ((m:Int) - 1,(vs,(u0,(((dval B32 vs/B32^(vs.length - 1):Nat):Int),(((dval B32 vs/B32^(vs.length - 2)%B32:Nat):Int),(List.replicate m 0,((sh:Int),())))))))=some ((nd B32 (dval B32 u0/dval B32 vs),nd B32 (dval B32 u0%dval B32 vs/2^sh)),()):=by
 have hV:0<dval B32 vs:=Nat.lt_of_lt_of_le (Nat.pow_pos (by decide)) hlo
 have hhi:=dval_lt hv
 obtain⟨f1,f2⟩:=ld_first B32_le hV h0 (show m≤u0.length by omega) ht
 have key:=loop_up0 (k:=k) (b:=P.i_nat_div_b18 k) (n:=m) (st:=fun i=>((m:Int) - 1 - (i:Int),vs,ldU B32 (dval B32 vs) u0 (m - i),((dval B32 vs/B32^(vs.length - 1):Nat):Int),((dval B32 vs/B32^(vs.length - 2)%B32:Nat):Int),ldQ B32 (dval B32 vs) u0 m (m - i),(sh:Int),())) (F:=fun i=>some ((nd B32 (dval B32 u0/dval B32 vs),nd B32 (dval B32 u0%dval B32 vs/2^sh)),())) (fun i g hi hg=>by
  unfold P.i_nat_div_b18
  dsimp only at hg ⊢
  obtain⟨j,hj⟩:∃j,m - i=j+1:=⟨m - i - 1,by omega⟩
  have hjm:j<m:=by omega
  rw[show m - (i+1)=j by omega,show(m:Int) - 1 - ((i+1:Nat):Int)=(j:Int) - 1 by omega]at hg
  rw[hj,show(m:Int) - 1 - (i:Int)=(j:Int) by omega]
  have hU:=ld_lt B32_le hV h0 (show j<u0.length by omega)
  have win:=ld_win B32_le hn2 hlo hhi hU
  have g3:=ld_get B32_le hV h0 hN hjm hhi (i:=vs.length) (by omega)
  have g4:=ld_get B32_le hV h0 hN hjm hhi (i:=vs.length - 1) (by omega)
  have hsl:(ldU B32 (dval B32 vs) u0 (j+1)).length=m+vs.length:=by unfold ldU;rw[List.length_append,fd_len,List.length_take];omega
  have hv1B:dval B32 vs/B32^(vs.length - 1)<4294967296:=by
   have:dval B32 vs/B32^(vs.length - 1)<B32:=by
    rw[Nat.div_lt_iff_lt_mul (Nat.pow_pos (by decide)),Nat.mul_comm,←Nat.pow_succ,show(vs.length - 1).succ=vs.length by omega]
    exact hhi
   exact this
  have hv1:=win.hv1
  have hxlt:=win.xlt
  have hstart:=win.start
  have hUl:=ld_U_lt B32_le hV h0 hN hjm hhi
  have hinner:=id_inner g _ h0 hv hN hbig hjm hn2 hlo hg 4294967296
  have hXe:ldW B32 (dval B32 vs) u0 j/B32^vs.length%B32*4294967296+ldW B32 (dval B32 vs) u0 j/B32^(vs.length - 1)%B32=ldW B32 (dval B32 vs) u0 j/B32^(vs.length - 1):=by
   have hq:ldW B32 (dval B32 vs) u0 j/B32^vs.length<B32:=by
    rw[Nat.div_lt_iff_lt_mul (Nat.pow_pos (by decide)),Nat.mul_comm,←Nat.pow_succ]
    exact hUl
   rw[Nat.mod_eq_of_lt hq]
   have e:B32^vs.length=B32^(vs.length - 1)*B32:=by rw[←Nat.pow_succ];congr 1;omega
   rw[e,←Nat.div_div_eq_div_mul,Nat.mul_comm]
   exact Nat.div_add_mod _ _
  have hu1:ldW B32 (dval B32 vs) u0 j/B32^vs.length%B32<4294967296:=Nat.mod_lt _ (by decide)
  have hu0:ldW B32 (dval B32 vs) u0 j/B32^(vs.length - 1)%B32<4294967296:=Nat.mod_lt _ (by decide)
  generalize hX:ldW B32 (dval B32 vs) u0 j/B32^(vs.length - 1)=X at*
  generalize hv1e:dval B32 vs/B32^(vs.length - 1)=v1 at*
  generalize ldW B32 (dval B32 vs) u0 j/B32^vs.length%B32=ua at*
  generalize X%B32=ub at*
  have c0:(j:Int)≥0:=by omega
  have c1:(0:Int)≤((j+vs.length:Nat):Int):=by omega
  have c2:((j+vs.length:Nat):Int)<((m+vs.length:Nat):Int):=by omega
  have c3:(0:Int)≤((j+vs.length:Nat):Int) - 1:=by omega
  have c4:((j+vs.length:Nat):Int) - 1<((m+vs.length:Nat):Int):=by omega
  have c7:¬((v1:Int)=0):=by omega
  rw[hsl,←Int.natCast_add j,wr (x:=((j+vs.length:Nat):Int)) (by omega) (by omega),wr (x:=((j+vs.length:Nat):Int) - 1) (by omega) (by omega)]
  simp only[c0,c1,c2,c3,c4,c7,decide_true,decide_false,if_true,if_false,Bool.false_eq_true]
  rw[show 0+(((j+vs.length:Nat):Int)).toNat=j+vs.length by omega,show 0+(((j+vs.length:Nat):Int) - 1).toNat=j+(vs.length - 1) by omega,g3,g4]
  rw[wu (x:=(ua:Int)) (by omega) (by omega),wu (x:=(ub:Int)) (by omega) (by omega),wu (x:=(ua:Int)*4294967296) (by omega) (by omega),wu (x:=(ua:Int)*4294967296+(ub:Int)) (by omega) (by omega),show(ua:Int)*4294967296+(ub:Int)=(X:Int) by omega,Int.tdiv_eq_ediv_of_nonneg (by omega),Int.tmod_eq_emod_of_nonneg (by omega),←Int.natCast_ediv,←Int.natCast_emod]
  have hX18:X≤18446744073709551615:=by omega
  have hXd:X/v1≤X:=Nat.div_le_self _ _
  have hml:=Nat.mod_lt X hv1
  have hdm:X/v1*v1+X%v1=X:=by rw[Nat.mul_comm];exact Nat.div_add_mod _ _
  generalize X/v1=qq at*
  generalize X%v1=rr at*
  rw[wu (x:=(qq:Int)) (by omega) (by omega)]
  exact hinner qq rr k hdm hstart (by omega) (by omega) (by omega) (by omega)) (fun g=>by
  unfold P.i_nat_div_b18
  dsimp only
  rw[if_neg (by simp;omega),Nat.sub_self]
  have hVN:dval B32 vs≤B32^u0.length:=Nat.le_trans (Nat.le_of_lt hhi) (Nat.pow_le_pow_right (by decide) (by omega))
  obtain⟨l1,l2,l3,l4,l5,l6⟩:=ld_last B32_le hV h0 (show m≤u0.length by omega) ht hVN
  have hul:(nd B32 (dval B32 u0%dval B32 vs)).length≤u0.length:=by
   rw[nd_len B32_le,←l1,←l5]
   exact dval_lt l3
  have hl1:(ldU B32 (dval B32 vs) u0 0).length≤1000000000000:=by omega
  rw[if_pos (decide_eq_true hl1),trim_nd B32_le _ _ rfl l3,l1,id_down rfl hsh (by omega) l4 (by omega) k (by omega),l2]) (by omega)
 rw[Nat.sub_zero,f1,f2]at key
 rw[←key,show(m:Int) - 1 - ((0:Nat):Int)=(m:Int) - 1 by omega]
def S.i_nat_div (x:((List Int)×((List Int)×Unit))):(Option (((List Int)×(List Int))×Unit)):=if canon B32 x.1=true∧canon B32 x.2.1=true∧x.2.1≠ []∧x.1.length≤100000000∧x.2.1.length≤100000000 then some ((nd B32 (dval B32 x.1/dval B32 x.2.1),nd B32 (dval B32 x.1%dval B32 x.2.1)),())else none
theorem S.i_nat_div_ok (x:((List Int)×((List Int)×Unit))) (r:_) (h:S.i_nat_div x=some r):∃k,P.i_nat_div k x=some r:=by
 obtain⟨as,bs,u⟩:=x
 unfold S.i_nat_div at h
 dsimp only at h
 split at h
 case isFalse=>cases h
 rename_i hc
 obtain⟨ca,cb,hne,la,lb⟩:=hc
 cases h
 have da:=canon_dig ca
 have db:=canon_dig cb
 have hbpos:0<bs.length:=List.length_pos_iff.2 hne
 have hb0:dval B32 bs≠0:=by
  intro q
  have:=canon_eq cb
  rw[q,nd_zero B32_le]at this
  exact hne this.symm
 have hlow:=nd_low B32_le hb0
 rw[canon_eq cb]at hlow
 have hhib:=dval_lt db
 have hhia:=dval_lt da
 have sc:S.i_nat_cmp (as,(bs,()))=some (cmpN (dval B32 as) (dval B32 bs),()):=by
  unfold S.i_nat_cmp
  exact if_pos ⟨ca,cb,by dsimp only;omega⟩
 refine⟨(as.length+1)+4294967310,?_⟩
 unfold P.i_nat_div
 dsimp only
 rw[sc,Option.bind_some]
 dsimp only
 by_cases hlt:dval B32 as<dval B32 bs
 ·rw[if_pos (decide_eq_true (cmpN_lt.2 hlt)),Nat.div_eq_of_lt hlt,Nat.mod_eq_of_lt hlt,nd_zero B32_le,canon_eq ca]
 ·rw[if_neg (by simpa [cmpN_lt]using hlt)]
  by_cases h1:bs.length=1
  ·obtain⟨b0,rfl⟩:∃b0,bs=[b0]:=by
    match bs,h1 with
    | [b0],_=>exact⟨b0,rfl⟩
   rw[if_pos (by rfl),if_pos (by rfl)]
   have hb:dval B32 [b0]=b0.toNat:=by simp [dval]
   have hbd:=(dig_cons _ _).1 db
   have hbd1:b0<4294967296:=hbd.1.2
   rw[hb]at hb0 ⊢
   show Option.bind (S.i_nat_divSmall (as,(b0,()))) _=_
   unfold S.i_nat_divSmall
   dsimp only
   have hm:=Nat.mod_lt (dval B32 as) (show 0<b0.toNat by omega)
   rw[if_pos ⟨da,by omega,by omega,by omega⟩,Option.bind_some]
   dsimp only
   generalize dval B32 as%b0.toNat=M at*
   have hone:dig B32 [(M:Int)]=true:=by
    rw[dig_cons]
    refine⟨⟨by omega,?_⟩,rfl⟩
    show(M:Int)<4294967296
    omega
   have ht:=trim_nd B32_le 1 [(M:Int)] rfl hone
   rw[show dval B32 [(M:Int)]=M by simp [dval]]at ht
   rw[if_pos (by rfl),←ht]
   rfl
  ·rw[if_neg (by simp;omega)]
   have hn2:2≤bs.length:=by omega
   have c1:(0:Int)≤(bs.length:Int) - 1:=by omega
   have c2:(bs.length:Int) - 1<(bs.length:Int):=by omega
   have hbtB:dval B32 bs/B32^(bs.length - 1)<4294967296:=by
    have:dval B32 bs/B32^(bs.length - 1)<B32:=by
     rw[Nat.div_lt_iff_lt_mul (Nat.pow_pos (by decide)),Nat.mul_comm,←Nat.pow_succ,show(bs.length - 1).succ=bs.length by omega]
     exact hhib
    exact this
   have hbt0:0<dval B32 bs/B32^(bs.length - 1):=Nat.div_pos hlow (Nat.pow_pos (by decide))
   have g1:=dig_low B32_le db (i:=bs.length - 1) (by omega)
   rw[show dval B32 bs/B32^(bs.length - 1)%B32=dval B32 bs/B32^(bs.length - 1)from Nat.mod_eq_of_lt hbtB]at g1
   have hbt1:dval B32 bs<(dval B32 bs/B32^(bs.length - 1)+1)*B32^(bs.length - 1):=by
    have:=Nat.lt_div_mul_add (show 0<B32^(bs.length - 1)from Nat.pow_pos (by decide)) (a:=dval B32 bs)
    rw[Nat.add_mul,Nat.one_mul]
    exact this
   generalize hbt:dval B32 bs/B32^(bs.length - 1)=bt at*
   rw[wr (x:=(bs.length:Int) - 1) (by omega) (by omega),if_pos (decide_eq_true c1),if_pos (decide_eq_true c2),show((bs.length:Int) - 1).toNat=bs.length - 1 by omega,g1]
   unfold S.math_bits_LeadingZeros32
   dsimp only
   rw[if_pos ⟨by omega,by omega⟩,Option.bind_some,Int.toNat_natCast]
   dsimp only
   obtain⟨b1,b2,b3⟩:=Go.Lib.bitLenAux_bounds 64 bt (by omega) (by omega)
   have hL32:Go.Lib.bitLen bt≤32:=Go.Lib.bitLen_le bt 32 (by decide) (by omega)
   have hL:Go.Lib.bitLen bt=Go.Lib.bitLenAux 64 bt:=rfl
   rw[←hL]at b1 b2 b3
   generalize Go.Lib.bitLen bt=L at*
   obtain⟨sh,hsh⟩:∃sh:Nat,sh=32 - L:=⟨_,rfl⟩
   have hsh1:sh≤31:=by omega
   have hsI:(32:Int) - (L:Int)=(sh:Int):=by omega
   rw[hsI]
   have hpow:0<2^sh:=Nat.pow_pos (by decide)
   have hd2:(bt+1)*2^sh≤B32:=by
    have h3:(bt+1)*2^sh≤2^L*2^sh:=Nat.mul_le_mul_right _ b3
    rw[←Nat.pow_add,show L+sh=32 by omega]at h3
    exact h3
   have m1:S.i_nat_shifted (as,((sh:Int),()))=some (fd B32 (as.length+1) (dval B32 as*2^sh),()):=by
    unfold S.i_nat_shifted
    exact if_pos ⟨da,by dsimp only;omega,by dsimp only;omega,by dsimp only;omega⟩
   have m2:S.i_nat_shifted (bs,((sh:Int),()))=some (fd B32 (bs.length+1) (dval B32 bs*2^sh),()):=by
    unfold S.i_nat_shifted
    exact if_pos ⟨db,by dsimp only;omega,by dsimp only;omega,by dsimp only;omega⟩
   rw[m1,Option.bind_some,m2,Option.bind_some]
   dsimp only
   have hvhi:dval B32 bs*2^sh<B32^bs.length:=by
    have h3:dval B32 bs*2^sh<(bt+1)*B32^(bs.length - 1)*2^sh:=Nat.mul_lt_mul_of_pos_right hbt1 hpow
    have h4:(bt+1)*B32^(bs.length - 1)*2^sh=(bt+1)*2^sh*B32^(bs.length - 1):=by ac_rfl
    have h5:(bt+1)*2^sh*B32^(bs.length - 1)≤B32*B32^(bs.length - 1):=Nat.mul_le_mul_right _ hd2
    have h6:B32*B32^(bs.length - 1)=B32^bs.length:=by rw[Nat.mul_comm,←Nat.pow_succ];congr 1;omega
    omega
   have hvlo:B32^(bs.length - 1)≤dval B32 bs*2^sh:=Nat.le_trans hlow (Nat.le_mul_of_pos_right _ hpow)
   have hvl:(nd B32 (dval B32 bs*2^sh)).length=bs.length:=by
    have h3:=(nd_len B32_le (dval B32 bs*2^sh) bs.length).2 hvhi
    have h4:=nd_len B32_le (dval B32 bs*2^sh) (bs.length - 1)
    have h5:¬(nd B32 (dval B32 bs*2^sh)).length≤bs.length - 1:=by
     rw[h4]
     omega
    omega
   have hahi:dval B32 as*2^sh<B32^(as.length+1):=by
    have h3:2^sh≤B32:=Nat.le_trans (Nat.pow_le_pow_right (by decide) hsh1) (by decide)
    rw[Nat.pow_succ]
    exact Nat.lt_of_lt_of_le (Nat.mul_lt_mul_of_pos_right hhia hpow) (Nat.mul_le_mul_left _ h3)
   have hab:bs.length≤as.length:=by
    rcases Nat.lt_or_ge as.length bs.length with g|g
    ·have:=canon_small B32_le ca cb g
     omega
    ·exact g
   have htr:List.take (List.length (List.dropWhile (fun y:Int=>(y==(0:Int))) (List.reverseAux (fd B32 (bs.length+1) (dval B32 bs*2^sh)) ([]:List Int)))) (fd B32 (bs.length+1) (dval B32 bs*2^sh))=nd B32 (dval B32 bs*2^sh):=by
    rw[trim_nd B32_le _ _ rfl (dig_fd (by decide) _ _),nd_fd B32_le (Nat.lt_of_lt_of_le hvhi (Nat.pow_le_pow_right (by decide) (by omega)))]
   rw[htr,fd_len,fd_len]
   have hdw:dval B32 (nd B32 (dval B32 bs*2^sh))=dval B32 bs*2^sh:=dval_nd B32_le _
   have hdv':=dig_nd B32_le (dval B32 bs*2^sh)
   have hu0:dval B32 (fd B32 (as.length+1) (dval B32 as*2^sh))=dval B32 as*2^sh:=by rw[dval_fd,Nat.mod_eq_of_lt hahi]
   have hul:(fd B32 (as.length+1) (dval B32 as*2^sh)).length=as.length+1:=fd_len _ _ _
   have hud:dig B32 (fd B32 (as.length+1) (dval B32 as*2^sh))=true:=dig_fd (by decide) _ _
   generalize nd B32 (dval B32 bs*2^sh)=vs at*
   generalize fd B32 (as.length+1) (dval B32 as*2^sh)=u0 at*
   have ht:dval B32 (u0.drop (as.length+1 - bs.length))<dval B32 bs*2^sh:=ld_top (n:=vs.length) B32_le hud hu0 hpow (by omega) (by rw[show as.length+1 - bs.length+vs.length - 1=as.length by omega];exact hhia) (by omega) (by rw[hvl];exact hlow)
   have hmain:=id_outer (m:=as.length+1 - bs.length) (sh:=sh) hud hdv' (by omega) (by omega) (by omega) (by rw[hvl,hdw];exact hvlo) hsh1 (by rw[hdw];exact ht) ((as.length+1)+4294967310) (by omega)
   have g2:=dig_low B32_le hdv' (i:=vs.length - 1) (by omega)
   have g3:=dig_low B32_le hdv' (i:=vs.length - 2) (by omega)
   have hv1B:dval B32 vs/B32^(vs.length - 1)<4294967296:=by
    have:dval B32 vs/B32^(vs.length - 1)<B32:=by
     rw[Nat.div_lt_iff_lt_mul (Nat.pow_pos (by decide)),Nat.mul_comm,←Nat.pow_succ,show(vs.length - 1).succ=vs.length by omega]
     exact dval_lt hdv'
    exact this
   rw[show dval B32 vs/B32^(vs.length - 1)%B32=dval B32 vs/B32^(vs.length - 1)from Nat.mod_eq_of_lt hv1B]at g2
   have hv2B:dval B32 vs/B32^(vs.length - 2)%B32<4294967296:=Nat.mod_lt _ (by decide)
   generalize dval B32 vs/B32^(vs.length - 1)=v1 at*
   generalize dval B32 vs/B32^(vs.length - 2)%B32=v2 at*
   have e9:(((as.length+1:Nat):Int) - (vs.length:Int))=((as.length+1 - bs.length:Nat):Int):=by omega
   have c3:(bs.length+1)≤1000000000000:=by omega
   have c4:(0:Int)≤(vs.length:Int) - 1:=by omega
   have c5:(vs.length:Int) - 1<(vs.length:Int):=by omega
   have c6:(0:Int)≤(vs.length:Int) - 2:=by omega
   have c7:(vs.length:Int) - 2<(vs.length:Int):=by omega
   have c8:(0:Int)≤((as.length+1 - bs.length:Nat):Int):=by omega
   have c9:((as.length+1 - bs.length:Nat):Int)*4≤281474976710656:=by omega
   rw[e9,wr (x:=((as.length+1 - bs.length:Nat):Int)) (by omega) (by omega),wr (x:=(vs.length:Int) - 1) (by omega) (by omega),wr (x:=(vs.length:Int) - 2) (by omega) (by omega)]
   simp only[c3,c4,c5,c6,c7,c8,c9,decide_true,if_true,Int.le_refl,Int.toNat_natCast,List.length_replicate,Nat.zero_add]
   rw[show((vs.length:Int) - 1).toNat=vs.length - 1 by omega,show((vs.length:Int) - 2).toNat=vs.length - 2 by omega,g2,g3,wu (x:=(v1:Int)) (by omega) (by omega),wu (x:=(v2:Int)) (by omega) (by omega),wr (x:=((as.length+1 - bs.length:Nat):Int) - 1) (by omega) (by omega),hmain,hu0,hdw,Nat.mul_div_mul_right _ _ hpow,Nat.mul_mod_mul_right,Nat.mul_div_cancel _ hpow]
abbrev P.i_nat_gcd_b5 (x6:(Int×(Int×Unit))) (g7:(Int×(Int×Unit))→Option ((List Int)×Unit)):Option ((List Int)×Unit):=
 (if((decide (x6.1>(0:Int)))=true)then(if((decide (x6.1=(0:Int)))=true)then none
 else(g7 ((Int.tmod x6.2.1 x6.1),(x6.1,()))))
 else(Option.bind (S.i_natOf (x6.2.1,())) (fun(y8:((List Int)×Unit))=>(some (y8.1,())))))
abbrev P.i_nat_gcd_b0 (k:Nat) (x1:((List Int)×((List Int)×Unit))) (g2:((List Int)×((List Int)×Unit))→Option ((List Int)×Unit)):Option ((List Int)×Unit):=
 (if((decide (((List.length x1.1):Int)>(0:Int)))=true)then(Option.bind (S.i_nat_small (x1.2.1,())) (fun(y3:((Int×Bool)×Unit))=>(Option.bind (S.i_nat_small (x1.1,())) (fun(y4:((Int×Bool)×Unit))=>(if(y3.1.2=true)then(if(y4.1.2=true)then(loopP (X:=(Int×(Int×Unit))) (R:=((List Int)×Unit)) (P.i_nat_gcd_b5) k (y4.1.1,(y3.1.1,())))
 else(Option.bind (S.i_nat_div (x1.2.1,(x1.1,()))) (fun(y9:(((List Int)×(List Int))×Unit))=>(g2 (y9.1.2,(x1.1,()))))))
 else(Option.bind (S.i_nat_div (x1.2.1,(x1.1,()))) (fun(y10:(((List Int)×(List Int))×Unit))=>(g2 (y10.1.2,(x1.1,()))))))))))
 else(some (x1.2.1,())))
def P.i_nat_gcd (k:Nat) (x:((List Int)×((List Int)×Unit))):(Option ((List Int)×Unit)):=
 (loopP (X:=((List Int)×((List Int)×Unit))) (R:=((List Int)×Unit)) (P.i_nat_gcd_b0 k) k (x.2.1,(x.1,())))
theorem ig_canon_pos {B:Nat} (hB:2≤B) {xs:List Int} (h:canon B xs=true) (hn:xs≠ []):dval B xs≠0:=by
 intro q
 have:=canon_eq h
 rw[q,nd_zero hB]at this
 exact hn this.symm
theorem ig_shorter {B:Nat} (hB:2≤B) {m n:Nat} (h:m≤n):(nd B m).length≤(nd B n).length:=by
 rw[nd_len hB]
 exact Nat.lt_of_le_of_lt h ((nd_len hB n _).1 (Nat.le_refl _))
theorem ig_small (n:Nat):∀(x y:Nat) (k:Nat),y≤n→n<k→x<18446744073709551616→y<18446744073709551616→loopP P.i_nat_gcd_b5 k ((y:Int),((x:Int),()))=some (nd B32 (Nat.gcd x y),()):=by
 induction n using Nat.strongRecOn with
 |ind n ih=>
  intro x y k hn hk hx hy
  obtain⟨k,rfl⟩:∃j,k=j+1:=⟨k - 1,by omega⟩
  rw[loopP_succ]
  unfold P.i_nat_gcd_b5
  dsimp only
  by_cases hb:y=0
  ·subst hb
   rw[if_neg (by simp),Nat.gcd_zero_right]
   unfold S.i_natOf
   dsimp only
   rw[if_pos ⟨by omega,by omega⟩,Option.bind_some,Int.toNat_natCast]
  ·have hm:=Nat.mod_lt x (show 0<y by omega)
   have c1:(y:Int)>0:=by omega
   have c2:¬((y:Int)=0):=by omega
   rw[if_pos (decide_eq_true c1),if_neg (by simpa using hb),Int.tmod_eq_emod_of_nonneg (by omega),←Int.natCast_emod,ih (x%y) (by omega) y (x%y) k (Nat.le_refl _) (by omega) hy (by omega),gcd_step]
theorem ig_loop (K n:Nat):∀(as bs:List Int) (k:Nat),canon B32 as=true→canon B32 bs=true→as.length≤100000000→bs.length≤100000000→dval B32 bs≤n→n<k→n<K→loopP (P.i_nat_gcd_b0 K) k (bs,(as,()))=some (nd B32 (Nat.gcd (dval B32 as) (dval B32 bs)),()):=by
 induction n using Nat.strongRecOn with
 |ind n ih=>
  intro as bs k ca cb la lb hn hk hK
  obtain⟨k,rfl⟩:∃j,k=j+1:=⟨k - 1,by omega⟩
  rw[loopP_succ]
  unfold P.i_nat_gcd_b0
  dsimp only
  by_cases hb:bs=[]
  ·subst hb
   rw[if_neg (by simp),show dval B32 []=0 from rfl,Nat.gcd_zero_right,canon_eq ca]
  ·have hpos:0<bs.length:=List.length_pos_iff.2 hb
   have hb0:=ig_canon_pos B32_le cb hb
   have hm:=Nat.mod_lt (dval B32 as) (show 0<dval B32 bs by omega)
   have hc:(bs.length:Int)>0:=by omega
   rw[if_pos (decide_eq_true hc)]
   have sa:S.i_nat_small (as,())=some ((if as.length≤2 then((dval B32 as:Nat):Int)else 0,decide (as.length≤2)),()):=by
    unfold S.i_nat_small
    exact if_pos ⟨canon_dig ca,by dsimp only;omega⟩
   have sb:S.i_nat_small (bs,())=some ((if bs.length≤2 then((dval B32 bs:Nat):Int)else 0,decide (bs.length≤2)),()):=by
    unfold S.i_nat_small
    exact if_pos ⟨canon_dig cb,by dsimp only;omega⟩
   rw[sa,Option.bind_some,sb,Option.bind_some]
   dsimp only
   have hsmall:∀xs:List Int,dig B32 xs=true→xs.length≤2→dval B32 xs<18446744073709551616:=by
    intro xs hd hl
    have h1:=dval_lt hd
    have h2:B32^xs.length≤B32^2:=Nat.pow_le_pow_right (by decide) hl
    have h3:B32^2=18446744073709551616:=rfl
    omega
   have hbig:Option.bind (S.i_nat_div (as,(bs,()))) (fun(y9:(((List Int)×(List Int))×Unit))=>(loopP (P.i_nat_gcd_b0 K) k (y9.1.2,(bs,()))))=some (nd B32 (Nat.gcd (dval B32 as) (dval B32 bs)),()):=by
    unfold S.i_nat_div
    dsimp only
    rw[if_pos ⟨ca,cb,hb,la,lb⟩,Option.bind_some]
    dsimp only
    have hl:(nd B32 (dval B32 as%dval B32 bs)).length≤bs.length:=by
     have:=ig_shorter B32_le (Nat.le_of_lt hm)
     rwa [canon_eq cb]at this
    have hd:dval B32 (nd B32 (dval B32 as%dval B32 bs))=dval B32 as%dval B32 bs:=dval_nd B32_le _
    rw[ih (dval B32 as%dval B32 bs) (by omega) bs _ k cb (canon_nd B32_le _) lb (by omega) (by rw[hd];exact Nat.le_refl _) (by omega) (by omega),hd,gcd_step]
   by_cases c1:as.length≤2
   ·by_cases c2:bs.length≤2
    ·have s1:=hsmall as (canon_dig ca) c1
     have s2:=hsmall bs (canon_dig cb) c2
     simp only[c1,c2,decide_true,if_true]
     exact ig_small n _ _ K hn hK s1 s2
    ·rw[if_pos (decide_eq_true c1),if_neg (by simpa using c2)]
     exact hbig
   ·rw[if_neg (by simpa using c1)]
    exact hbig
def S.i_nat_gcd (x:((List Int)×((List Int)×Unit))):(Option ((List Int)×Unit)):=if canon B32 x.1=true∧canon B32 x.2.1=true∧x.1.length≤100000000∧x.2.1.length≤100000000 then some (nd B32 (Nat.gcd (dval B32 x.1) (dval B32 x.2.1)),())else none
theorem S.i_nat_gcd_ok (x:((List Int)×((List Int)×Unit))) (r:_) (h:S.i_nat_gcd x=some r):∃k,P.i_nat_gcd k x=some r:=by
 obtain⟨as,bs,u⟩:=x
 unfold S.i_nat_gcd at h
 dsimp only at h
 split at h
 case isFalse=>cases h
 rename_i hc
 obtain⟨ca,cb,la,lb⟩:=hc
 cases h
 refine⟨dval B32 bs+1,?_⟩
 unfold P.i_nat_gcd
 exact ig_loop _ (dval B32 bs) as bs _ ca cb la lb (Nat.le_refl _) (by omega) (by omega)
def S.strconv_ParseUint (x:(ByteArray×(Int×(Int×Unit)))):(Option ((Int×Bool)×Unit)):=if x.2.1=10∧x.2.2.1=64∧x.1.size≤281474976710656 then some (match Go.Lib.parseUintB 64 x.1.data.toList with| .ok v=>(((v:Nat):Int),false)| .«syntax» =>(0,true)| .range=>(18446744073709551615,true),())else none
abbrev P.i_nat_add_b0 (x1:(Int×(Int×(Int×((List Int)×((List Int)×((List Int)×Unit))))))) (g2:(Int×(Int×(Int×((List Int)×((List Int)×((List Int)×Unit))))))→Option ((List Int)×Unit)):Option ((List Int)×Unit):=
 (if((decide (x1.1<x1.2.1))=true)then(if((decide ((0:Int)≤x1.1))=true)then(if((decide (x1.1<((List.length x1.2.2.2.1):Int)))=true)then(if((decide (x1.1<((List.length x1.2.2.2.2.1):Int)))=true)then(if((decide ((0:Int)≤x1.1))=true)then(if((decide (x1.1<((List.length x1.2.2.2.2.1):Int)))=true)then(if((decide ((0:Int)≤x1.1))=true)then(if((decide (x1.1<((List.length x1.2.2.2.2.2.1):Int)))=true)then(g2 ((IntKind.wrap .i64 (x1.1+(1:Int))),(x1.2.1,((Int.fdiv (IntKind.wrap .u64 ((IntKind.wrap .u64 (x1.2.2.1+(IntKind.wrap .u64 (List.getD x1.2.2.2.1 (Int.toNat x1.1) (0:Int)))))+(IntKind.wrap .u64 (List.getD x1.2.2.2.2.1 (Int.toNat x1.1) (0:Int))))) (4294967296:Int)),(x1.2.2.2.1,(x1.2.2.2.2.1,((List.set x1.2.2.2.2.2.1 ((0:Nat)+(Int.toNat x1.1)) (IntKind.wrap .u32 (IntKind.wrap .u64 ((IntKind.wrap .u64 (x1.2.2.1+(IntKind.wrap .u64 (List.getD x1.2.2.2.1 (Int.toNat x1.1) (0:Int)))))+(IntKind.wrap .u64 (List.getD x1.2.2.2.2.1 (Int.toNat x1.1) (0:Int))))))),())))))))
 else none)
 else none)
 else none)
 else none)
 else(if((decide ((0:Int)≤x1.1))=true)then(if((decide (x1.1<((List.length x1.2.2.2.2.2.1):Int)))=true)then(g2 ((IntKind.wrap .i64 (x1.1+(1:Int))),(x1.2.1,((Int.fdiv (IntKind.wrap .u64 (x1.2.2.1+(IntKind.wrap .u64 (List.getD x1.2.2.2.1 (Int.toNat x1.1) (0:Int))))) (4294967296:Int)),(x1.2.2.2.1,(x1.2.2.2.2.1,((List.set x1.2.2.2.2.2.1 ((0:Nat)+(Int.toNat x1.1)) (IntKind.wrap .u32 (IntKind.wrap .u64 (x1.2.2.1+(IntKind.wrap .u64 (List.getD x1.2.2.2.1 (Int.toNat x1.1) (0:Int))))))),())))))))
 else none)
 else none))
 else none)
 else none)
 else(if((decide ((0:Int)≤((List.length x1.2.2.2.1):Int)))=true)then(if((decide (((List.length x1.2.2.2.1):Int)<((List.length x1.2.2.2.2.2.1):Int)))=true)then(Option.bind (S.i_nat_trim ((List.set x1.2.2.2.2.2.1 ((0:Nat)+(Int.toNat ((List.length x1.2.2.2.1):Int))) (IntKind.wrap .u32 x1.2.2.1)),())) (fun(y3:((List Int)×Unit))=>(some (y3.1,()))))
 else none)
 else none))
abbrev P.i_nat_add_b4 (x5:(Int×(Int×(Int×((List Int)×((List Int)×((List Int)×Unit))))))) (g6:(Int×(Int×(Int×((List Int)×((List Int)×((List Int)×Unit))))))→Option ((List Int)×Unit)):Option ((List Int)×Unit):=
 (if((decide (x5.1<x5.2.1))=true)then(if((decide ((0:Int)≤x5.1))=true)then(if((decide (x5.1<((List.length x5.2.2.2.1):Int)))=true)then(if((decide (x5.1<((List.length x5.2.2.2.2.1):Int)))=true)then(if((decide ((0:Int)≤x5.1))=true)then(if((decide (x5.1<((List.length x5.2.2.2.2.1):Int)))=true)then(if((decide ((0:Int)≤x5.1))=true)then(if((decide (x5.1<((List.length x5.2.2.2.2.2.1):Int)))=true)then(g6 ((IntKind.wrap .i64 (x5.1+(1:Int))),(x5.2.1,((Int.fdiv (IntKind.wrap .u64 ((IntKind.wrap .u64 (x5.2.2.1+(IntKind.wrap .u64 (List.getD x5.2.2.2.1 (Int.toNat x5.1) (0:Int)))))+(IntKind.wrap .u64 (List.getD x5.2.2.2.2.1 (Int.toNat x5.1) (0:Int))))) (4294967296:Int)),(x5.2.2.2.1,(x5.2.2.2.2.1,((List.set x5.2.2.2.2.2.1 ((0:Nat)+(Int.toNat x5.1)) (IntKind.wrap .u32 (IntKind.wrap .u64 ((IntKind.wrap .u64 (x5.2.2.1+(IntKind.wrap .u64 (List.getD x5.2.2.2.1 (Int.toNat x5.1) (0:Int)))))+(IntKind.wrap .u64 (List.getD x5.2.2.2.2.1 (Int.toNat x5.1) (0:Int))))))),())))))))
 else none)
 else none)
 else none)
 else none)
 else(if((decide ((0:Int)≤x5.1))=true)then(if((decide (x5.1<((List.length x5.2.2.2.2.2.1):Int)))=true)then(g6 ((IntKind.wrap .i64 (x5.1+(1:Int))),(x5.2.1,((Int.fdiv (IntKind.wrap .u64 (x5.2.2.1+(IntKind.wrap .u64 (List.getD x5.2.2.2.1 (Int.toNat x5.1) (0:Int))))) (4294967296:Int)),(x5.2.2.2.1,(x5.2.2.2.2.1,((List.set x5.2.2.2.2.2.1 ((0:Nat)+(Int.toNat x5.1)) (IntKind.wrap .u32 (IntKind.wrap .u64 (x5.2.2.1+(IntKind.wrap .u64 (List.getD x5.2.2.2.1 (Int.toNat x5.1) (0:Int))))))),())))))))
 else none)
 else none))
 else none)
 else none)
 else(if((decide ((0:Int)≤((List.length x5.2.2.2.1):Int)))=true)then(if((decide (((List.length x5.2.2.2.1):Int)<((List.length x5.2.2.2.2.2.1):Int)))=true)then(Option.bind (S.i_nat_trim ((List.set x5.2.2.2.2.2.1 ((0:Nat)+(Int.toNat ((List.length x5.2.2.2.1):Int))) (IntKind.wrap .u32 x5.2.2.1)),())) (fun(y7:((List Int)×Unit))=>(some (y7.1,()))))
 else none)
 else none))
def P.i_nat_add (k:Nat) (x:((List Int)×((List Int)×Unit))):(Option ((List Int)×Unit)):=
 (if((decide (((List.length x.1):Int)<((List.length x.2.1):Int)))=true)then(if((decide ((0:Int)≤(IntKind.wrap .i64 (((List.length x.2.1):Int)+(1:Int)))))=true)then(if((decide ((IntKind.wrap .i64 (((List.length x.2.1):Int)+(1:Int)))≤(IntKind.wrap .i64 (((List.length x.2.1):Int)+(1:Int)))))=true)then(if((decide (((IntKind.wrap .i64 (((List.length x.2.1):Int)+(1:Int)))*(4:Int))≤(281474976710656:Int)))=true)then(loopP (X:=(Int×(Int×(Int×((List Int)×((List Int)×((List Int)×Unit))))))) (R:=((List Int)×Unit)) (P.i_nat_add_b0) k ((0:Int),(((List.length x.2.1):Int),((0:Int),(x.2.1,(x.1,((List.replicate (Int.toNat (IntKind.wrap .i64 (((List.length x.2.1):Int)+(1:Int)))) (0:Int)),())))))))
 else none)
 else none)
 else none)
 else(if((decide ((0:Int)≤(IntKind.wrap .i64 (((List.length x.1):Int)+(1:Int)))))=true)then(if((decide ((IntKind.wrap .i64 (((List.length x.1):Int)+(1:Int)))≤(IntKind.wrap .i64 (((List.length x.1):Int)+(1:Int)))))=true)then(if((decide (((IntKind.wrap .i64 (((List.length x.1):Int)+(1:Int)))*(4:Int))≤(281474976710656:Int)))=true)then(loopP (X:=(Int×(Int×(Int×((List Int)×((List Int)×((List Int)×Unit))))))) (R:=((List Int)×Unit)) (P.i_nat_add_b4) k ((0:Int),(((List.length x.1):Int),((0:Int),(x.1,(x.2.1,((List.replicate (Int.toNat (IntKind.wrap .i64 (((List.length x.1):Int)+(1:Int)))) (0:Int)),())))))))
 else none)
 else none)
 else none))
theorem add_loop (b:(Int×(Int×(Int×((List Int)×((List Int)×((List Int)×Unit))))))→((Int×(Int×(Int×((List Int)×((List Int)×((List Int)×Unit))))))→Option ((List Int)×Unit))→Option ((List Int)×Unit)) (hb:b=P.i_nat_add_b0)
  (xs ys:List Int) (hx:dig B32 xs=true) (hy:dig B32 ys=true) (hl:ys.length≤xs.length) (hbig:xs.length≤100000000000):
  loopP b (xs.length+1) ((0:Int),((xs.length:Int),((0:Int),(xs,(ys,(List.replicate (xs.length+1) 0,()))))))=some (nd B32 (dval B32 xs+dval B32 ys),()):=by
 subst hb
 have key:=loop_up0 (k:=xs.length+1) (b:=P.i_nat_add_b0) (n:=xs.length) (st:=fun i=>((i:Int),(xs.length:Int),((addUp B32 xs ys i).2:Int),xs,ys,(addUp B32 xs ys i).1++List.replicate (xs.length+1 - i) 0,())) (F:=fun i=>some (nd B32 (dval B32 xs+dval B32 ys),())) (fun i g hi hg=>by
  unfold P.i_nat_add_b0
  dsimp only at hg ⊢
  obtain⟨q1,q2,q3,q4⟩:=addUp_ok B32_le hx hy i
  have gx:=dig_getD (B:=B32) (by decide) hx i
  have gy:=dig_getD (B:=B32) (by decide) hy i
  have gx1:xs.getD i 0<4294967296:=gx.2
  have gy1:ys.getD i 0<4294967296:=gy.2
  have gx0:=gx.1
  have gy0:=gy.1
  have hlen:((addUp B32 xs ys i).1++List.replicate (xs.length+1 - i) (0:Int)).length=xs.length+1:=by rw[List.length_append,q2,List.length_replicate];omega
  have e1:(i:Int)<(xs.length:Int):=by omega
  have e2:(0:Int)≤(i:Int):=by omega
  have e3:(i:Int)<((xs.length+1:Nat):Int):=by omega
  have hset:∀v:Int,((addUp B32 xs ys i).1++List.replicate (xs.length+1 - i) (0:Int)).set i v=((addUp B32 xs ys i).1++[v])++List.replicate (xs.length+1 - (i+1)) 0:=by
   intro v
   have z1:xs.length+1 - i=(xs.length+1 - (i+1))+1:=by omega
   rw[z1,List.replicate_succ,List.set_append_right _ _ (by omega),q2,Nat.sub_self,List.append_assoc]
   rfl
  rw[hlen]
  simp only[e1,e2,e3,decide_true,if_true,Nat.zero_add,Int.toNat_natCast,hset]
  have hnat:∀n:Nat,n=(addUp B32 xs ys i).2+(xs.getD i 0).toNat+(ys.getD i 0).toNat→(((n%B32:Nat):Int)=(n:Int)%4294967296∧((n/B32:Nat):Int)=(n:Int)/4294967296):=by
   intro n _
   constructor
   ·show((n%4294967296:Nat):Int)=_;omega
   ·show((n/4294967296:Nat):Int)=_;omega
  obtain⟨n1,n2⟩:=hnat _ rfl
  rw[addUp]at hg
  dsimp only at hg
  rw[n1,n2]at hg
  by_cases hj:(i:Int)<(ys.length:Int)
  ·rw[if_pos (decide_eq_true hj),if_pos (decide_eq_true hj)]
   rw[wu (x:=xs.getD i 0) (by omega) (by omega),wu (x:=ys.getD i 0) (by omega) (by omega),wu (x:=((addUp B32 xs ys i).2:Int)+xs.getD i 0) (by omega) (by omega),wu (x:=((addUp B32 xs ys i).2:Int)+xs.getD i 0+ys.getD i 0) (by omega) (by omega),u32_mod _ (by omega),Int.fdiv_eq_ediv_of_nonneg _ (by omega),wr (by omega) (by omega)]
   have e:(((addUp B32 xs ys i).2+(xs.getD i 0).toNat+(ys.getD i 0).toNat:Nat):Int)=((addUp B32 xs ys i).2:Int)+xs.getD i 0+ys.getD i 0:=by omega
   rw[e]at hg
   exact hg
  ·rw[if_neg (by simpa using hj)]
   have y0:ys.getD i 0=0:=by rw[List.getD_eq_getElem?_getD,List.getElem?_eq_none (by omega)];rfl
   rw[wu (x:=xs.getD i 0) (by omega) (by omega),wu (x:=((addUp B32 xs ys i).2:Int)+xs.getD i 0) (by omega) (by omega),u32_mod _ (by omega),Int.fdiv_eq_ediv_of_nonneg _ (by omega),wr (by omega) (by omega)]
   have e:(((addUp B32 xs ys i).2+(xs.getD i 0).toNat+(ys.getD i 0).toNat:Nat):Int)=((addUp B32 xs ys i).2:Int)+xs.getD i 0:=by omega
   rw[e]at hg
   exact hg) (fun g=>by
  unfold P.i_nat_add_b0
  dsimp only
  obtain⟨q1,q2,q3,q4⟩:=addUp_ok B32_le hx hy xs.length
  have hlen:((addUp B32 xs ys xs.length).1++List.replicate (xs.length+1 - xs.length) (0:Int)).length=xs.length+1:=by rw[List.length_append,q2,List.length_replicate];omega
  have e2:(0:Int)≤(xs.length:Int):=by omega
  have e3:(xs.length:Int)<((xs.length+1:Nat):Int):=by omega
  rw[if_neg (by simp),hlen,if_pos (decide_eq_true e2),if_pos (decide_eq_true e3),Nat.zero_add,Int.toNat_natCast]
  have hset:∀v:Int,((addUp B32 xs ys xs.length).1++List.replicate (xs.length+1 - xs.length) (0:Int)).set xs.length v=(addUp B32 xs ys xs.length).1++[v]:=by
   intro v
   have z1:xs.length+1 - xs.length=1:=by omega
   rw[z1,List.set_append_right _ _ (by omega),q2,Nat.sub_self]
   rfl
  rw[hset,w32 (by omega) (by omega)]
  have hd:dig B32 ((addUp B32 xs ys xs.length).1++[((addUp B32 xs ys xs.length).2:Int)])=true:=by
   rw[dig_append,q1,Bool.true_and,dig_cons]
   refine⟨⟨by omega,?_⟩,rfl⟩
   show _<(4294967296:Int)
   omega
  rw[trim_i _ hd (by simp [q2];omega),Option.bind_some]
  have ev:dval B32 ((addUp B32 xs ys xs.length).1++[((addUp B32 xs ys xs.length).2:Int)])=dval B32 xs+dval B32 ys:=by
   rw[dval_append,q2]
   have e:dval B32 [((addUp B32 xs ys xs.length).2:Int)]=(addUp B32 xs ys xs.length).2:=by simp [dval]
   rw[e,q3,List.take_length,List.take_of_length_le hl]
  rw[ev]) (by omega)
 exact key
def S.i_nat_add (x:((List Int)×((List Int)×Unit))):(Option ((List Int)×Unit)):=if dig B32 x.1=true∧dig B32 x.2.1=true∧x.1.length≤10000000000∧x.2.1.length≤10000000000 then some (nd B32 (dval B32 x.1+dval B32 x.2.1),())else none
theorem S.i_nat_add_ok (x:((List Int)×((List Int)×Unit))) (r:_) (h:S.i_nat_add x=some r):∃k,P.i_nat_add k x=some r:=by
 obtain⟨xs,ys,u⟩:=x
 unfold S.i_nat_add at h
 dsimp only at h
 split at h
 case isFalse=>cases h
 rename_i hc
 obtain⟨dx,dy,lx,ly⟩:=hc
 cases h
 by_cases hlt:xs.length<ys.length
 ·refine⟨ys.length+1,?_⟩
  unfold P.i_nat_add
  dsimp only
  have a1:(0:Int)≤(ys.length:Int)+1:=by omega
  have a3:((ys.length:Int)+1)*4≤281474976710656:=by omega
  rw[if_pos (decide_eq_true (by omega)),wr (by omega) (by omega),if_pos (decide_eq_true a1),if_pos (decide_eq_true (Int.le_refl _)),if_pos (decide_eq_true a3)]
  rw[show((ys.length:Int)+1).toNat=ys.length+1 by omega,add_loop P.i_nat_add_b0 rfl ys xs dy dx (by omega) (by omega),Nat.add_comm]
 ·refine⟨xs.length+1,?_⟩
  unfold P.i_nat_add
  dsimp only
  have a1:(0:Int)≤(xs.length:Int)+1:=by omega
  have a3:((xs.length:Int)+1)*4≤281474976710656:=by omega
  rw[if_neg (by simp;omega),wr (by omega) (by omega),if_pos (decide_eq_true a1),if_pos (decide_eq_true (Int.le_refl _)),if_pos (decide_eq_true a3)]
  rw[show((xs.length:Int)+1).toNat=xs.length+1 by omega]
  exact add_loop P.i_nat_add_b4 rfl xs ys dx dy (by omega) (by omega)
end Go.Cm
end
