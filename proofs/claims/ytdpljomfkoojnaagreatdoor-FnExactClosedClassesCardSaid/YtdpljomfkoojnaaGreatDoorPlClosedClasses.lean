import Derived.Test.YtdpljomfkoojnaaGreatDoorPlClosedClassesc
set_option linter.unusedVariables false
set_option maxRecDepth 100000
noncomputable section
namespace Go.Cm
abbrev P.i_reach_b3 (g2:List Int×List (List (Bool×List Int×List Int))×List Bool×Unit→Option (List Bool×Unit)) (x4:Int×Int×List (Bool×List Int×List Int)×List Bool×List Int×List (List (Bool×List Int×List Int))×Unit) (g5:Int×Int×List (Bool×List Int×List Int)×List Bool×List Int×List (List (Bool×List Int×List Int))×Unit→Option (List Bool×Unit)):Option (List Bool×Unit):=
 if decide (x4.1<x4.2.1)then if decide ((0:Int)≤x4.1)then if decide (x4.1<(x4.2.2.1.length:Int))then(S.i_rat_sign (((x4.2.2.1.getD x4.1.toNat (false,([]:List Int),([]:List Int))).1,(x4.2.2.1.getD x4.1.toNat (false,([]:List Int),([]:List Int))).2.1,(x4.2.2.1.getD x4.1.toNat (false,([]:List Int),([]:List Int))).2.2),())).bind fun y6=>if decide (y6.1>(0:Int))then if decide ((0:Int)≤x4.1)then if decide (x4.1<(x4.2.2.2.1.length:Int))then if ! (x4.2.2.2.1.getD ((0:Nat)+x4.1.toNat) false)then if decide ((0:Int)≤x4.1)then if decide (x4.1<(x4.2.2.2.1.length:Int))then if decide (((x4.2.2.2.2.1.length+(List.length [x4.1]))*(8:Nat))≤(140737488355328:Nat))then g5 (IntKind.wrap .i64 (x4.1+(1:Int)),x4.2.1,x4.2.2.1,x4.2.2.2.1.set ((0:Nat)+x4.1.toNat) true,x4.2.2.2.2.1++[x4.1],x4.2.2.2.2.2.1,())else none else none else none else g5 (IntKind.wrap .i64 (x4.1+(1:Int)),x4.2.1,x4.2.2.1,x4.2.2.2.1,x4.2.2.2.2.1,x4.2.2.2.2.2.1,())else none else none else g5 (IntKind.wrap .i64 (x4.1+(1:Int)),x4.2.1,x4.2.2.1,x4.2.2.2.1,x4.2.2.2.2.1,x4.2.2.2.2.2.1,())else none else none else if decide ((0:Int)≤(x4.2.2.2.2.1.length:Int))then if decide (((x4.2.2.2.2.1.length:Int)+(0:Int))≤(x4.2.2.2.2.1.length:Int))then if decide ((1:Int)≤(x4.2.2.2.2.1.length:Int))then g2 (seen x4.2.2.2.2.1 (1:Nat) ((Int.toNat (x4.2.2.2.2.1.length:Int)) - (1:Nat)),x4.2.2.2.2.2.1,x4.2.2.2.1,())else none else none else none
abbrev P.i_reach_b0 (k:Nat) (x1:List Int×List (List (Bool×List Int×List Int))×List Bool×Unit) (g2:List Int×List (List (Bool×List Int×List Int))×List Bool×Unit→Option (List Bool×Unit)):Option (List Bool×Unit):=
 if decide ((x1.1.length:Int)>(0:Int))then if decide ((0:Int)<(x1.1.length:Int))then if decide ((0:Int)≤(x1.1.getD (0:Nat) (0:Int)))then if decide ((x1.1.getD (0:Nat) (0:Int))<(x1.2.1.length:Int))then loopP (P.i_reach_b3 g2) k ((0:Int),(List.length (x1.2.1.getD (Int.toNat (x1.1.getD (0:Nat) (0:Int))) ([]:List (Bool×List Int×List Int))):Int),x1.2.1.getD (Int.toNat (x1.1.getD (0:Nat) (0:Int))) ([]:List (Bool×List Int×List Int)),x1.2.2.1,x1.1,x1.2.1,())else none else none else none else some (x1.2.2.1,())
def P.i_reach (k:Nat) (x:List (List (Bool×List Int×List Int))×Int×Unit):Option (List Bool×Unit):=
 if decide ((0:Int)≤(x.1.length:Int))then if decide ((x.1.length:Int)≤(x.1.length:Int))then if decide (((x.1.length:Int)*(1:Int))≤(281474976710656:Int))then if decide ((0:Int)≤x.2.1)then if decide (x.2.1<(List.length (List.replicate (Int.toNat (x.1.length:Int)) false):Int))then loopP (P.i_reach_b0 k) k ([x.2.1],x.1,List.set (List.replicate (Int.toNat (x.1.length:Int)) false) ((0:Nat)+x.2.1.toNat) true,())else none else none else none else none else none
theorem sign_rp (q:Q3):S.i_rat_sign (((rp B32 q).1,(rp B32 q).2.1,(rp B32 q).2.2),())=some (sgnQ q.1 q.2.1,()):=by
 unfold S.i_rat_sign rp
 dsimp only
 rw[if_pos (canon_nd (by decide) _),dval_nd (by decide)]
theorem reI_inner {M:List (List Q3)} (hM:isM M) {i:Nat} (hi:i<M.length) {sn:List Bool} {td:List Nat} (hb:Bok M.length (sn,td)) (hm:td.length+sn.count false≤1000000)
  (g:(((List Int)×((List (List RB))×((List Bool)×Unit)))→(Option ((List Bool)×Unit)))) {K:Nat} (hK:M.length<K):
  loopP (P.i_reach_b3 g) K ((0:Int),(M.length:Int),(M.getD i []).map (rp B32),sn,zs (i::td),mp B32 M,())=g (zs (scanB (adj M i) M.length (sn,td)).2,mp B32 M,(scanB (adj M i) M.length (sn,td)).1,()):=by
 have hrow:=isM_row hM hi
 have hn:=hM.1
 have key:=loop_up0 (k:=K) (b:=P.i_reach_b3 g) (n:=M.length) (st:=fun j=>((j:Int),(M.length:Int),(M.getD i []).map (rp B32),((List.range j).foldl (stepB (adj M i)) (sn,td)).1,zs (i::((List.range j).foldl (stepB (adj M i)) (sn,td)).2),mp B32 M,())) (F:=fun _=>g (zs (scanB (adj M i) M.length (sn,td)).2,mp B32 M,(scanB (adj M i) M.length (sn,td)).1,())) (fun j g' hj hg=>by
  unfold P.i_reach_b3
  dsimp only at hg ⊢
  obtain⟨b1,b2⟩:=foldB_ok (a:=adj M i) hb j (by omega)
  rw[fold_succ]at hg
  generalize (List.range j).foldl (stepB (adj M i)) (sn,td)=s at b1 b2 hg ⊢
  have b3:s.2.length≤td.length+sn.count false:=by
   dsimp only at b2
   omega
  have e1:(j:Int)<(M.length:Int):=by omega
  have e2:(0:Int)≤(j:Int):=by omega
  have e3:(((M.getD i []).map (rp B32)).length:Int)=(M.length:Int):=by rw[List.length_map,hrow.1]
  have e4:(zs (i::s.2)).length=s.2.length+1:=by simp [zs]
  have e5:(s.2.length+1+1)*8≤140737488355328:=by omega
  have e6:(s.1.length:Int)=(M.length:Int):=by rw[b1.len]
  rw[Int.toNat_natCast,getD_rp B32 (by rw[hrow.1];exact hj),sign_rp,Option.bind_some]
  simp only[e1,e2,e3,e4,e5,e6,decide_true,if_true,List.length_cons,List.length_nil,Nat.zero_add]
  rw[sgnQ_pos,posQ_adj hM hi hj,wr (by omega) (by omega)]
  unfold stepB at hg
  cases ha:adj M i j
  ·rw[ha,if_neg (by simp)]at hg
   rw[if_neg (by decide)]
   exact hg
  ·rw[if_pos rfl]
   cases hs:s.1.getD j false
   ·rw[ha,hs,if_pos ⟨rfl,rfl⟩]at hg
    rw[if_pos (by decide),←hg]
    simp [zs]
   ·rw[ha,hs,if_neg (by simp)]at hg
    rw[if_neg (by decide)]
    exact hg) (fun g'=>by
  unfold P.i_reach_b3
  dsimp only
  change _=g (zs (scanB (adj M i) M.length (sn,td)).2,mp B32 M,(scanB (adj M i) M.length (sn,td)).1,())
  rw[show(List.range M.length).foldl (stepB (adj M i)) (sn,td)=scanB (adj M i) M.length (sn,td)from rfl]
  generalize scanB (adj M i) M.length (sn,td)=s
  have e4:(zs (i::s.2)).length=s.2.length+1:=by simp [zs]
  have e5:(0:Int)≤((s.2.length+1:Nat):Int):=by omega
  have e6:((s.2.length+1:Nat):Int)+0≤((s.2.length+1:Nat):Int):=by omega
  have e7:(1:Int)≤((s.2.length+1:Nat):Int):=by omega
  rw[if_neg (by simp)]
  simp only[e4,e5,e6,e7,decide_true,if_true,Int.toNat_natCast]
  have e8:seen (zs (i::s.2)) 1 (s.2.length+1 - 1)=zs s.2:=by
   show(zs s.2).take (s.2.length+1 - 1)=zs s.2
   exact List.take_of_length_le (by rw[zs_len];omega)
  rw[e8]) hK
 exact key
theorem reI_outer {M:List (List Q3)} (hM:isM M) {K:Nat} (hK:M.length<K):∀(f k:Nat) (sn:List Bool) (td:List Nat),Bok M.length (sn,td)→td.length+sn.count false≤f→f<k→f≤1000000→loopP (P.i_reach_b0 K) k (zs td,mp B32 M,sn,())=some (bfs (adj M) M.length f sn td,()):=by
 intro f
 induction f with
 |zero=>
  intro k sn td hb hm hk hf
  cases k with
  |zero=>omega
  |succ k=>
   have:td=[]:=List.eq_nil_of_length_eq_zero (by omega)
   subst this
   rw[loopP_succ]
   rfl
 |succ f ih=>
  intro k sn td hb hm hk hf
  cases k with
  |zero=>omega
  |succ k=>
   rw[loopP_succ]
   cases td with
   |nil=>rfl
   |cons i r=>
    have hi:i<M.length:=hb.lt i (List.mem_cons_self ..)
    have hb':Bok M.length (sn,r):=⟨hb.len,fun t ht=>hb.lt t (List.mem_cons_of_mem _ ht)⟩
    have hm':r.length+sn.count false≤f:=by
     rw[List.length_cons]at hm
     omega
    unfold P.i_reach_b0
    dsimp only
    have e1:((zs (i::r)).length:Int)>0:=by rw[zs_len,List.length_cons];omega
    have e2:(zs (i::r)).getD 0 0=(i:Int):=rfl
    have e3:(0:Int)≤(i:Int):=by omega
    have e4:(i:Int)<((mp B32 M).length:Int):=by rw[mp_len];omega
    rw[e2]
    simp only[e1,e3,e4,decide_true,if_true,Int.toNat_natCast]
    rw[mp_at hi,List.length_map,(isM_row hM hi).1,reI_inner hM hi hb' (by omega) _ hK,bfs]
    obtain⟨c1,c2⟩:=foldB_ok (a:=adj M i) hb' M.length (Nat.le_refl _)
    exact ih k _ _ c1 (by
     have:(scanB (adj M i) M.length (sn,r)).2.length+(scanB (adj M i) M.length (sn,r)).1.count false=r.length+sn.count false:=c2
     omega) (by omega) (by omega)
open Classical in
def S.i_reach (x:((List (List RB))×(Int×Unit))):(Option ((List Bool)×Unit)):=if(∃M,isM M∧x.1=mp B32 M)∧0≤x.2.1∧x.2.1<(x.1.length:Int)then some (reachB (adj (mv B32 x.1)) x.1.length x.2.1.toNat,())else none
theorem S.i_reach_ok (x:((List (List RB))×(Int×Unit))) (r:_) (h:S.i_reach x=some r):∃k,P.i_reach k x=some r:=by
 obtain⟨m,s,u⟩:=x
 unfold S.i_reach at h
 dsimp only at h
 split at h
 case isFalse=>cases h
 rename_i hc
 obtain⟨⟨M,hM,rfl⟩,h0,h1⟩:=hc
 cases h
 obtain⟨s,rfl⟩:=Int.eq_ofNat_of_zero_le h0
 rw[mv_mp (by decide),mp_len]at*
 have hs:s<M.length:=by omega
 have hn:=hM.1
 refine⟨M.length+1,?_⟩
 unfold P.i_reach
 dsimp only
 have e1:(0:Int)≤(M.length:Int):=by omega
 have e2:(M.length:Int)*1≤281474976710656:=by omega
 have e3:((List.replicate M.length false).length:Int)=(M.length:Int):=by simp
 rw[mp_len]
 simp only[e1,e2,e3,h0,h1,Int.le_refl,decide_true,if_true,Int.toNat_natCast,Nat.zero_add]
 obtain⟨c1,c2⟩:=start_ok hs
 exact reI_outer hM (K:=M.length+1) (by omega) M.length (M.length+1) _ [s] c1 (by omega) (by omega) (by omega)
abbrev P.i_reaches_b0 (x1:Int×Int×List (List Bool)×List (List (Bool×List Int×List Int))×Unit) (g2:Int×Int×List (List Bool)×List (List (Bool×List Int×List Int))×Unit→Option (List (List Bool)×Unit)):Option (List (List Bool)×Unit):=
 if decide (x1.1<x1.2.1)then(S.i_reach (x1.2.2.2.1,x1.1,())).bind fun y3=>if decide (((x1.2.2.1.length+(List.length [y3.1]))*(24:Nat))≤(140737488355328:Nat))then g2 (IntKind.wrap .i64 (x1.1+(1:Int)),x1.2.1,x1.2.2.1++[y3.1],x1.2.2.2.1,())else none else some (x1.2.2.1,())
def P.i_reaches (k:Nat) (x:List (List (Bool×List Int×List Int))×Unit):Option (List (List Bool)×Unit):=
 loopP P.i_reaches_b0 k ((0:Int),(x.1.length:Int),([]:List (List Bool)),x.1,())
def rowsR (M:List (List Q3)):List (List Bool):=tab M.length fun i=>reachB (adj M) M.length i
theorem reach_i {M:List (List Q3)} (hM:isM M) {i:Nat} (hi:i<M.length):S.i_reach (mp B32 M,(i:Int),())=some (reachB (adj M) M.length i,()):=by
 unfold S.i_reach
 dsimp only
 rw[if_pos ⟨⟨M,hM,rfl⟩,by omega,by rw[mp_len];omega⟩,mv_mp (by decide),mp_len,Int.toNat_natCast]
open Classical in
def S.i_reaches (x:((List (List RB))×Unit)):(Option ((List (List Bool))×Unit)):=if ∃M,isM M∧x.1=mp B32 M then some (rowsR (mv B32 x.1),())else none
theorem S.i_reaches_ok (x:((List (List RB))×Unit)) (r:_) (h:S.i_reaches x=some r):∃k,P.i_reaches k x=some r:=by
 obtain⟨m,u⟩:=x
 unfold S.i_reaches at h
 dsimp only at h
 split at h
 case isFalse=>cases h
 rename_i hc
 obtain⟨M,hM,rfl⟩:=hc
 cases h
 rw[mv_mp (by decide)]
 have hn:=hM.1
 refine⟨M.length+1,?_⟩
 unfold P.i_reaches
 dsimp only
 rw[mp_len]
 have key:=loop_up0 (k:=M.length+1) (b:=P.i_reaches_b0) (n:=M.length) (st:=fun i=>((i:Int),(M.length:Int),tab i (fun i=>reachB (adj M) M.length i),mp B32 M,())) (F:=fun i=>some (rowsR M,())) (fun i g hi hg=>by
  unfold P.i_reaches_b0
  dsimp only at hg ⊢
  have e1:(i:Int)<(M.length:Int):=by omega
  have e2:(i+1)*24≤140737488355328:=by omega
  rw[reach_i hM hi,Option.bind_some]
  simp only[e1,e2,tab_len,decide_true,if_true,List.length_cons,List.length_nil,Nat.zero_add]
  rw[wr (by omega) (by omega),←hg,tab_succ]
  rfl) (fun g=>by
  unfold P.i_reaches_b0
  dsimp only
  rw[if_neg (by simp)]
  rfl) (by omega)
 exact key
abbrev P.i_classes_b5 (g4:Int×Int×List Int×List (List (Bool×List Int×List Int))×List (List Bool)×List Bool×Unit→Option ((List Int×List Bool)×Unit)) (x6:Int×Int×List (List Bool)×Int×List Int×List Bool×Bool×Int×Int×List (List (Bool×List Int×List Int))×Unit) (g7:Int×Int×List (List Bool)×Int×List Int×List Bool×Bool×Int×Int×List (List (Bool×List Int×List Int))×Unit→Option ((List Int×List Bool)×Unit)):Option ((List Int×List Bool)×Unit):=
 if decide (x6.1<x6.2.1)then if decide ((0:Int)≤x6.2.2.2.1)then if decide (x6.2.2.2.1<(x6.2.2.1.length:Int))then if decide ((0:Int)≤x6.1)then if decide (x6.1<(List.length (x6.2.2.1.getD x6.2.2.2.1.toNat ([]:List Bool)):Int))then if List.getD (x6.2.2.1.getD x6.2.2.2.1.toNat ([]:List Bool)) x6.1.toNat false then if decide ((0:Int)≤x6.1)then if decide (x6.1<(x6.2.2.1.length:Int))then if decide ((0:Int)≤x6.2.2.2.1)then if decide (x6.2.2.2.1<(List.length (x6.2.2.1.getD x6.1.toNat ([]:List Bool)):Int))then if List.getD (x6.2.2.1.getD x6.1.toNat ([]:List Bool)) x6.2.2.2.1.toNat false then if decide ((0:Int)≤x6.1)then if decide (x6.1<(x6.2.2.2.2.1.length:Int))then if x6.2.2.2.2.2.2.1 then if decide ((0:Int)≤x6.2.2.2.1)then if decide (x6.2.2.2.1<(x6.2.2.1.length:Int))then if decide ((0:Int)≤x6.1)then if decide (x6.1<(List.length (x6.2.2.1.getD x6.2.2.2.1.toNat ([]:List Bool)):Int))then if ! (List.getD (x6.2.2.1.getD x6.2.2.2.1.toNat ([]:List Bool)) x6.1.toNat false)then g7 (IntKind.wrap .i64 (x6.1+(1:Int)),x6.2.1,x6.2.2.1,x6.2.2.2.1,x6.2.2.2.2.1.set ((0:Nat)+x6.1.toNat) (x6.2.2.2.2.2.1.length:Int),x6.2.2.2.2.2.1,true,x6.2.2.2.2.2.2.2.1,x6.2.2.2.2.2.2.2.2.1,x6.2.2.2.2.2.2.2.2.2.1,())else if decide ((0:Int)≤x6.1)then if decide (x6.1<(x6.2.2.1.length:Int))then if decide ((0:Int)≤x6.2.2.2.1)then if decide (x6.2.2.2.1<(List.length (x6.2.2.1.getD x6.1.toNat ([]:List Bool)):Int))then g7 (IntKind.wrap .i64 (x6.1+(1:Int)),x6.2.1,x6.2.2.1,x6.2.2.2.1,x6.2.2.2.2.1.set ((0:Nat)+x6.1.toNat) (x6.2.2.2.2.2.1.length:Int),x6.2.2.2.2.2.1,List.getD (x6.2.2.1.getD x6.1.toNat ([]:List Bool)) x6.2.2.2.1.toNat false,x6.2.2.2.2.2.2.2.1,x6.2.2.2.2.2.2.2.2.1,x6.2.2.2.2.2.2.2.2.2.1,())else none else none else none else none else none else none else none else none else g7 (IntKind.wrap .i64 (x6.1+(1:Int)),x6.2.1,x6.2.2.1,x6.2.2.2.1,x6.2.2.2.2.1.set ((0:Nat)+x6.1.toNat) (x6.2.2.2.2.2.1.length:Int),x6.2.2.2.2.2.1,false,x6.2.2.2.2.2.2.2.1,x6.2.2.2.2.2.2.2.2.1,x6.2.2.2.2.2.2.2.2.2.1,())else none else none else if x6.2.2.2.2.2.2.1 then if decide ((0:Int)≤x6.2.2.2.1)then if decide (x6.2.2.2.1<(x6.2.2.1.length:Int))then if decide ((0:Int)≤x6.1)then if decide (x6.1<(List.length (x6.2.2.1.getD x6.2.2.2.1.toNat ([]:List Bool)):Int))then if ! (List.getD (x6.2.2.1.getD x6.2.2.2.1.toNat ([]:List Bool)) x6.1.toNat false)then g7 (IntKind.wrap .i64 (x6.1+(1:Int)),x6.2.1,x6.2.2.1,x6.2.2.2.1,x6.2.2.2.2.1,x6.2.2.2.2.2.1,true,x6.2.2.2.2.2.2.2.1,x6.2.2.2.2.2.2.2.2.1,x6.2.2.2.2.2.2.2.2.2.1,())else if decide ((0:Int)≤x6.1)then if decide (x6.1<(x6.2.2.1.length:Int))then if decide ((0:Int)≤x6.2.2.2.1)then if decide (x6.2.2.2.1<(List.length (x6.2.2.1.getD x6.1.toNat ([]:List Bool)):Int))then g7 (IntKind.wrap .i64 (x6.1+(1:Int)),x6.2.1,x6.2.2.1,x6.2.2.2.1,x6.2.2.2.2.1,x6.2.2.2.2.2.1,List.getD (x6.2.2.1.getD x6.1.toNat ([]:List Bool)) x6.2.2.2.1.toNat false,x6.2.2.2.2.2.2.2.1,x6.2.2.2.2.2.2.2.2.1,x6.2.2.2.2.2.2.2.2.2.1,())else none else none else none else none else none else none else none else none else g7 (IntKind.wrap .i64 (x6.1+(1:Int)),x6.2.1,x6.2.2.1,x6.2.2.2.1,x6.2.2.2.2.1,x6.2.2.2.2.2.1,false,x6.2.2.2.2.2.2.2.1,x6.2.2.2.2.2.2.2.2.1,x6.2.2.2.2.2.2.2.2.2.1,())else none else none else none else none else if x6.2.2.2.2.2.2.1 then if decide ((0:Int)≤x6.2.2.2.1)then if decide (x6.2.2.2.1<(x6.2.2.1.length:Int))then if decide ((0:Int)≤x6.1)then if decide (x6.1<(List.length (x6.2.2.1.getD x6.2.2.2.1.toNat ([]:List Bool)):Int))then if ! (List.getD (x6.2.2.1.getD x6.2.2.2.1.toNat ([]:List Bool)) x6.1.toNat false)then g7 (IntKind.wrap .i64 (x6.1+(1:Int)),x6.2.1,x6.2.2.1,x6.2.2.2.1,x6.2.2.2.2.1,x6.2.2.2.2.2.1,true,x6.2.2.2.2.2.2.2.1,x6.2.2.2.2.2.2.2.2.1,x6.2.2.2.2.2.2.2.2.2.1,())else if decide ((0:Int)≤x6.1)then if decide (x6.1<(x6.2.2.1.length:Int))then if decide ((0:Int)≤x6.2.2.2.1)then if decide (x6.2.2.2.1<(List.length (x6.2.2.1.getD x6.1.toNat ([]:List Bool)):Int))then g7 (IntKind.wrap .i64 (x6.1+(1:Int)),x6.2.1,x6.2.2.1,x6.2.2.2.1,x6.2.2.2.2.1,x6.2.2.2.2.2.1,List.getD (x6.2.2.1.getD x6.1.toNat ([]:List Bool)) x6.2.2.2.1.toNat false,x6.2.2.2.2.2.2.2.1,x6.2.2.2.2.2.2.2.2.1,x6.2.2.2.2.2.2.2.2.2.1,())else none else none else none else none else none else none else none else none else g7 (IntKind.wrap .i64 (x6.1+(1:Int)),x6.2.1,x6.2.2.1,x6.2.2.2.1,x6.2.2.2.2.1,x6.2.2.2.2.2.1,false,x6.2.2.2.2.2.2.2.1,x6.2.2.2.2.2.2.2.2.1,x6.2.2.2.2.2.2.2.2.2.1,())else none else none else none else none else if decide (((x6.2.2.2.2.2.1.length+(List.length [x6.2.2.2.2.2.2.1]))*(1:Nat))≤(140737488355328:Nat))then g4 (IntKind.wrap .i64 (x6.2.2.2.2.2.2.2.1+(1:Int)),x6.2.2.2.2.2.2.2.2.1,x6.2.2.2.2.1,x6.2.2.2.2.2.2.2.2.2.1,x6.2.2.1,x6.2.2.2.2.2.1++[x6.2.2.2.2.2.2.1],())else none
abbrev P.i_classes_b2 (k:Nat) (x3:Int×Int×List Int×List (List (Bool×List Int×List Int))×List (List Bool)×List Bool×Unit) (g4:Int×Int×List Int×List (List (Bool×List Int×List Int))×List (List Bool)×List Bool×Unit→Option ((List Int×List Bool)×Unit)):Option ((List Int×List Bool)×Unit):=
 if decide (x3.1<x3.2.1)then if decide ((0:Int)≤x3.1)then if decide (x3.1<(x3.2.2.1.length:Int))then if decide ((x3.2.2.1.getD ((0:Nat)+x3.1.toNat) (0:Int))≥(0:Int))then g4 (IntKind.wrap .i64 (x3.1+(1:Int)),x3.2.1,x3.2.2.1,x3.2.2.2.1,x3.2.2.2.2.1,x3.2.2.2.2.2.1,())else loopP (P.i_classes_b5 g4) k ((0:Int),(x3.2.2.2.1.length:Int),x3.2.2.2.2.1,x3.1,x3.2.2.1,x3.2.2.2.2.2.1,true,x3.1,x3.2.1,x3.2.2.2.1,())else none else none else some ((x3.2.2.1,x3.2.2.2.2.2.1),())
def P.i_classes (k:Nat) (x:List (List (Bool×List Int×List Int))×Unit):Option ((List Int×List Bool)×Unit):=
 (S.i_reaches (x.1,())).bind fun y0=>(S.slices_Repeat__int64_int64 ([(-1:Int)],(x.1.length:Int),())).bind fun y1=>loopP (P.i_classes_b2 k) k ((0:Int),(x.1.length:Int),y1.1,x.1,y0.1,([]:List Bool),())
theorem rowsR_at {M:List (List Q3)} {i j:Nat} (hi:i<M.length):((rowsR M).getD i []).getD j false=rcB M i j:=by
 unfold rowsR rcB
 rw[tab_getD _ _ hi]
theorem rowsR_len {M:List (List Q3)} :(rowsR M).length=M.length:=by
 unfold rowsR
 rw[tab_len]
theorem rowsR_row {M:List (List Q3)} {i:Nat} (hi:i<M.length):((rowsR M).getD i []).length=M.length:=by
 unfold rowsR
 rw[tab_getD _ _ hi,reachB_len hi]
theorem icl_inner {M:List (List Q3)} {i:Nat} (hi:i<M.length) (hn:M.length≤12) (f:Nat→Int) (cl:List Bool) (hcl:cl.length≤12)
  (g:((Int×(Int×((List Int)×((List (List RB))×((List (List Bool))×((List Bool)×Unit))))))→(Option (((List Int)×(List Bool))×Unit)))) {K:Nat} (hK:M.length<K) (p:List (List RB)):
  loopP (P.i_classes_b5 g) K ((0:Int),(M.length:Int),rowsR M,(i:Int),tab M.length f,cl,true,(i:Int),(M.length:Int),p,())=g (((i+1:Nat):Int),(M.length:Int),tab M.length (fun j=>if(rcB M i j&&rcB M j i)=true then(cl.length:Int)else f j),p,rowsR M,cl++[(List.range M.length).all fun j=> !rcB M i j||rcB M j i],()):=by
 have key:=loop_up0 (k:=K) (b:=P.i_classes_b5 g) (n:=M.length) (st:=fun j=>((j:Int),(M.length:Int),rowsR M,(i:Int),upT M.length f (fun j=>rcB M i j&&rcB M j i) (cl.length:Int) j,cl,(List.range j).all (fun j=> !rcB M i j||rcB M j i),(i:Int),(M.length:Int),p,())) (F:=fun _=>g (((i+1:Nat):Int),(M.length:Int),tab M.length (fun j=>if(rcB M i j&&rcB M j i)=true then(cl.length:Int)else f j),p,rowsR M,cl++[(List.range M.length).all fun j=> !rcB M i j||rcB M j i],())) (fun j g' hj hg=>by
  unfold P.i_classes_b5
  dsimp only at hg ⊢
  have e1:(j:Int)<(M.length:Int):=by omega
  have e2:(0:Int)≤(j:Int):=by omega
  have e3:(0:Int)≤(i:Int):=by omega
  have e4:(i:Int)<(M.length:Int):=by omega
  have e5:∀k,(upT M.length f (fun j=>rcB M i j&&rcB M j i) (cl.length:Int) k).length=M.length:=fun k=>tab_len _ _
  simp only[rowsR_len,Int.toNat_natCast,rowsR_row hi,rowsR_row hj,rowsR_at hi,rowsR_at hj,e1,e2,e3,e4,e5,decide_true,if_true,Nat.zero_add]
  rw[wr (by omega) (by omega)]
  rw[all_succ]at hg
  cases h1:rcB M i j
  ·rw[←upT_no (by rw[h1];rfl),h1,Bool.not_false,Bool.true_or,Bool.and_true]at hg
   cases hs:(List.range j).all fun j=> !rcB M i j||rcB M j i
   ·rw[hs]at hg
    exact hg
   ·rw[hs]at hg
    exact hg
  ·cases h2:rcB M j i
   ·rw[←upT_no (by rw[h1,h2];rfl),h1,h2,Bool.not_true,Bool.false_or,Bool.and_false]at hg
    cases hs:(List.range j).all fun j=> !rcB M i j||rcB M j i
    ·exact hg
    ·exact hg
   ·rw[←upT_yes (by rw[h1,h2];rfl),h1,h2,Bool.not_true,Bool.false_or,Bool.and_true]at hg
    cases hs:(List.range j).all fun j=> !rcB M i j||rcB M j i
    ·rw[hs]at hg
     exact hg
    ·rw[hs]at hg
     exact hg) (fun g'=>by
  unfold P.i_classes_b5
  dsimp only
  have e1:(cl.length+1)*1≤140737488355328:=by omega
  rw[if_neg (by simp),upT_all]
  simp only[List.length_cons,List.length_nil,Nat.zero_add,e1,decide_true,if_true]
  rw[wr (by omega) (by omega)]
  rfl) hK
 refine Eq.trans ?_ key
 unfold upT
 congr 2
open Classical in
def S.i_classes (x:((List (List RB))×Unit)):(Option (((List Int)×(List Bool))×Unit)):=if ∃M,isM M∧x.1=mp B32 M then some (clsM (mv B32 x.1),())else none
theorem S.i_classes_ok (x:((List (List RB))×Unit)) (r:_) (h:S.i_classes x=some r):∃k,P.i_classes k x=some r:=by
 obtain⟨m,u⟩:=x
 unfold S.i_classes at h
 dsimp only at h
 split at h
 case isFalse=>cases h
 rename_i hc
 obtain⟨M,hM,rfl⟩:=hc
 cases h
 rw[mv_mp (by decide)]
 have hn:=hM.1
 refine⟨M.length+1,?_⟩
 unfold P.i_classes
 dsimp only
 have er:S.i_reaches (mp B32 M,())=some (rowsR M,()):=by
  unfold S.i_reaches
  dsimp only
  rw[if_pos ⟨M,hM,rfl⟩,mv_mp (by decide)]
 have ep:S.slices_Repeat__int64_int64 ([-1],(M.length:Int),())=some (List.replicate M.length (-1),()):=by
  unfold S.slices_Repeat__int64_int64
  dsimp only
  rw[if_pos ⟨rfl,by omega,by omega⟩,Int.toNat_natCast]
  rfl
 rw[er,mp_len,Option.bind_some,ep,Option.bind_some]
 have key:=loop_up0 (k:=M.length+1) (b:=P.i_classes_b2 (M.length+1)) (n:=M.length) (st:=fun i=>((i:Int),(M.length:Int),((List.range i).foldl (clsStep (rcB M) M.length) (List.replicate M.length (-1),[])).1,mp B32 M,rowsR M,((List.range i).foldl (clsStep (rcB M) M.length) (List.replicate M.length (-1),[])).2,())) (F:=fun _=>some (clsM M,())) (fun i g hi hg=>by
  unfold P.i_classes_b2
  dsimp only at hg ⊢
  obtain⟨l1,l2⟩:=clsF_len (rcB M) M.length i
  rw[fold_succ]at hg
  generalize (List.range i).foldl (clsStep (rcB M) M.length) (List.replicate M.length (-1),[])=s at l1 l2 hg ⊢
  have e1:(i:Int)<(M.length:Int):=by omega
  have e2:(0:Int)≤(i:Int):=by omega
  have e3:(i:Int)<(s.1.length:Int):=by omega
  have e4:s.1.getD i 0=s.1.getD i (-1):=by
   rw[List.getD_eq_getElem?_getD,List.getD_eq_getElem?_getD,List.getElem?_eq_getElem (by omega)]
   rfl
  simp only[e1,e2,e3,decide_true,if_true,Int.toNat_natCast,Nat.zero_add,e4,mp_len]
  unfold clsStep at hg
  by_cases h0:0≤s.1.getD i (-1)
  ·rw[if_pos h0]at hg
   rw[if_pos (decide_eq_true h0),wr (by omega) (by omega)]
   exact hg
  ·rw[if_neg h0]at hg
   rw[if_neg (by simpa using h0)]
   have hs:s.1=tab M.length fun v=>s.1.getD v (-1):=by
    conv=>lhs;rw[tab_of s.1 (-1),l1]
   rw[hs]
   refine Eq.trans (icl_inner hi hn (fun v=>s.1.getD v (-1)) s.2 (by omega) g (by omega) _) ?_
   exact hg) (fun g=>by
  unfold P.i_classes_b2
  dsimp only
  rw[if_neg (by simp)]
  rfl) (by omega)
 exact key
def P.i_ClosedClasses (k:Nat) (x:List (List ByteArray)×Unit):Option ((List Int×Bool)×Unit):=
 (S.i_chainOf (x.1,())).bind fun y0=>if !y0.1.2 then some ((([]:List Int),false),())else(S.i_classes (y0.1.1,())).bind fun y1=>(S.i_setOf (y1.1.2,())).bind fun y2=>some ((y2.1,true),())
def S.i_ClosedClasses (x:((List (List ByteArray))×Unit)):(Option (((List Int)×Bool)×Unit)):=P.i_ClosedClasses 0 x
theorem S.i_ClosedClasses_ok (x:((List (List ByteArray))×Unit)) (r:_) (h:S.i_ClosedClasses x=some r):∃k,P.i_ClosedClasses k x=some r:=⟨0,h⟩
def P.l_FnExactClosedClasses (k:Nat) (x:List (List ByteArray)×Unit):Option (Bool×Unit):=
 (S.l_szChain (x.1,(1000000:Int),())).bind fun y0=>if decide (y0.1<(0:Int))then some (true,())else(S.l_toChaino (x.1,false,())).bind fun y1=>(S.s_ClosedClasses (List.map (fun(y2:List ByteArray×Nat)=>List.map (fun(y3:ByteArray)=>y3) (List.take y2.2 y2.1)) (seen (nrm (hd0 y1.1.1) (in0 y1.1.1)) 0 y1.1.2),())).bind fun y4=>(S.l_toChaino (x.1,false,())).bind fun y5=>(S.i_ClosedClasses (List.map (fun(y6:List ByteArray×Nat)=>List.map (fun(y7:ByteArray)=>y7) (List.take y6.2 y6.1)) (seen (nrm (hd0 y5.1.1) (in0 y5.1.1)) 0 y5.1.2),())).bind fun y8=>(S.l_eqInt64S (y8.1.1,y4.1.1,())).bind fun y9=>if !y9.1 then some (false,())else if ! (y8.1.2==y4.1.2)then some (false,())else(S.l_toChaino (x.1,false,())).bind fun y10=>(S.l_intactChain ((List.drop 0 (nrm (hd0 y5.1.1) (in0 y5.1.1)),y5.1.2),(List.drop 0 (nrm (hd0 y10.1.1) (in0 y10.1.1)),y10.1.2),())).bind fun y11=>if !y11.1 then some (false,())else if dup (List.map (fun(y12:Nat×Nat)=>y12.1) (seen (hd0 y5.1.1) 0 y5.1.2))then none else(S.l_markChain (nrm (seen (hd0 y5.1.1) 0 y5.1.2) (in0 y5.1.1),(101:Int),())).bind fun y13=>if decide (y13.1<(0:Int))then some (false,())else(S.l_eqInt64S (y8.1.1,y4.1.1,())).bind fun y14=>if !y14.1 then some (false,())else if ! (y8.1.2==y4.1.2)then some (false,())else(S.l_markInt64S (y8.1.1,(101:Int),())).bind fun y15=>(S.l_heldInt64S (splice y8.1.1 y15.2.1 (0:Nat),(101:Int),())).bind fun y16=>if decide (y16.1<(0:Int))then some (false,())else if y16.1 != y15.1 then some (false,())else(S.l_toChaino (x.1,true,())).bind fun y17=>(S.i_ClosedClasses (List.map (fun(y18:List ByteArray×Nat)=>List.map (fun(y19:ByteArray)=>y19) (List.take y18.2 y18.1)) (seen (nrm (hd0 y17.1.1) (in0 y17.1.1)) 0 y17.1.2),())).bind fun y20=>(S.l_eqInt64S (y20.1.1,y4.1.1,())).bind fun y21=>if !y21.1 then some (false,())else if ! (y20.1.2==y4.1.2)then some (false,())else(S.l_heldInt64S (splice y8.1.1 y15.2.1 (0:Nat),(101:Int),())).bind fun y22=>if decide (y22.1<(0:Int))then some (false,())else if y22.1 != y15.1 then some (false,())else some (true,())
def S.l_FnExactClosedClasses (x:((List (List ByteArray))×Unit)):(Option (Bool×Unit)):=P.l_FnExactClosedClasses 0 x
theorem S.l_FnExactClosedClasses_ok (x:((List (List ByteArray))×Unit)) (r:_) (h:S.l_FnExactClosedClasses x=some r):∃k,P.l_FnExactClosedClasses k x=some r:=⟨0,h⟩
end Go.Cm
end
