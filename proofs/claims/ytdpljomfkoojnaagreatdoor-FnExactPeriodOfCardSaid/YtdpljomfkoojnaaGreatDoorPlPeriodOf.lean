import Derived.Test.YtdpljomfkoojnaaGreatDoorPlPeriodOfc
set_option linter.unusedVariables false
set_option maxRecDepth 100000
noncomputable section
namespace Go.Cm
def P.slices_ContainsFunc__i_rat_i_rat (k:Nat) (x:List (Bool×List Int×List Int)×Unit×Unit):Option (Bool×Unit):=
 (S.slices_IndexFunc__i_rat_i_rat (x.1,(),())).bind fun y0=>some (decide (y0.1≥(0:Int)),())
open Classical in
def S.slices_ContainsFunc__i_rat_i_rat (x:((List RB)×(Unit×Unit))):(Option (Bool×Unit)):=if goodL B32 x.1 then some (x.1.any fun r=>r.1,())else none
theorem S.slices_ContainsFunc__i_rat_i_rat_ok (x:((List RB)×(Unit×Unit))) (r:_) (h:S.slices_ContainsFunc__i_rat_i_rat x=some r):∃k,P.slices_ContainsFunc__i_rat_i_rat k x=some r:=by
 obtain⟨xs,u,u'⟩:=x
 unfold S.slices_ContainsFunc__i_rat_i_rat at h
 dsimp only at h
 split at h
 case isFalse=>cases h
 rename_i hc
 cases h
 refine⟨0,?_⟩
 unfold P.slices_ContainsFunc__i_rat_i_rat S.slices_IndexFunc__i_rat_i_rat
 dsimp only
 rw[if_pos hc,Option.bind_some,←ixM_any]
def P.i_notPlus (k:Nat) (x:(Bool×List Int×List Int)×Unit):Option (Bool×Unit):=
 (S.i_rat_sign ((x.1.1,x.1.2.1,x.1.2.2),())).bind fun y0=>some (decide (y0.1≤(0:Int)),())
def S.i_notPlus (x:(RB×Unit)):(Option (Bool×Unit)):=if rok B32 40000000 x.1=true then some (!posQ (rv B32 x.1),())else none
theorem S.i_notPlus_ok (x:(RB×Unit)) (r:_) (h:S.i_notPlus x=some r):∃k,P.i_notPlus k x=some r:=by
 obtain⟨y,u⟩:=x
 unfold S.i_notPlus at h
 dsimp only at h
 split at h
 case isFalse=>cases h
 rename_i hc
 cases h
 obtain⟨n,p,q,rfl,_,_⟩:=rok_nd hc
 refine⟨0,?_⟩
 unfold P.i_notPlus
 dsimp only
 have hs:S.i_rat_sign ((n,(nd B32 p,nd B32 q)),())=some (sgnQ n p,()):=by
  unfold S.i_rat_sign
  dsimp only
  rw[if_pos (canon_nd B32_le _),dval_nd B32_le]
 rw[hs,Option.bind_some,rv_nd B32_le]
 dsimp only
 rw[←sgnQ_npos]
abbrev P.slices_IndexFunc__i_rat_i_ratP_b0 (x1:Int×Int×Unit×List (Bool×List Int×List Int)×Unit) (g2:Int×Int×Unit×List (Bool×List Int×List Int)×Unit→Option (Int×Unit)):Option (Int×Unit):=
 if decide (x1.1<x1.2.1)then if decide ((0:Int)≤x1.1)then if decide (x1.1<(x1.2.2.2.1.length:Int))then(S.i_notPlus (((x1.2.2.2.1.getD x1.1.toNat (false,([]:List Int),([]:List Int))).1,(x1.2.2.2.1.getD x1.1.toNat (false,([]:List Int),([]:List Int))).2.1,(x1.2.2.2.1.getD x1.1.toNat (false,([]:List Int),([]:List Int))).2.2),())).bind fun y3=>if y3.1 then some (x1.1,())else g2 (IntKind.wrap .i64 (x1.1+(1:Int)),x1.2.1,(),x1.2.2.2.1,())else none else none else some ((-1:Int),())
def P.slices_IndexFunc__i_rat_i_ratP (k:Nat) (x:List (Bool×List Int×List Int)×Unit×Unit):Option (Int×Unit):=
 loopP P.slices_IndexFunc__i_rat_i_ratP_b0 k ((0:Int),(x.1.length:Int),(),x.1,())
open Classical in
def S.slices_IndexFunc__i_rat_i_ratP (x:((List RB)×(Unit×Unit))):(Option (Int×Unit)):=if goodL B32 x.1 then some (ixF (fun r=> !posQ r) (x.1.map (rv B32)),())else none
theorem S.slices_IndexFunc__i_rat_i_ratP_ok (x:((List RB)×(Unit×Unit))) (r:_) (h:S.slices_IndexFunc__i_rat_i_ratP x=some r):∃k,P.slices_IndexFunc__i_rat_i_ratP k x=some r:=by
 obtain⟨xs,u,u'⟩:=x
 unfold S.slices_IndexFunc__i_rat_i_ratP at h
 dsimp only at h
 split at h
 case isFalse=>cases h
 rename_i hc
 cases h
 obtain⟨qs,n,rfl,hg⟩:=hc
 have hlen:=good_len hg
 refine⟨qs.length+1,?_⟩
 unfold P.slices_IndexFunc__i_rat_i_ratP
 dsimp only
 have hm:∀i (hi:i<qs.length),S.i_notPlus (rp B32 qs[i],())=some (!posQ qs[i],()):=by
  intro i hi
  unfold S.i_notPlus
  dsimp only
  rw[if_pos (lowb_iff.1 (good_get (by decide) hg hi)).1,rv_rp B32_le]
 have key:=loop_up0 (k:=qs.length+1) (b:=P.slices_IndexFunc__i_rat_i_ratP_b0) (n:=qs.length) (st:=fun i=>((i:Int),(qs.length:Int),(),qs.map (rp B32),())) (F:=fun i=>some (if ixF (fun r=> !posQ r) (qs.drop i)<0 then -1 else ixF (fun r=> !posQ r) (qs.drop i)+i,())) (fun i g hi hg'=>by
  unfold P.slices_IndexFunc__i_rat_i_ratP_b0
  dsimp only at hg' ⊢
  have e1:(i:Int)<(qs.length:Int):=by omega
  have e2:(0:Int)≤(i:Int):=by omega
  have e3:(i:Int)<((qs.map (rp B32)).length:Int):=by rw[List.length_map];omega
  rw[if_pos (decide_eq_true e1),if_pos (decide_eq_true e2),if_pos (decide_eq_true e3),getD_cast (qs.map (rp B32)) i _ (by rw[List.length_map];exact hi),List.getElem_map]
  show Option.bind (S.i_notPlus (rp B32 qs[i],())) _=_
  rw[hm i hi,Option.bind_some,List.drop_eq_getElem_cons hi,ixF_cons]
  dsimp only
  cases hf: !posQ qs[i]
  ·simp only[Bool.false_eq_true,if_false]
   rw[wr (by omega) (by omega)]
   refine hg'.trans ?_
   congr 2
   have:=ixF_ge (fun r=> !posQ r) (qs.drop (i+1))
   split
   ·rfl
   ·rw[if_neg (by omega)]
    omega
  ·simp) (fun g=>by
  unfold P.slices_IndexFunc__i_rat_i_ratP_b0
  dsimp only
  rw[if_neg (by simp),List.drop_length]
  rfl) (by omega)
 rw[List.length_map,map_rv B32_le]
 refine key.trans ?_
 rw[List.drop_zero]
 congr 2
 have hr:=ixF_ge (fun r=> !posQ r) qs
 split<;>omega
def P.slices_ContainsFunc__i_rat_i_ratP (k:Nat) (x:List (Bool×List Int×List Int)×Unit×Unit):Option (Bool×Unit):=
 (S.slices_IndexFunc__i_rat_i_ratP (x.1,(),())).bind fun y0=>some (decide (y0.1≥(0:Int)),())
open Classical in
def S.slices_ContainsFunc__i_rat_i_ratP (x:((List RB)×(Unit×Unit))):(Option (Bool×Unit)):=if goodL B32 x.1 then some (!ratesB (x.1.map (rv B32)),())else none
theorem S.slices_ContainsFunc__i_rat_i_ratP_ok (x:((List RB)×(Unit×Unit))) (r:_) (h:S.slices_ContainsFunc__i_rat_i_ratP x=some r):∃k,P.slices_ContainsFunc__i_rat_i_ratP k x=some r:=by
 obtain⟨xs,u,u'⟩:=x
 unfold S.slices_ContainsFunc__i_rat_i_ratP at h
 dsimp only at h
 split at h
 case isFalse=>cases h
 rename_i hc
 cases h
 refine⟨0,?_⟩
 unfold P.slices_ContainsFunc__i_rat_i_ratP S.slices_IndexFunc__i_rat_i_ratP
 dsimp only
 rw[if_pos hc,Option.bind_some,←not_ratesB,←ixF_any]
def P.i_weightsOf (k:Nat) (x:List ByteArray×Unit):Option ((List (Bool×List Int×List Int)×Bool)×Unit):=
 (S.i_rats (x.1,())).bind fun y0=>if !y0.1.2 then some ((([]:List (Bool×List Int×List Int)),false),())else(S.slices_ContainsFunc__i_rat_i_rat (y0.1.1,(),())).bind fun y1=>if y1.1 then some ((([]:List (Bool×List Int×List Int)),false),())else(S.i_sum (y0.1.1,())).bind fun y2=>(S.i_rat_isOne ((y2.1.1,y2.1.2.1,y2.1.2.2),())).bind fun y3=>if !y3.1 then some ((([]:List (Bool×List Int×List Int)),false),())else some ((y0.1.1,true),())
def S.i_weightsOf (x:((List ByteArray)×Unit)):(Option (((List RB)×Bool)×Unit)):=if okT x.1=true then some (((wtAll x.1).1.map (rp B32),(wtAll x.1).2),())else none
theorem S.i_weightsOf_ok (x:((List ByteArray)×Unit)) (r:_) (h:S.i_weightsOf x=some r):∃k,P.i_weightsOf k x=some r:=by
 obtain⟨ls,u⟩:=x
 unfold S.i_weightsOf at h
 dsimp only at h
 split at h
 case isFalse=>cases h
 rename_i hc
 cases h
 refine⟨0,?_⟩
 unfold P.i_weightsOf S.i_rats
 dsimp only
 rw[if_pos hc,Option.bind_some]
 dsimp only
 unfold wtAll
 have hg:=rdAll_good (ls:=ls)
 have hL:=rdAll_goodL (B:=B32) (ls:=ls)
 cases hf:(rdAll ls).2
 ·rfl
 have hg':=hg hf
 have hL':=hL hf
 rw[if_neg (by decide)]
 have ea:S.slices_ContainsFunc__i_rat_i_rat ((rdAll ls).1.map (rp B32),(),())=some ((rdAll ls).1.any fun r=>r.1,()):=by
  unfold S.slices_ContainsFunc__i_rat_i_rat
  dsimp only
  rw[if_pos hL',any_rp]
 have es:S.i_sum ((rdAll ls).1.map (rp B32),())=some (rp B32 (sumQ (rdAll ls).1),()):=by
  unfold S.i_sum
  dsimp only
  rw[if_pos (goodL_S hL'),map_rv B32_le]
 have eo:S.i_rat_isOne (rp B32 (sumQ (rdAll ls).1),())=some (isOneQ (sumQ (rdAll ls).1),()):=by
  unfold S.i_rat_isOne
  dsimp only
  rw[rv_rp B32_le,if_pos ⟨good_rok (by decide) hg',low_qok (good_sum hg').1⟩]
 rw[ea,Option.bind_some]
 dsimp only
 unfold isW
 cases hm:((rdAll ls).1.any fun r=>r.1)
 ·rw[if_neg (by decide),es,Option.bind_some]
  show Option.bind (S.i_rat_isOne (rp B32 (sumQ (rdAll ls).1),())) _=_
  rw[eo,Option.bind_some]
  cases ho:isOneQ (sumQ (rdAll ls).1)
  ·rfl
  ·simp [hf]
 ·rfl
abbrev P.i_chainOf_b0 (x1:Int×Int×List (List ByteArray)×List (List ByteArray)×List (List (Bool×List Int×List Int))×Unit) (g2:Int×Int×List (List ByteArray)×List (List ByteArray)×List (List (Bool×List Int×List Int))×Unit→Option ((List (List (Bool×List Int×List Int))×Bool)×Unit)):Option ((List (List (Bool×List Int×List Int))×Bool)×Unit):=
 if decide (x1.1<x1.2.1)then if decide ((0:Int)≤x1.1)then if decide (x1.1<(x1.2.2.1.length:Int))then(S.i_weightsOf (x1.2.2.1.getD x1.1.toNat ([]:List ByteArray),())).bind fun y3=>if !y3.1.2 then some ((([]:List (List (Bool×List Int×List Int))),false),())else if(y3.1.1.length:Int) != (x1.2.2.2.1.length:Int)then some ((([]:List (List (Bool×List Int×List Int))),false),())else if decide (((x1.2.2.2.2.1.length+(List.length [y3.1.1]))*(24:Nat))≤(140737488355328:Nat))then g2 (IntKind.wrap .i64 (x1.1+(1:Int)),x1.2.1,x1.2.2.1,x1.2.2.2.1,x1.2.2.2.2.1++[y3.1.1],())else none else none else none else some ((x1.2.2.2.2.1,true),())
def P.i_chainOf (k:Nat) (x:List (List ByteArray)×Unit):Option ((List (List (Bool×List Int×List Int))×Bool)×Unit):=
 if decide ((x.1.length:Int)<(1:Int))then some ((([]:List (List (Bool×List Int×List Int))),false),())else if decide ((x.1.length:Int)>(12:Int))then some ((([]:List (List (Bool×List Int×List Int))),false),())else loopP P.i_chainOf_b0 k ((0:Int),(x.1.length:Int),x.1,x.1,([]:List (List (Bool×List Int×List Int))),())
def S.i_chainOf (x:((List (List ByteArray))×Unit)):(Option (((List (List RB))×Bool)×Unit)):=if x.1.all okT=true then some (((chQ x.1).1.map (fun r=>r.map (rp B32)),(chQ x.1).2),())else none
theorem S.i_chainOf_ok (x:((List (List ByteArray))×Unit)) (r:_) (h:S.i_chainOf x=some r):∃k,P.i_chainOf k x=some r:=by
 obtain⟨rows,u⟩:=x
 unfold S.i_chainOf at h
 dsimp only at h
 split at h
 case isFalse=>cases h
 rename_i hc
 cases h
 refine⟨rows.length+1,?_⟩
 unfold P.i_chainOf chQ
 dsimp only
 by_cases h1:1≤rows.length
 case neg=>
  rw[if_pos (decide_eq_true (show(rows.length:Int)<1 by omega)),decide_eq_false h1]
  rfl
 rw[if_neg (by simpa using(show ¬(rows.length:Int)<1 by omega)),decide_eq_true h1]
 by_cases h2:rows.length≤12
 case neg=>
  rw[if_pos (decide_eq_true (show(rows.length:Int)>12 by omega)),decide_eq_false h2]
  rfl
 rw[if_neg (by simpa using(show ¬(rows.length:Int)>12 by omega)),decide_eq_true h2]
 simp only[Bool.true_and]
 have key:=loop_up0 (k:=rows.length+1) (b:=P.i_chainOf_b0) (n:=rows.length) (st:=fun i=>((i:Int),(rows.length:Int),rows,rows,(rows.take i).map (fun r=>(rdAll r).1.map (rp B32)),())) (F:=fun i=>some (if((rows.drop i).all fun r=>decide (r.length=rows.length)&&(wtAll r).2)=true then(rows.map (fun r=>(rdAll r).1.map (rp B32)),true)else([],false),())) (fun i g hi hg'=>by
  have e1:(i:Int)<(rows.length:Int):=by omega
  have e2:(0:Int)≤(i:Int):=by omega
  have hr:okT rows[i]=true:=List.all_eq_true.1 hc _ (List.getElem_mem hi)
  have e4:(((rows.take i).map (fun r=>(rdAll r).1.map (rp B32))).length+1)*24≤140737488355328:=by
   rw[List.length_map,List.length_take]
   omega
  unfold P.i_chainOf_b0
  dsimp only at hg' ⊢
  simp only[e1,e2,decide_true,if_true]
  rw[getD_cast rows i _ hi,List.drop_eq_getElem_cons hi,List.all_cons]
  have ew:S.i_weightsOf (rows[i],())=some (((wtAll rows[i]).1.map (rp B32),(wtAll rows[i]).2),()):=by
   unfold S.i_weightsOf
   exact if_pos hr
  rw[ew,Option.bind_some]
  dsimp only
  cases hw:(wtAll rows[i]).2
  ·rw[if_pos (by decide),Bool.and_false,Bool.false_and,if_neg (by decide)]
  obtain⟨w1,w2,w3⟩:=wtAll_ok hw
  have w4:=(rdAll_ok w1).1
  rw[if_neg (by decide),w3,List.length_map,w4,Bool.and_true]
  by_cases hl:rows[i].length=rows.length
  case neg=>
   rw[if_pos (by simp;omega),decide_eq_false hl,Bool.false_and,if_neg (by decide)]
  rw[if_neg (by simp;omega),decide_eq_true hl,Bool.true_and]
  simp only[List.length_cons,List.length_nil,Nat.zero_add]
  rw[if_pos (decide_eq_true e4),wr (by omega) (by omega),←hg',List.take_add_one,List.getElem?_eq_getElem hi,Option.toList_some,List.map_append]
  rfl) (fun g=>by
  unfold P.i_chainOf_b0
  dsimp only
  rw[if_neg (by simp),List.take_length,List.drop_length]
  rfl) (by omega)
 rw[List.drop_zero]at key
 refine Eq.trans key ?_
 by_cases ha:(rows.all fun r=>decide (r.length=rows.length)&&(wtAll r).2)=true
 ·rw[if_pos ha,if_pos ha,List.map_map]
  rfl
 ·rw[if_neg ha,if_neg ha]
  rfl
def P.i_in (k:Nat) (x:Int×Int×Int×Unit):Option (Bool×Unit):=
 if decide (x.1≥x.2.1)then some (decide (x.1≤x.2.2.1),())else some (false,())
def S.i_in (x:(Int×(Int×(Int×Unit)))):(Option (Bool×Unit)):=P.i_in 0 x
theorem S.i_in_ok (x:(Int×(Int×(Int×Unit)))) (r:_) (h:S.i_in x=some r):∃k,P.i_in k x=some r:=⟨0,h⟩
def P.i_isState (k:Nat) (x:List (List (Bool×List Int×List Int))×Int×Unit):Option (Bool×Unit):=
 (S.i_in (x.2.1,(0:Int),IntKind.wrap .i64 ((x.1.length:Int) - (1:Int)),())).bind fun y0=>some (y0.1,())
def S.i_isState (x:((List (List RB))×(Int×Unit))):(Option (Bool×Unit)):=P.i_isState 0 x
theorem S.i_isState_ok (x:((List (List RB))×(Int×Unit))) (r:_) (h:S.i_isState x=some r):∃k,P.i_isState k x=some r:=⟨0,h⟩
abbrev P.i_reach_b3 (g2:List Int×List (List (Bool×List Int×List Int))×List Bool×Unit→Option (List Bool×Unit)) (x4:Int×Int×List (Bool×List Int×List Int)×List Bool×List Int×List (List (Bool×List Int×List Int))×Unit) (g5:Int×Int×List (Bool×List Int×List Int)×List Bool×List Int×List (List (Bool×List Int×List Int))×Unit→Option (List Bool×Unit)):Option (List Bool×Unit):=
 if decide (x4.1<x4.2.1)then if decide ((0:Int)≤x4.1)then if decide (x4.1<(x4.2.2.1.length:Int))then(S.i_rat_sign (((x4.2.2.1.getD x4.1.toNat (false,([]:List Int),([]:List Int))).1,(x4.2.2.1.getD x4.1.toNat (false,([]:List Int),([]:List Int))).2.1,(x4.2.2.1.getD x4.1.toNat (false,([]:List Int),([]:List Int))).2.2),())).bind fun y6=>if decide (y6.1>(0:Int))then if decide ((0:Int)≤x4.1)then if decide (x4.1<(x4.2.2.2.1.length:Int))then if ! (x4.2.2.2.1.getD ((0:Nat)+x4.1.toNat) false)then if decide ((0:Int)≤x4.1)then if decide (x4.1<(x4.2.2.2.1.length:Int))then if decide (((x4.2.2.2.2.1.length+(List.length [x4.1]))*(8:Nat))≤(140737488355328:Nat))then g5 (IntKind.wrap .i64 (x4.1+(1:Int)),x4.2.1,x4.2.2.1,x4.2.2.2.1.set ((0:Nat)+x4.1.toNat) true,x4.2.2.2.2.1++[x4.1],x4.2.2.2.2.2.1,())else none else none else none else g5 (IntKind.wrap .i64 (x4.1+(1:Int)),x4.2.1,x4.2.2.1,x4.2.2.2.1,x4.2.2.2.2.1,x4.2.2.2.2.2.1,())else none else none else g5 (IntKind.wrap .i64 (x4.1+(1:Int)),x4.2.1,x4.2.2.1,x4.2.2.2.1,x4.2.2.2.2.1,x4.2.2.2.2.2.1,())else none else none else if decide ((0:Int)≤(x4.2.2.2.2.1.length:Int))then if decide (((x4.2.2.2.2.1.length:Int)+(0:Int))≤(x4.2.2.2.2.1.length:Int))then if decide ((1:Int)≤(x4.2.2.2.2.1.length:Int))then g2 (seen x4.2.2.2.2.1 (1:Nat) ((Int.toNat (x4.2.2.2.2.1.length:Int)) - (1:Nat)),x4.2.2.2.2.2.1,x4.2.2.2.1,())else none else none else none
abbrev P.i_reach_b0 (k:Nat) (x1:List Int×List (List (Bool×List Int×List Int))×List Bool×Unit) (g2:List Int×List (List (Bool×List Int×List Int))×List Bool×Unit→Option (List Bool×Unit)):Option (List Bool×Unit):=
 if decide ((x1.1.length:Int)>(0:Int))then if decide ((0:Int)<(x1.1.length:Int))then if decide ((0:Int)≤(x1.1.getD (0:Nat) (0:Int)))then if decide ((x1.1.getD (0:Nat) (0:Int))<(x1.2.1.length:Int))then loopP (P.i_reach_b3 g2) k ((0:Int),(List.length (x1.2.1.getD (Int.toNat (x1.1.getD (0:Nat) (0:Int))) ([]:List (Bool×List Int×List Int))):Int),x1.2.1.getD (Int.toNat (x1.1.getD (0:Nat) (0:Int))) ([]:List (Bool×List Int×List Int)),x1.2.2.1,x1.1,x1.2.1,())else none else none else none else some (x1.2.2.1,())
def P.i_reach (k:Nat) (x:List (List (Bool×List Int×List Int))×Int×Unit):Option (List Bool×Unit):=
 if decide ((0:Int)≤(x.1.length:Int))then if decide ((x.1.length:Int)≤(x.1.length:Int))then if decide (((x.1.length:Int)*(1:Int))≤(281474976710656:Int))then if decide ((0:Int)≤x.2.1)then if decide (x.2.1<(List.length (List.replicate (Int.toNat (x.1.length:Int)) false):Int))then loopP (P.i_reach_b0 k) k ([x.2.1],x.1,List.set (List.replicate (Int.toNat (x.1.length:Int)) false) ((0:Nat)+x.2.1.toNat) true,())else none else none else none else none else none
theorem sign_rp (q:Q3):S.i_rat_sign (((rp B32 q).1,(rp B32 q).2.1,(rp B32 q).2.2),())=some (sgnQ q.1 q.2.1,()):=by
 unfold S.i_rat_sign rp
 dsimp only
 rw[if_pos (canon_nd (by decide) _),dval_nd (by decide)]
theorem reI_inner {M:List (List Q3)} (hM:isM M) {i:Nat} (hi:i<M.length) {sn:List Bool} {td:List Nat} (hb:Bok M.length (sn,td)) (hm:td.length+sn.count false≤1000000)
  (g:(((List Int)×((List (List RB))×((List Bool)×Unit)))→(Option ((List Bool)×Unit)))) {K:Nat} (hK:M.length<K):
  loopP (P.i_reach_b3 g) K ((0:Int),(M.length:Int),(M.getD i []).map (rp B32),sn,zs (i::td),mp B32 M,())=g (zs (scanB (adj M i) M.length (sn,td)).2,mp B32 M,(scanB (adj M i) M.length (sn,td)).1,()):=by
 have hrow:=isM_row hM hi
 have hn:=hM.1
 have key:=loop_up0 (k:=K) (b:=P.i_reach_b3 g) (n:=M.length) (st:=fun j=>((j:Int),(M.length:Int),(M.getD i []).map (rp B32),((List.range j).foldl (stepB (adj M i)) (sn,td)).1,zs (i::((List.range j).foldl (stepB (adj M i)) (sn,td)).2),mp B32 M,())) (F:=fun _=>g (zs (scanB (adj M i) M.length (sn,td)).2,mp B32 M,(scanB (adj M i) M.length (sn,td)).1,())) (fun j g' hj hg=>by
  unfold P.i_reach_b3
  dsimp only at hg ⊢
  obtain⟨b1,b2⟩:=foldB_ok (a:=adj M i) hb j (by omega)
  rw[fold_succ]at hg
  generalize (List.range j).foldl (stepB (adj M i)) (sn,td)=s at b1 b2 hg ⊢
  have b3:s.2.length≤td.length+sn.count false:=by
   dsimp only at b2
   omega
  have e1:(j:Int)<(M.length:Int):=by omega
  have e2:(0:Int)≤(j:Int):=by omega
  have e3:(((M.getD i []).map (rp B32)).length:Int)=(M.length:Int):=by rw[List.length_map,hrow.1]
  have e4:(zs (i::s.2)).length=s.2.length+1:=by simp [zs]
  have e5:(s.2.length+1+1)*8≤140737488355328:=by omega
  have e6:(s.1.length:Int)=(M.length:Int):=by rw[b1.len]
  rw[Int.toNat_natCast,getD_rp B32 (by rw[hrow.1];exact hj),sign_rp,Option.bind_some]
  simp only[e1,e2,e3,e4,e5,e6,decide_true,if_true,List.length_cons,List.length_nil,Nat.zero_add]
  rw[sgnQ_pos,posQ_adj hM hi hj,wr (by omega) (by omega)]
  unfold stepB at hg
  cases ha:adj M i j
  ·rw[ha,if_neg (by simp)]at hg
   rw[if_neg (by decide)]
   exact hg
  ·rw[if_pos rfl]
   cases hs:s.1.getD j false
   ·rw[ha,hs,if_pos ⟨rfl,rfl⟩]at hg
    rw[if_pos (by decide),←hg]
    simp [zs]
   ·rw[ha,hs,if_neg (by simp)]at hg
    rw[if_neg (by decide)]
    exact hg) (fun g'=>by
  unfold P.i_reach_b3
  dsimp only
  change _=g (zs (scanB (adj M i) M.length (sn,td)).2,mp B32 M,(scanB (adj M i) M.length (sn,td)).1,())
  rw[show(List.range M.length).foldl (stepB (adj M i)) (sn,td)=scanB (adj M i) M.length (sn,td)from rfl]
  generalize scanB (adj M i) M.length (sn,td)=s
  have e4:(zs (i::s.2)).length=s.2.length+1:=by simp [zs]
  have e5:(0:Int)≤((s.2.length+1:Nat):Int):=by omega
  have e6:((s.2.length+1:Nat):Int)+0≤((s.2.length+1:Nat):Int):=by omega
  have e7:(1:Int)≤((s.2.length+1:Nat):Int):=by omega
  rw[if_neg (by simp)]
  simp only[e4,e5,e6,e7,decide_true,if_true,Int.toNat_natCast]
  have e8:seen (zs (i::s.2)) 1 (s.2.length+1 - 1)=zs s.2:=by
   show(zs s.2).take (s.2.length+1 - 1)=zs s.2
   exact List.take_of_length_le (by rw[zs_len];omega)
  rw[e8]) hK
 exact key
theorem reI_outer {M:List (List Q3)} (hM:isM M) {K:Nat} (hK:M.length<K):∀(f k:Nat) (sn:List Bool) (td:List Nat),Bok M.length (sn,td)→td.length+sn.count false≤f→f<k→f≤1000000→loopP (P.i_reach_b0 K) k (zs td,mp B32 M,sn,())=some (bfs (adj M) M.length f sn td,()):=by
 intro f
 induction f with
 |zero=>
  intro k sn td hb hm hk hf
  cases k with
  |zero=>omega
  |succ k=>
   have:td=[]:=List.eq_nil_of_length_eq_zero (by omega)
   subst this
   rw[loopP_succ]
   rfl
 |succ f ih=>
  intro k sn td hb hm hk hf
  cases k with
  |zero=>omega
  |succ k=>
   rw[loopP_succ]
   cases td with
   |nil=>rfl
   |cons i r=>
    have hi:i<M.length:=hb.lt i (List.mem_cons_self ..)
    have hb':Bok M.length (sn,r):=⟨hb.len,fun t ht=>hb.lt t (List.mem_cons_of_mem _ ht)⟩
    have hm':r.length+sn.count false≤f:=by
     rw[List.length_cons]at hm
     omega
    unfold P.i_reach_b0
    dsimp only
    have e1:((zs (i::r)).length:Int)>0:=by rw[zs_len,List.length_cons];omega
    have e2:(zs (i::r)).getD 0 0=(i:Int):=rfl
    have e3:(0:Int)≤(i:Int):=by omega
    have e4:(i:Int)<((mp B32 M).length:Int):=by rw[mp_len];omega
    rw[e2]
    simp only[e1,e3,e4,decide_true,if_true,Int.toNat_natCast]
    rw[mp_at hi,List.length_map,(isM_row hM hi).1,reI_inner hM hi hb' (by omega) _ hK,bfs]
    obtain⟨c1,c2⟩:=foldB_ok (a:=adj M i) hb' M.length (Nat.le_refl _)
    exact ih k _ _ c1 (by
     have:(scanB (adj M i) M.length (sn,r)).2.length+(scanB (adj M i) M.length (sn,r)).1.count false=r.length+sn.count false:=c2
     omega) (by omega) (by omega)
open Classical in
def S.i_reach (x:((List (List RB))×(Int×Unit))):(Option ((List Bool)×Unit)):=if(∃M,isM M∧x.1=mp B32 M)∧0≤x.2.1∧x.2.1<(x.1.length:Int)then some (reachB (adj (mv B32 x.1)) x.1.length x.2.1.toNat,())else none
theorem S.i_reach_ok (x:((List (List RB))×(Int×Unit))) (r:_) (h:S.i_reach x=some r):∃k,P.i_reach k x=some r:=by
 obtain⟨m,s,u⟩:=x
 unfold S.i_reach at h
 dsimp only at h
 split at h
 case isFalse=>cases h
 rename_i hc
 obtain⟨⟨M,hM,rfl⟩,h0,h1⟩:=hc
 cases h
 obtain⟨s,rfl⟩:=Int.eq_ofNat_of_zero_le h0
 rw[mv_mp (by decide),mp_len]at*
 have hs:s<M.length:=by omega
 have hn:=hM.1
 refine⟨M.length+1,?_⟩
 unfold P.i_reach
 dsimp only
 have e1:(0:Int)≤(M.length:Int):=by omega
 have e2:(M.length:Int)*1≤281474976710656:=by omega
 have e3:((List.replicate M.length false).length:Int)=(M.length:Int):=by simp
 rw[mp_len]
 simp only[e1,e2,e3,h0,h1,Int.le_refl,decide_true,if_true,Int.toNat_natCast,Nat.zero_add]
 obtain⟨c1,c2⟩:=start_ok hs
 exact reI_outer hM (K:=M.length+1) (by omega) M.length (M.length+1) _ [s] c1 (by omega) (by omega) (by omega)
abbrev P.i_reaches_b0 (x1:Int×Int×List (List Bool)×List (List (Bool×List Int×List Int))×Unit) (g2:Int×Int×List (List Bool)×List (List (Bool×List Int×List Int))×Unit→Option (List (List Bool)×Unit)):Option (List (List Bool)×Unit):=
 if decide (x1.1<x1.2.1)then(S.i_reach (x1.2.2.2.1,x1.1,())).bind fun y3=>if decide (((x1.2.2.1.length+(List.length [y3.1]))*(24:Nat))≤(140737488355328:Nat))then g2 (IntKind.wrap .i64 (x1.1+(1:Int)),x1.2.1,x1.2.2.1++[y3.1],x1.2.2.2.1,())else none else some (x1.2.2.1,())
def P.i_reaches (k:Nat) (x:List (List (Bool×List Int×List Int))×Unit):Option (List (List Bool)×Unit):=
 loopP P.i_reaches_b0 k ((0:Int),(x.1.length:Int),([]:List (List Bool)),x.1,())
def rowsR (M:List (List Q3)):List (List Bool):=tab M.length fun i=>reachB (adj M) M.length i
theorem reach_i {M:List (List Q3)} (hM:isM M) {i:Nat} (hi:i<M.length):S.i_reach (mp B32 M,(i:Int),())=some (reachB (adj M) M.length i,()):=by
 unfold S.i_reach
 dsimp only
 rw[if_pos ⟨⟨M,hM,rfl⟩,by omega,by rw[mp_len];omega⟩,mv_mp (by decide),mp_len,Int.toNat_natCast]
open Classical in
def S.i_reaches (x:((List (List RB))×Unit)):(Option ((List (List Bool))×Unit)):=if ∃M,isM M∧x.1=mp B32 M then some (rowsR (mv B32 x.1),())else none
theorem S.i_reaches_ok (x:((List (List RB))×Unit)) (r:_) (h:S.i_reaches x=some r):∃k,P.i_reaches k x=some r:=by
 obtain⟨m,u⟩:=x
 unfold S.i_reaches at h
 dsimp only at h
 split at h
 case isFalse=>cases h
 rename_i hc
 obtain⟨M,hM,rfl⟩:=hc
 cases h
 rw[mv_mp (by decide)]
 have hn:=hM.1
 refine⟨M.length+1,?_⟩
 unfold P.i_reaches
 dsimp only
 rw[mp_len]
 have key:=loop_up0 (k:=M.length+1) (b:=P.i_reaches_b0) (n:=M.length) (st:=fun i=>((i:Int),(M.length:Int),tab i (fun i=>reachB (adj M) M.length i),mp B32 M,())) (F:=fun i=>some (rowsR M,())) (fun i g hi hg=>by
  unfold P.i_reaches_b0
  dsimp only at hg ⊢
  have e1:(i:Int)<(M.length:Int):=by omega
  have e2:(i+1)*24≤140737488355328:=by omega
  rw[reach_i hM hi,Option.bind_some]
  simp only[e1,e2,tab_len,decide_true,if_true,List.length_cons,List.length_nil,Nat.zero_add]
  rw[wr (by omega) (by omega),←hg,tab_succ]
  rfl) (fun g=>by
  unfold P.i_reaches_b0
  dsimp only
  rw[if_neg (by simp)]
  rfl) (by omega)
 exact key
abbrev P.i_classes_b5 (g4:Int×Int×List Int×List (List (Bool×List Int×List Int))×List (List Bool)×List Bool×Unit→Option ((List Int×List Bool)×Unit)) (x6:Int×Int×List (List Bool)×Int×List Int×List Bool×Bool×Int×Int×List (List (Bool×List Int×List Int))×Unit) (g7:Int×Int×List (List Bool)×Int×List Int×List Bool×Bool×Int×Int×List (List (Bool×List Int×List Int))×Unit→Option ((List Int×List Bool)×Unit)):Option ((List Int×List Bool)×Unit):=
 if decide (x6.1<x6.2.1)then if decide ((0:Int)≤x6.2.2.2.1)then if decide (x6.2.2.2.1<(x6.2.2.1.length:Int))then if decide ((0:Int)≤x6.1)then if decide (x6.1<(List.length (x6.2.2.1.getD x6.2.2.2.1.toNat ([]:List Bool)):Int))then if List.getD (x6.2.2.1.getD x6.2.2.2.1.toNat ([]:List Bool)) x6.1.toNat false then if decide ((0:Int)≤x6.1)then if decide (x6.1<(x6.2.2.1.length:Int))then if decide ((0:Int)≤x6.2.2.2.1)then if decide (x6.2.2.2.1<(List.length (x6.2.2.1.getD x6.1.toNat ([]:List Bool)):Int))then if List.getD (x6.2.2.1.getD x6.1.toNat ([]:List Bool)) x6.2.2.2.1.toNat false then if decide ((0:Int)≤x6.1)then if decide (x6.1<(x6.2.2.2.2.1.length:Int))then if x6.2.2.2.2.2.2.1 then if decide ((0:Int)≤x6.2.2.2.1)then if decide (x6.2.2.2.1<(x6.2.2.1.length:Int))then if decide ((0:Int)≤x6.1)then if decide (x6.1<(List.length (x6.2.2.1.getD x6.2.2.2.1.toNat ([]:List Bool)):Int))then if ! (List.getD (x6.2.2.1.getD x6.2.2.2.1.toNat ([]:List Bool)) x6.1.toNat false)then g7 (IntKind.wrap .i64 (x6.1+(1:Int)),x6.2.1,x6.2.2.1,x6.2.2.2.1,x6.2.2.2.2.1.set ((0:Nat)+x6.1.toNat) (x6.2.2.2.2.2.1.length:Int),x6.2.2.2.2.2.1,true,x6.2.2.2.2.2.2.2.1,x6.2.2.2.2.2.2.2.2.1,x6.2.2.2.2.2.2.2.2.2.1,())else if decide ((0:Int)≤x6.1)then if decide (x6.1<(x6.2.2.1.length:Int))then if decide ((0:Int)≤x6.2.2.2.1)then if decide (x6.2.2.2.1<(List.length (x6.2.2.1.getD x6.1.toNat ([]:List Bool)):Int))then g7 (IntKind.wrap .i64 (x6.1+(1:Int)),x6.2.1,x6.2.2.1,x6.2.2.2.1,x6.2.2.2.2.1.set ((0:Nat)+x6.1.toNat) (x6.2.2.2.2.2.1.length:Int),x6.2.2.2.2.2.1,List.getD (x6.2.2.1.getD x6.1.toNat ([]:List Bool)) x6.2.2.2.1.toNat false,x6.2.2.2.2.2.2.2.1,x6.2.2.2.2.2.2.2.2.1,x6.2.2.2.2.2.2.2.2.2.1,())else none else none else none else none else none else none else none else none else g7 (IntKind.wrap .i64 (x6.1+(1:Int)),x6.2.1,x6.2.2.1,x6.2.2.2.1,x6.2.2.2.2.1.set ((0:Nat)+x6.1.toNat) (x6.2.2.2.2.2.1.length:Int),x6.2.2.2.2.2.1,false,x6.2.2.2.2.2.2.2.1,x6.2.2.2.2.2.2.2.2.1,x6.2.2.2.2.2.2.2.2.2.1,())else none else none else if x6.2.2.2.2.2.2.1 then if decide ((0:Int)≤x6.2.2.2.1)then if decide (x6.2.2.2.1<(x6.2.2.1.length:Int))then if decide ((0:Int)≤x6.1)then if decide (x6.1<(List.length (x6.2.2.1.getD x6.2.2.2.1.toNat ([]:List Bool)):Int))then if ! (List.getD (x6.2.2.1.getD x6.2.2.2.1.toNat ([]:List Bool)) x6.1.toNat false)then g7 (IntKind.wrap .i64 (x6.1+(1:Int)),x6.2.1,x6.2.2.1,x6.2.2.2.1,x6.2.2.2.2.1,x6.2.2.2.2.2.1,true,x6.2.2.2.2.2.2.2.1,x6.2.2.2.2.2.2.2.2.1,x6.2.2.2.2.2.2.2.2.2.1,())else if decide ((0:Int)≤x6.1)then if decide (x6.1<(x6.2.2.1.length:Int))then if decide ((0:Int)≤x6.2.2.2.1)then if decide (x6.2.2.2.1<(List.length (x6.2.2.1.getD x6.1.toNat ([]:List Bool)):Int))then g7 (IntKind.wrap .i64 (x6.1+(1:Int)),x6.2.1,x6.2.2.1,x6.2.2.2.1,x6.2.2.2.2.1,x6.2.2.2.2.2.1,List.getD (x6.2.2.1.getD x6.1.toNat ([]:List Bool)) x6.2.2.2.1.toNat false,x6.2.2.2.2.2.2.2.1,x6.2.2.2.2.2.2.2.2.1,x6.2.2.2.2.2.2.2.2.2.1,())else none else none else none else none else none else none else none else none else g7 (IntKind.wrap .i64 (x6.1+(1:Int)),x6.2.1,x6.2.2.1,x6.2.2.2.1,x6.2.2.2.2.1,x6.2.2.2.2.2.1,false,x6.2.2.2.2.2.2.2.1,x6.2.2.2.2.2.2.2.2.1,x6.2.2.2.2.2.2.2.2.2.1,())else none else none else none else none else if x6.2.2.2.2.2.2.1 then if decide ((0:Int)≤x6.2.2.2.1)then if decide (x6.2.2.2.1<(x6.2.2.1.length:Int))then if decide ((0:Int)≤x6.1)then if decide (x6.1<(List.length (x6.2.2.1.getD x6.2.2.2.1.toNat ([]:List Bool)):Int))then if ! (List.getD (x6.2.2.1.getD x6.2.2.2.1.toNat ([]:List Bool)) x6.1.toNat false)then g7 (IntKind.wrap .i64 (x6.1+(1:Int)),x6.2.1,x6.2.2.1,x6.2.2.2.1,x6.2.2.2.2.1,x6.2.2.2.2.2.1,true,x6.2.2.2.2.2.2.2.1,x6.2.2.2.2.2.2.2.2.1,x6.2.2.2.2.2.2.2.2.2.1,())else if decide ((0:Int)≤x6.1)then if decide (x6.1<(x6.2.2.1.length:Int))then if decide ((0:Int)≤x6.2.2.2.1)then if decide (x6.2.2.2.1<(List.length (x6.2.2.1.getD x6.1.toNat ([]:List Bool)):Int))then g7 (IntKind.wrap .i64 (x6.1+(1:Int)),x6.2.1,x6.2.2.1,x6.2.2.2.1,x6.2.2.2.2.1,x6.2.2.2.2.2.1,List.getD (x6.2.2.1.getD x6.1.toNat ([]:List Bool)) x6.2.2.2.1.toNat false,x6.2.2.2.2.2.2.2.1,x6.2.2.2.2.2.2.2.2.1,x6.2.2.2.2.2.2.2.2.2.1,())else none else none else none else none else none else none else none else none else g7 (IntKind.wrap .i64 (x6.1+(1:Int)),x6.2.1,x6.2.2.1,x6.2.2.2.1,x6.2.2.2.2.1,x6.2.2.2.2.2.1,false,x6.2.2.2.2.2.2.2.1,x6.2.2.2.2.2.2.2.2.1,x6.2.2.2.2.2.2.2.2.2.1,())else none else none else none else none else if decide (((x6.2.2.2.2.2.1.length+(List.length [x6.2.2.2.2.2.2.1]))*(1:Nat))≤(140737488355328:Nat))then g4 (IntKind.wrap .i64 (x6.2.2.2.2.2.2.2.1+(1:Int)),x6.2.2.2.2.2.2.2.2.1,x6.2.2.2.2.1,x6.2.2.2.2.2.2.2.2.2.1,x6.2.2.1,x6.2.2.2.2.2.1++[x6.2.2.2.2.2.2.1],())else none
abbrev P.i_classes_b2 (k:Nat) (x3:Int×Int×List Int×List (List (Bool×List Int×List Int))×List (List Bool)×List Bool×Unit) (g4:Int×Int×List Int×List (List (Bool×List Int×List Int))×List (List Bool)×List Bool×Unit→Option ((List Int×List Bool)×Unit)):Option ((List Int×List Bool)×Unit):=
 if decide (x3.1<x3.2.1)then if decide ((0:Int)≤x3.1)then if decide (x3.1<(x3.2.2.1.length:Int))then if decide ((x3.2.2.1.getD ((0:Nat)+x3.1.toNat) (0:Int))≥(0:Int))then g4 (IntKind.wrap .i64 (x3.1+(1:Int)),x3.2.1,x3.2.2.1,x3.2.2.2.1,x3.2.2.2.2.1,x3.2.2.2.2.2.1,())else loopP (P.i_classes_b5 g4) k ((0:Int),(x3.2.2.2.1.length:Int),x3.2.2.2.2.1,x3.1,x3.2.2.1,x3.2.2.2.2.2.1,true,x3.1,x3.2.1,x3.2.2.2.1,())else none else none else some ((x3.2.2.1,x3.2.2.2.2.2.1),())
def P.i_classes (k:Nat) (x:List (List (Bool×List Int×List Int))×Unit):Option ((List Int×List Bool)×Unit):=
 (S.i_reaches (x.1,())).bind fun y0=>(S.slices_Repeat__int64_int64 ([(-1:Int)],(x.1.length:Int),())).bind fun y1=>loopP (P.i_classes_b2 k) k ((0:Int),(x.1.length:Int),y1.1,x.1,y0.1,([]:List Bool),())
theorem rowsR_at {M:List (List Q3)} {i j:Nat} (hi:i<M.length):((rowsR M).getD i []).getD j false=rcB M i j:=by
 unfold rowsR rcB
 rw[tab_getD _ _ hi]
theorem rowsR_len {M:List (List Q3)} :(rowsR M).length=M.length:=by
 unfold rowsR
 rw[tab_len]
theorem rowsR_row {M:List (List Q3)} {i:Nat} (hi:i<M.length):((rowsR M).getD i []).length=M.length:=by
 unfold rowsR
 rw[tab_getD _ _ hi,reachB_len hi]
theorem icl_inner {M:List (List Q3)} {i:Nat} (hi:i<M.length) (hn:M.length≤12) (f:Nat→Int) (cl:List Bool) (hcl:cl.length≤12)
  (g:((Int×(Int×((List Int)×((List (List RB))×((List (List Bool))×((List Bool)×Unit))))))→(Option (((List Int)×(List Bool))×Unit)))) {K:Nat} (hK:M.length<K) (p:List (List RB)):
  loopP (P.i_classes_b5 g) K ((0:Int),(M.length:Int),rowsR M,(i:Int),tab M.length f,cl,true,(i:Int),(M.length:Int),p,())=g (((i+1:Nat):Int),(M.length:Int),tab M.length (fun j=>if(rcB M i j&&rcB M j i)=true then(cl.length:Int)else f j),p,rowsR M,cl++[(List.range M.length).all fun j=> !rcB M i j||rcB M j i],()):=by
 have key:=loop_up0 (k:=K) (b:=P.i_classes_b5 g) (n:=M.length) (st:=fun j=>((j:Int),(M.length:Int),rowsR M,(i:Int),upT M.length f (fun j=>rcB M i j&&rcB M j i) (cl.length:Int) j,cl,(List.range j).all (fun j=> !rcB M i j||rcB M j i),(i:Int),(M.length:Int),p,())) (F:=fun _=>g (((i+1:Nat):Int),(M.length:Int),tab M.length (fun j=>if(rcB M i j&&rcB M j i)=true then(cl.length:Int)else f j),p,rowsR M,cl++[(List.range M.length).all fun j=> !rcB M i j||rcB M j i],())) (fun j g' hj hg=>by
  unfold P.i_classes_b5
  dsimp only at hg ⊢
  have e1:(j:Int)<(M.length:Int):=by omega
  have e2:(0:Int)≤(j:Int):=by omega
  have e3:(0:Int)≤(i:Int):=by omega
  have e4:(i:Int)<(M.length:Int):=by omega
  have e5:∀k,(upT M.length f (fun j=>rcB M i j&&rcB M j i) (cl.length:Int) k).length=M.length:=fun k=>tab_len _ _
  simp only[rowsR_len,Int.toNat_natCast,rowsR_row hi,rowsR_row hj,rowsR_at hi,rowsR_at hj,e1,e2,e3,e4,e5,decide_true,if_true,Nat.zero_add]
  rw[wr (by omega) (by omega)]
  rw[all_succ]at hg
  cases h1:rcB M i j
  ·rw[←upT_no (by rw[h1];rfl),h1,Bool.not_false,Bool.true_or,Bool.and_true]at hg
   cases hs:(List.range j).all fun j=> !rcB M i j||rcB M j i
   ·rw[hs]at hg
    exact hg
   ·rw[hs]at hg
    exact hg
  ·cases h2:rcB M j i
   ·rw[←upT_no (by rw[h1,h2];rfl),h1,h2,Bool.not_true,Bool.false_or,Bool.and_false]at hg
    cases hs:(List.range j).all fun j=> !rcB M i j||rcB M j i
    ·exact hg
    ·exact hg
   ·rw[←upT_yes (by rw[h1,h2];rfl),h1,h2,Bool.not_true,Bool.false_or,Bool.and_true]at hg
    cases hs:(List.range j).all fun j=> !rcB M i j||rcB M j i
    ·rw[hs]at hg
     exact hg
    ·rw[hs]at hg
     exact hg) (fun g'=>by
  unfold P.i_classes_b5
  dsimp only
  have e1:(cl.length+1)*1≤140737488355328:=by omega
  rw[if_neg (by simp),upT_all]
  simp only[List.length_cons,List.length_nil,Nat.zero_add,e1,decide_true,if_true]
  rw[wr (by omega) (by omega)]
  rfl) hK
 refine Eq.trans ?_ key
 unfold upT
 congr 2
open Classical in
def S.i_classes (x:((List (List RB))×Unit)):(Option (((List Int)×(List Bool))×Unit)):=if ∃M,isM M∧x.1=mp B32 M then some (clsM (mv B32 x.1),())else none
theorem S.i_classes_ok (x:((List (List RB))×Unit)) (r:_) (h:S.i_classes x=some r):∃k,P.i_classes k x=some r:=by
 obtain⟨m,u⟩:=x
 unfold S.i_classes at h
 dsimp only at h
 split at h
 case isFalse=>cases h
 rename_i hc
 obtain⟨M,hM,rfl⟩:=hc
 cases h
 rw[mv_mp (by decide)]
 have hn:=hM.1
 refine⟨M.length+1,?_⟩
 unfold P.i_classes
 dsimp only
 have er:S.i_reaches (mp B32 M,())=some (rowsR M,()):=by
  unfold S.i_reaches
  dsimp only
  rw[if_pos ⟨M,hM,rfl⟩,mv_mp (by decide)]
 have ep:S.slices_Repeat__int64_int64 ([-1],(M.length:Int),())=some (List.replicate M.length (-1),()):=by
  unfold S.slices_Repeat__int64_int64
  dsimp only
  rw[if_pos ⟨rfl,by omega,by omega⟩,Int.toNat_natCast]
  rfl
 rw[er,mp_len,Option.bind_some,ep,Option.bind_some]
 have key:=loop_up0 (k:=M.length+1) (b:=P.i_classes_b2 (M.length+1)) (n:=M.length) (st:=fun i=>((i:Int),(M.length:Int),((List.range i).foldl (clsStep (rcB M) M.length) (List.replicate M.length (-1),[])).1,mp B32 M,rowsR M,((List.range i).foldl (clsStep (rcB M) M.length) (List.replicate M.length (-1),[])).2,())) (F:=fun _=>some (clsM M,())) (fun i g hi hg=>by
  unfold P.i_classes_b2
  dsimp only at hg ⊢
  obtain⟨l1,l2⟩:=clsF_len (rcB M) M.length i
  rw[fold_succ]at hg
  generalize (List.range i).foldl (clsStep (rcB M) M.length) (List.replicate M.length (-1),[])=s at l1 l2 hg ⊢
  have e1:(i:Int)<(M.length:Int):=by omega
  have e2:(0:Int)≤(i:Int):=by omega
  have e3:(i:Int)<(s.1.length:Int):=by omega
  have e4:s.1.getD i 0=s.1.getD i (-1):=by
   rw[List.getD_eq_getElem?_getD,List.getD_eq_getElem?_getD,List.getElem?_eq_getElem (by omega)]
   rfl
  simp only[e1,e2,e3,decide_true,if_true,Int.toNat_natCast,Nat.zero_add,e4,mp_len]
  unfold clsStep at hg
  by_cases h0:0≤s.1.getD i (-1)
  ·rw[if_pos h0]at hg
   rw[if_pos (decide_eq_true h0),wr (by omega) (by omega)]
   exact hg
  ·rw[if_neg h0]at hg
   rw[if_neg (by simpa using h0)]
   have hs:s.1=tab M.length fun v=>s.1.getD v (-1):=by
    conv=>lhs;rw[tab_of s.1 (-1),l1]
   rw[hs]
   refine Eq.trans (icl_inner hi hn (fun v=>s.1.getD v (-1)) s.2 (by omega) g (by omega) _) ?_
   exact hg) (fun g=>by
  unfold P.i_classes_b2
  dsimp only
  rw[if_neg (by simp)]
  rfl) (by omega)
 exact key
abbrev P.i_gcdOf_b0 (x1:Int×Int×Unit) (g2:Int×Int×Unit→Option (Int×Unit)):Option (Int×Unit):=
 if x1.1 != (0:Int)then if decide (x1.1=(0:Int))then none else g2 (Int.tmod x1.2.1 x1.1,x1.1,())else some (mnx true x1.2.1 (IntKind.wrap .i64 ((0:Int) - x1.2.1)),())
def P.i_gcdOf (k:Nat) (x:Int×Int×Unit):Option (Int×Unit):=
 loopP P.i_gcdOf_b0 k (x.2.1,x.1,())
theorem gcdI_loop (n:Nat):∀(a b:Int) (k:Nat),b.natAbs≤n→n<k→ -1000000000≤a→a≤1000000000→ -1000000000≤b→b≤1000000000→loopP P.i_gcdOf_b0 k (b,(a,()))=some ((Int.gcd a b:Int),()):=by
 induction n using Nat.strongRecOn with
 |ind n ih=>
  intro a b k hn hk h1 h2 h3 h4
  obtain⟨k,rfl⟩:∃j,k=j+1:=⟨k - 1,by omega⟩
  rw[loopP_succ]
  unfold P.i_gcdOf_b0
  dsimp only
  by_cases hb:b=0
  ·subst hb
   rw[if_neg (by decide),wr (by omega) (by omega),Int.gcd_zero_right]
   unfold mnx
   simp only[if_true]
   congr 2
   split<;>omega
  ·have hm:(Int.tmod a b).natAbs<b.natAbs:=by
    rw[Int.natAbs_tmod]
    exact Nat.mod_lt _ (by omega)
   rw[if_pos (by simpa using hb),if_neg (by simpa using hb),ih _ (Nat.lt_of_lt_of_le hm hn) b (Int.tmod a b) k (Nat.le_refl _) (by omega) h3 h4 (by omega) (by omega),gcd_rem]
def S.i_gcdOf (x:(Int×(Int×Unit))):(Option (Int×Unit)):=if -1000000000≤x.1∧x.1≤1000000000∧ -1000000000≤x.2.1∧x.2.1≤1000000000 then some ((Int.gcd x.1 x.2.1:Int),())else none
theorem S.i_gcdOf_ok (x:(Int×(Int×Unit))) (r:_) (h:S.i_gcdOf x=some r):∃k,P.i_gcdOf k x=some r:=by
 obtain⟨a,b,u⟩:=x
 unfold S.i_gcdOf at h
 dsimp only at h
 split at h
 case isFalse=>cases h
 rename_i hc
 cases h
 exact⟨b.natAbs+1,gcdI_loop _ a b _ (Nat.le_refl _) (by omega) hc.1 hc.2.1 hc.2.2.1 hc.2.2.2⟩
abbrev P.i_PeriodOf_b7 (g6:List Int×List (List (Bool×List Int×List Int))×List Int×Int×List Int×Int×Unit→Option ((Int×Bool)×Unit)) (x8:Int×Int×List (Bool×List Int×List Int)×List Int×Int×List Int×Int×List Int×Int×List (List (Bool×List Int×List Int))×Unit) (g9:Int×Int×List (Bool×List Int×List Int)×List Int×Int×List Int×Int×List Int×Int×List (List (Bool×List Int×List Int))×Unit→Option ((Int×Bool)×Unit)):Option ((Int×Bool)×Unit):=
 if decide (x8.1<x8.2.1)then if decide ((0:Int)≤x8.1)then if decide (x8.1<(x8.2.2.1.length:Int))then(S.i_rat_sign (((x8.2.2.1.getD x8.1.toNat (false,([]:List Int),([]:List Int))).1,(x8.2.2.1.getD x8.1.toNat (false,([]:List Int),([]:List Int))).2.1,(x8.2.2.1.getD x8.1.toNat (false,([]:List Int),([]:List Int))).2.2),())).bind fun y10=>if y10.1==(0:Int)then g9 (IntKind.wrap .i64 (x8.1+(1:Int)),x8.2.1,x8.2.2.1,x8.2.2.2.1,x8.2.2.2.2.1,x8.2.2.2.2.2.1,x8.2.2.2.2.2.2.1,x8.2.2.2.2.2.2.2.1,x8.2.2.2.2.2.2.2.2.1,x8.2.2.2.2.2.2.2.2.2.1,())else if decide ((0:Int)≤x8.1)then if decide (x8.1<(x8.2.2.2.1.length:Int))then if decide ((0:Int)≤x8.2.2.2.2.1)then if decide (x8.2.2.2.2.1<(x8.2.2.2.1.length:Int))then if(x8.2.2.2.1.getD x8.1.toNat (0:Int)) != (x8.2.2.2.1.getD x8.2.2.2.2.1.toNat (0:Int))then g9 (IntKind.wrap .i64 (x8.1+(1:Int)),x8.2.1,x8.2.2.1,x8.2.2.2.1,x8.2.2.2.2.1,x8.2.2.2.2.2.1,x8.2.2.2.2.2.2.1,x8.2.2.2.2.2.2.2.1,x8.2.2.2.2.2.2.2.2.1,x8.2.2.2.2.2.2.2.2.2.1,())else if decide ((0:Int)≤x8.1)then if decide (x8.1<(x8.2.2.2.2.2.1.length:Int))then if decide ((x8.2.2.2.2.2.1.getD ((0:Nat)+x8.1.toNat) (0:Int))<(0:Int))then if decide ((0:Int)≤x8.2.2.2.2.2.2.1)then if decide (x8.2.2.2.2.2.2.1<(x8.2.2.2.2.2.1.length:Int))then if decide ((0:Int)≤x8.1)then if decide (x8.1<(x8.2.2.2.2.2.1.length:Int))then if decide (((x8.2.2.2.2.2.2.2.1.length+(List.length [x8.1]))*(8:Nat))≤(140737488355328:Nat))then if decide ((0:Int)≤x8.2.2.2.2.2.2.1)then if decide (x8.2.2.2.2.2.2.1<(List.length (x8.2.2.2.2.2.1.set ((0:Nat)+x8.1.toNat) (IntKind.wrap .i64 ((x8.2.2.2.2.2.1.getD ((0:Nat)+x8.2.2.2.2.2.2.1.toNat) (0:Int))+(1:Int)))):Int))then if decide ((0:Int)≤x8.1)then if decide (x8.1<(List.length (x8.2.2.2.2.2.1.set ((0:Nat)+x8.1.toNat) (IntKind.wrap .i64 ((x8.2.2.2.2.2.1.getD ((0:Nat)+x8.2.2.2.2.2.2.1.toNat) (0:Int))+(1:Int)))):Int))then(S.i_gcdOf (x8.2.2.2.2.2.2.2.2.1,IntKind.wrap .i64 ((IntKind.wrap .i64 ((List.getD (x8.2.2.2.2.2.1.set ((0:Nat)+x8.1.toNat) (IntKind.wrap .i64 ((x8.2.2.2.2.2.1.getD ((0:Nat)+x8.2.2.2.2.2.2.1.toNat) (0:Int))+(1:Int)))) ((0:Nat)+x8.2.2.2.2.2.2.1.toNat) (0:Int))+(1:Int))) - (List.getD (x8.2.2.2.2.2.1.set ((0:Nat)+x8.1.toNat) (IntKind.wrap .i64 ((x8.2.2.2.2.2.1.getD ((0:Nat)+x8.2.2.2.2.2.2.1.toNat) (0:Int))+(1:Int)))) ((0:Nat)+x8.1.toNat) (0:Int))),())).bind fun y11=>g9 (IntKind.wrap .i64 (x8.1+(1:Int)),x8.2.1,x8.2.2.1,x8.2.2.2.1,x8.2.2.2.2.1,x8.2.2.2.2.2.1.set ((0:Nat)+x8.1.toNat) (IntKind.wrap .i64 ((x8.2.2.2.2.2.1.getD ((0:Nat)+x8.2.2.2.2.2.2.1.toNat) (0:Int))+(1:Int))),x8.2.2.2.2.2.2.1,x8.2.2.2.2.2.2.2.1++[x8.1],y11.1,x8.2.2.2.2.2.2.2.2.2.1,())else none else none else none else none else none else none else none else none else none else if decide ((0:Int)≤x8.2.2.2.2.2.2.1)then if decide (x8.2.2.2.2.2.2.1<(x8.2.2.2.2.2.1.length:Int))then if decide ((0:Int)≤x8.1)then if decide (x8.1<(x8.2.2.2.2.2.1.length:Int))then(S.i_gcdOf (x8.2.2.2.2.2.2.2.2.1,IntKind.wrap .i64 ((IntKind.wrap .i64 ((x8.2.2.2.2.2.1.getD ((0:Nat)+x8.2.2.2.2.2.2.1.toNat) (0:Int))+(1:Int))) - (x8.2.2.2.2.2.1.getD ((0:Nat)+x8.1.toNat) (0:Int))),())).bind fun y12=>g9 (IntKind.wrap .i64 (x8.1+(1:Int)),x8.2.1,x8.2.2.1,x8.2.2.2.1,x8.2.2.2.2.1,x8.2.2.2.2.2.1,x8.2.2.2.2.2.2.1,x8.2.2.2.2.2.2.2.1,y12.1,x8.2.2.2.2.2.2.2.2.2.1,())else none else none else none else none else none else none else none else none else none else none else none else none else if decide ((0:Int)≤(x8.2.2.2.2.2.2.2.1.length:Int))then if decide (((x8.2.2.2.2.2.2.2.1.length:Int)+(0:Int))≤(x8.2.2.2.2.2.2.2.1.length:Int))then if decide ((1:Int)≤(x8.2.2.2.2.2.2.2.1.length:Int))then g6 (seen x8.2.2.2.2.2.2.2.1 (1:Nat) ((Int.toNat (x8.2.2.2.2.2.2.2.1.length:Int)) - (1:Nat)),x8.2.2.2.2.2.2.2.2.2.1,x8.2.2.2.1,x8.2.2.2.2.1,x8.2.2.2.2.2.1,x8.2.2.2.2.2.2.2.2.1,())else none else none else none
abbrev P.i_PeriodOf_b4 (k:Nat) (x5:List Int×List (List (Bool×List Int×List Int))×List Int×Int×List Int×Int×Unit) (g6:List Int×List (List (Bool×List Int×List Int))×List Int×Int×List Int×Int×Unit→Option ((Int×Bool)×Unit)):Option ((Int×Bool)×Unit):=
 if decide ((x5.1.length:Int)>(0:Int))then if decide ((0:Int)<(x5.1.length:Int))then if decide ((0:Int)≤(x5.1.getD (0:Nat) (0:Int)))then if decide ((x5.1.getD (0:Nat) (0:Int))<(x5.2.1.length:Int))then loopP (P.i_PeriodOf_b7 g6) k ((0:Int),(List.length (x5.2.1.getD (Int.toNat (x5.1.getD (0:Nat) (0:Int))) ([]:List (Bool×List Int×List Int))):Int),x5.2.1.getD (Int.toNat (x5.1.getD (0:Nat) (0:Int))) ([]:List (Bool×List Int×List Int)),x5.2.2.1,x5.2.2.2.1,x5.2.2.2.2.1,x5.1.getD (0:Nat) (0:Int),x5.1,x5.2.2.2.2.2.1,x5.2.1,())else none else none else none else some ((x5.2.2.2.2.2.1,decide (x5.2.2.2.2.2.1>(0:Int))),())
def P.i_PeriodOf (k:Nat) (x:List (List ByteArray)×Int×Unit):Option ((Int×Bool)×Unit):=
 (S.i_chainOf (x.1,())).bind fun y0=>if !y0.1.2 then some (((0:Int),false),())else(S.i_isState (y0.1.1,x.2.1,())).bind fun y1=>if !y1.1 then some (((0:Int),false),())else(S.i_classes (y0.1.1,())).bind fun y2=>(S.slices_Repeat__int64_int64 ([(-1:Int)],(y0.1.1.length:Int),())).bind fun y3=>if decide ((0:Int)≤x.2.1)then if decide (x.2.1<(y3.1.length:Int))then loopP (P.i_PeriodOf_b4 k) k ([x.2.1],y0.1.1,y2.1.1,x.2.1,y3.1.set ((0:Nat)+x.2.1.toNat) (0:Int),(0:Int),())else none else none
theorem clsM_lenI (M:List (List Q3)):(clsM M).1.length=M.length:=by
 obtain⟨l1,_⟩:=clsF_len (rcB M) M.length M.length
 exact l1
theorem sgn_adj {M:List (List Q3)} (i j:Nat):(sgnQ ((M.getD i []).getD j zeroQ).1 ((M.getD i []).getD j zeroQ).2.1==0)= !adj M i j:=by
 rw[Bool.eq_iff_iff,beq_iff_eq,sgnQ_zero]
 unfold adj
 simp
theorem getD_lv {lv:List Int} {j:Nat} (h:j<lv.length):lv.getD j 0=lv.getD j (-1):=by
 rw[List.getD_eq_getElem?_getD,List.getD_eq_getElem?_getD,List.getElem?_eq_getElem h]
 rfl
theorem inSt (s:Int) (n:Nat) (h:n≤1000):S.i_in (s,((0:Int),(IntKind.wrap .i64 ((n:Int) - 1),())))=some (decide (0≤s∧s<(n:Int)),()):=by
 unfold S.i_in P.i_in
 dsimp only
 rw[wr (by omega) (by omega)]
 by_cases ha:s≥0
 ·rw[if_pos (decide_eq_true ha)]
  congr 2
  rw[Bool.eq_iff_iff,decide_eq_true_iff,decide_eq_true_iff]
  omega
 ·rw[if_neg (by simpa using ha),decide_eq_false (by omega)]
theorem perI_inner {M:List (List Q3)} (hM:isM M) {s i:Nat} (hs:s<M.length) (hi:i<M.length) {lv:List Int} {td:List Nat} {gd:Int} (hl:0≤lv.getD i (-1)) (hb:Lok M.length (lv,td,gd)) (hm:td.length+lv.count (-1)≤1000000)
  (g:(((List Int)×((List (List RB))×((List Int)×(Int×((List Int)×(Int×Unit))))))→(Option ((Int×Bool)×Unit)))) {K:Nat} (hK:M.length<K):
  loopP (P.i_PeriodOf_b7 g) K ((0:Int),(M.length:Int),(M.getD i []).map (rp B32),(clsM M).1,(s:Int),lv,(i:Int),zs (i::td),gd,mp B32 M,())=g (zs ((List.range M.length).foldl (stepL (adjC M s i) (lv.getD i (-1))) (lv,td,gd)).2.1,mp B32 M,(clsM M).1,(s:Int),((List.range M.length).foldl (stepL (adjC M s i) (lv.getD i (-1))) (lv,td,gd)).1,((List.range M.length).foldl (stepL (adjC M s i) (lv.getD i (-1))) (lv,td,gd)).2.2,()):=by
 have hrow:=isM_row hM hi
 have hn:=hM.1
 have key:=loop_up0 (k:=K) (b:=P.i_PeriodOf_b7 g) (n:=M.length) (st:=fun j=>((j:Int),(M.length:Int),(M.getD i []).map (rp B32),(clsM M).1,(s:Int),((List.range j).foldl (stepL (adjC M s i) (lv.getD i (-1))) (lv,td,gd)).1,(i:Int),zs (i::((List.range j).foldl (stepL (adjC M s i) (lv.getD i (-1))) (lv,td,gd)).2.1),((List.range j).foldl (stepL (adjC M s i) (lv.getD i (-1))) (lv,td,gd)).2.2,mp B32 M,())) (F:=fun _=>g (zs ((List.range M.length).foldl (stepL (adjC M s i) (lv.getD i (-1))) (lv,td,gd)).2.1,mp B32 M,(clsM M).1,(s:Int),((List.range M.length).foldl (stepL (adjC M s i) (lv.getD i (-1))) (lv,td,gd)).1,((List.range M.length).foldl (stepL (adjC M s i) (lv.getD i (-1))) (lv,td,gd)).2.2,())) (fun j g' hj hg=>by
  unfold P.i_PeriodOf_b7
  dsimp only at hg ⊢
  obtain⟨b1,b2,b3⟩:=foldL_ok hn (a:=adjC M s i) hi hl hb j (by omega)
  rw[fold_succ]at hg
  dsimp only at b2 b3
  generalize (List.range j).foldl (stepL (adjC M s i) (lv.getD i (-1))) (lv,td,gd)=t at b1 b2 b3 hg ⊢
  have bl:t.1.length=M.length:=b1.len
  have hbi:=b1.lo _ (getD_memL (lv:=t.1) (j:=i) (by rw[b1.len];exact hi))
  have hbj:=b1.lo _ (getD_memL (lv:=t.1) (j:=j) (by rw[b1.len];exact hj))
  have hg0:=b1.g0
  have hg1:=b1.g1
  rw[b2]at hbi
  have e0:(zs (i::t.2.1)).length=t.2.1.length+1:=by simp [zs]
  have e1:(j:Int)<(M.length:Int):=by omega
  have e2:(0:Int)≤(j:Int):=by omega
  have e3:(0:Int)≤(s:Int):=by omega
  have e4:(s:Int)<(M.length:Int):=by omega
  have e6:(0:Int)≤(i:Int):=by omega
  have e7:(i:Int)<(M.length:Int):=by omega
  have e8:(t.2.1.length+1+1)*8≤140737488355328:=by omega
  have e9:(((M.getD i []).map (rp B32)).length:Int)=(M.length:Int):=by rw[List.length_map,hrow.1]
  have ei:t.1.getD i 0=lv.getD i (-1):=by rw[getD_lv (by omega),b2]
  have ej:t.1.getD j 0=t.1.getD j (-1):=getD_lv (by omega)
  rw[Int.toNat_natCast,getD_rp B32 (by rw[hrow.1];exact hj),sign_rp,Option.bind_some]
  simp only[e0,e1,e2,e3,e4,e6,e7,e8,e9,clsM_lenI,bl,List.length_set,decide_true,if_true,List.length_cons,List.length_nil,Nat.zero_add,Int.toNat_natCast,ei,ej]
  rw[sgn_adj,wr (x:=(j:Int)+1) (by omega) (by omega),wr (x:=lv.getD i (-1)+1) (by omega) (by omega)]
  have hadj:adjC M s i j=(adj M i j&&decide ((clsM M).1.getD j 0=(clsM M).1.getD s 0)):=rfl
  cases ha:adj M i j
  ·rw[stepL_no (a:=adjC M s i) (j:=j) (by rw[hadj,ha,Bool.false_and])]at hg
   rw[if_pos (by decide)]
   exact hg
  ·rw[if_neg (by decide)]
   by_cases hc:(clsM M).1.getD j 0=(clsM M).1.getD s 0
   case neg=>
    rw[stepL_no (a:=adjC M s i) (j:=j) (by rw[hadj,decide_eq_false hc,Bool.and_false])]at hg
    rw[if_pos (by simpa using hc)]
    exact hg
   have hat:adjC M s i j=true:=by rw[hadj,ha,decide_eq_true hc,Bool.and_true]
   rw[if_neg (by simpa using hc)]
   have gok:∀d:Int, -1000≤d→d≤1000→S.i_gcdOf (t.2.2,(d,()))=some ((Int.gcd t.2.2 d:Int),()):=fun d d1 d2=>by
    unfold S.i_gcdOf
    dsimp only
    rw[if_pos (by omega)]
   by_cases h0:t.1.getD j (-1)<0
   ·rw[stepL_new hat h0]at hg
    have hne:¬(i=j∧j<t.1.length):=fun e=>by
     rw[←e.1,b2]at h0
     omega
    have s1:(t.1.set j (lv.getD i (-1)+1)).getD i 0=lv.getD i (-1):=by
     rw[getD_lv (by rw[List.length_set];omega),getD_setL,if_neg hne,b2]
    have s2:(t.1.set j (lv.getD i (-1)+1)).getD j 0=lv.getD i (-1)+1:=by
     rw[getD_lv (by rw[List.length_set];omega),getD_setL,if_pos ⟨rfl,by omega⟩]
    rw[if_pos (decide_eq_true h0),s1,s2,wr (x:=lv.getD i (-1)+1) (by omega) (by omega),Int.sub_self,wr (x:=0) (by omega) (by omega),gok 0 (by omega) (by omega),Option.bind_some,Int.gcd_zero_right]
    dsimp only
    rw[show((t.2.2.natAbs:Nat):Int)=t.2.2 by omega,←hg]
    simp [zs]
   ·rw[stepL_old hat h0]at hg
    rw[if_neg (by simpa using h0),wr (x:=lv.getD i (-1)+1 - t.1.getD j (-1)) (by omega) (by omega),gok _ (by omega) (by omega),Option.bind_some]
    exact hg) (fun g'=>by
  unfold P.i_PeriodOf_b7
  dsimp only
  generalize (List.range M.length).foldl (stepL (adjC M s i) (lv.getD i (-1))) (lv,td,gd)=t
  have e4:(zs (i::t.2.1)).length=t.2.1.length+1:=by simp [zs]
  have e5:(0:Int)≤((t.2.1.length+1:Nat):Int):=by omega
  have e6:((t.2.1.length+1:Nat):Int)+0≤((t.2.1.length+1:Nat):Int):=by omega
  have e7:(1:Int)≤((t.2.1.length+1:Nat):Int):=by omega
  rw[if_neg (by simp)]
  simp only[e4,e5,e6,e7,decide_true,if_true,Int.toNat_natCast]
  have e8:seen (zs (i::t.2.1)) 1 (t.2.1.length+1 - 1)=zs t.2.1:=by
   show(zs t.2.1).take (t.2.1.length+1 - 1)=zs t.2.1
   exact List.take_of_length_le (by rw[zs_len];omega)
  rw[e8]) hK
 exact key
theorem perI_outer {M:List (List Q3)} (hM:isM M) {s:Nat} (hs:s<M.length) {K:Nat} (hK:M.length<K):∀(f k:Nat) (lv:List Int) (td:List Nat) (gd:Int),Lok M.length (lv,td,gd)→td.length+lv.count (-1)≤f→f<k→f≤1000000→loopP (P.i_PeriodOf_b4 K) k (zs td,mp B32 M,(clsM M).1,(s:Int),lv,gd,())=some ((perL (adjC M s) M.length f lv td gd,decide (perL (adjC M s) M.length f lv td gd>0)),()):=by
 intro f
 induction f with
 |zero=>
  intro k lv td gd hb hm hk hf
  cases k with
  |zero=>omega
  |succ k=>
   have:td=[]:=List.eq_nil_of_length_eq_zero (by omega)
   subst this
   rw[loopP_succ]
   rfl
 |succ f ih=>
  intro k lv td gd hb hm hk hf
  cases k with
  |zero=>omega
  |succ k=>
   rw[loopP_succ]
   cases td with
   |nil=>rfl
   |cons i r=>
    obtain⟨hi,hl⟩:=hb.td i (List.mem_cons_self ..)
    dsimp only at hl
    have hb':Lok M.length (lv,r,gd):=⟨hb.len,hb.lo,fun t ht=>hb.td t (List.mem_cons_of_mem _ ht),hb.g0,hb.g1⟩
    have hm':r.length+lv.count (-1)≤f:=by
     rw[List.length_cons]at hm
     omega
    unfold P.i_PeriodOf_b4
    dsimp only
    have e1:((zs (i::r)).length:Int)>0:=by rw[zs_len,List.length_cons];omega
    have e2:(zs (i::r)).getD 0 0=(i:Int):=rfl
    have e3:(0:Int)≤(i:Int):=by omega
    have e4:(i:Int)<((mp B32 M).length:Int):=by rw[mp_len];omega
    rw[e2]
    simp only[e1,e3,e4,decide_true,if_true,Int.toNat_natCast]
    rw[mp_at hi,List.length_map,(isM_row hM hi).1,perI_inner hM hs hi hl hb' (by omega) _ hK,perL]
    obtain⟨c1,c2,c3⟩:=foldL_ok (s:=(lv,r,gd)) hM.1 (a:=adjC M s i) hi hl hb' M.length (Nat.le_refl _)
    exact ih k _ _ _ c1 (Nat.le_trans (Nat.le_of_eq c3) hm') (by omega) (by omega)
def perT (u:List (List ByteArray)) (s:Int):Int×Bool:=
 if(chQ u).2=true∧0≤s∧s<(u.length:Int)then(perM (chQ u).1 s.toNat,decide (perM (chQ u).1 s.toNat>0))else(0,false)
def S.i_PeriodOf (x:((List (List ByteArray))×(Int×Unit))):(Option ((Int×Bool)×Unit)):=if x.1.all okT=true then some (perT x.1 x.2.1,())else none
theorem S.i_PeriodOf_ok (x:((List (List ByteArray))×(Int×Unit))) (r:_) (h:S.i_PeriodOf x=some r):∃k,P.i_PeriodOf k x=some r:=by
 obtain⟨c,s,u⟩:=x
 unfold S.i_PeriodOf at h
 dsimp only at h
 split at h
 case isFalse=>cases h
 rename_i hu
 cases h
 refine⟨c.length+1,?_⟩
 unfold P.i_PeriodOf perT
 dsimp only
 have ep:S.i_chainOf (c,())=some ((mp B32 (chQ c).1,(chQ c).2),()):=by
  unfold S.i_chainOf
  exact if_pos hu
 rw[ep,Option.bind_some]
 dsimp only
 cases hc:(chQ c).2
 ·rw[if_pos (by decide),if_neg (by simp)]
 obtain⟨h1,h2⟩:=chQ_ok hc
 have hM:=h1.2.1
 have hn:=hM.1
 rw[if_neg (by decide)]
 unfold S.i_isState P.i_isState
 dsimp only
 rw[mp_len,inSt s _ (by omega),Option.bind_some,Option.bind_some]
 dsimp only
 rw[←h2]
 by_cases hs:0≤s∧s<((chQ c).1.length:Int)
 case neg=>
  rw[decide_eq_false hs,if_pos (by decide),if_neg (fun e=>hs e.2)]
 rw[decide_eq_true hs,if_neg (by decide),if_pos ⟨rfl,hs.1,hs.2⟩]
 obtain⟨h0,h3⟩:=hs
 obtain⟨s,rfl⟩:=Int.eq_ofNat_of_zero_le h0
 generalize (chQ c).1=M at*
 have hs:s<M.length:=by omega
 have ec:S.i_classes (mp B32 M,())=some (clsM M,()):=by
  unfold S.i_classes
  dsimp only
  rw[if_pos ⟨M,hM,rfl⟩,mv_mp (by decide)]
 have er:S.slices_Repeat__int64_int64 ([-1],(M.length:Int),())=some (List.replicate M.length (-1),()):=by
  unfold S.slices_Repeat__int64_int64
  dsimp only
  rw[if_pos ⟨rfl,by omega,by omega⟩,Int.toNat_natCast]
  rfl
 rw[ec,Option.bind_some,er,Option.bind_some]
 have e1:(0:Int)≤(s:Int):=by omega
 simp only[e1,h3,List.length_replicate,decide_true,if_true,Int.toNat_natCast,Nat.zero_add]
 obtain⟨c1,c2⟩:=startL hn hs
 exact perI_outer hM hs (K:=M.length+1) (by omega) M.length (M.length+1) _ [s] 0 c1 (by omega) (by omega) (by omega)
def P.l_FnExactPeriodOf (k:Nat) (x:List (List ByteArray)×Int×Unit):Option (Bool×Unit):=
 (S.l_szChain (x.1,(1000000:Int),())).bind fun y0=>if decide (y0.1<(0:Int))then some (true,())else(S.l_toChain (x.1,false,())).bind fun y1=>(S.s_PeriodOf (List.map (fun(y2:List ByteArray×Nat)=>List.map (fun(y3:ByteArray)=>y3) (List.take y2.2 y2.1)) (List.take y1.1.2 y1.1.1),x.2.1,())).bind fun y4=>(S.l_toChain (x.1,false,())).bind fun y5=>(S.i_PeriodOf (List.map (fun(y6:List ByteArray×Nat)=>List.map (fun(y7:ByteArray)=>y7) (List.take y6.2 y6.1)) (List.take y5.1.2 y5.1.1),x.2.1,())).bind fun y8=>if y8.1.1 != y4.1.1 then some (false,())else if ! (y8.1.2==y4.1.2)then some (false,())else(S.l_toChain (x.1,false,())).bind fun y9=>(S.l_intactChain ((y5.1.1,y5.1.2),(y9.1.1,y9.1.2),())).bind fun y10=>if !y10.1 then some (false,())else(S.l_toChain (x.1,true,())).bind fun y11=>(S.i_PeriodOf (List.map (fun(y12:List ByteArray×Nat)=>List.map (fun(y13:ByteArray)=>y13) (List.take y12.2 y12.1)) (List.take y11.1.2 y11.1.1),x.2.1,())).bind fun y14=>if y14.1.1 != y4.1.1 then some (false,())else if ! (y14.1.2==y4.1.2)then some (false,())else some (true,())
def S.l_FnExactPeriodOf (x:((List (List ByteArray))×(Int×Unit))):(Option (Bool×Unit)):=P.l_FnExactPeriodOf 0 x
theorem S.l_FnExactPeriodOf_ok (x:((List (List ByteArray))×(Int×Unit))) (r:_) (h:S.l_FnExactPeriodOf x=some r):∃k,P.l_FnExactPeriodOf k x=some r:=⟨0,h⟩
end Go.Cm
end
