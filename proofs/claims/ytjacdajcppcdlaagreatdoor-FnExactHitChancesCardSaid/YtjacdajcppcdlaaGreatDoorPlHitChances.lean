import Derived.Test.YtjacdajcppcdlaaGreatDoorPlHitChancesd
set_option linter.unusedVariables false
set_option maxRecDepth 100000
noncomputable section
namespace Go.Cm
open IntKind (wrap)
abbrev P.slices_IndexFunc__i_rat_i_rat_b0 (x1:Int×Int×Unit×List RB×Unit) (g2:Int×Int×Unit×List RB×Unit->Option (Int×Unit)):Option (Int×Unit):=
 if decide (x1.1<x1.2.1)then if decide (0<=x1.1)then if decide (x1.1<(x1.2.2.2.1.length:Int))then(S.i_isMinus (((x1.2.2.2.1.getD x1.1.toNat (false,[],[])).1,(x1.2.2.2.1.getD x1.1.toNat (false,[],[])).2.1,(x1.2.2.2.1.getD x1.1.toNat (false,[],[])).2.2),())).bind fun y3=>if y3.1 then some (x1.1,())else g2 (wrap .i64 (x1.1+1),x1.2.1,(),x1.2.2.2.1,())else none else none else some ((-1:Int),())
def P.slices_IndexFunc__i_rat_i_rat (k:Nat) (x:List RB×Unit×Unit):Option (Int×Unit):=
 loopP P.slices_IndexFunc__i_rat_i_rat_b0 k (0,(x.1.length:Int),(),x.1,())
open Classical in
def S.slices_IndexFunc__i_rat_i_rat (x:((List RB)×(Unit×Unit))):(Option (Int×Unit)):=if goodL B32 x.1 then some (ixM x.1,())else none
theorem S.slices_IndexFunc__i_rat_i_rat_ok (x r) (h:S.slices_IndexFunc__i_rat_i_rat x=some r):∃k,P.slices_IndexFunc__i_rat_i_rat k x=some r:=by
 obtain⟨xs,u,u'⟩:=x;unfold S.slices_IndexFunc__i_rat_i_rat at h;dsimp only at h;split at h
 case isFalse=>cases h
 rename_i hc;obtain⟨qs,n,rfl,hg⟩:=hc;cases h;have hlen:=good_len hg;refine⟨qs.length+1,?_⟩;unfold P.slices_IndexFunc__i_rat_i_rat;dsimp only;have hm:∀i (hi:i<qs.length),S.i_isMinus (rp B32 qs[i],())=some (qs[i].1,()):=by
  intro i hi;unfold S.i_isMinus;dsimp only;rw[if_pos (good_get (by decide) hg hi)];rfl
 have key:=loop_up0 (k:=qs.length+1) (b:=P.slices_IndexFunc__i_rat_i_rat_b0) (n:=qs.length) (st:=fun i=>((i:Int),(qs.length:Int),(),qs.map (rp B32),())) (F:=fun i=>some (if ixM ((qs.drop i).map (rp B32))<0 then -1 else ixM ((qs.drop i).map (rp B32))+i,())) (fun i g hi hg'=>by
  unfold P.slices_IndexFunc__i_rat_i_rat_b0;dsimp only at hg' ⊢;have e1:(i:Int)<(qs.length:Int):=by omega
  have e2:(0:Int)<=(i:Int):=by omega
  have e3:(i:Int)<((qs.map (rp B32)).length:Int):=by rw[List.length_map];omega
  rw[if_pos (decide_eq_true e1),if_pos (decide_eq_true e2),if_pos (decide_eq_true e3),getD_cast (qs.map (rp B32)) i _ (by rw[List.length_map];exact hi),List.getElem_map];show Option.bind (S.i_isMinus (rp B32 qs[i],())) _=_;rw[hm i hi,Option.bind_some,List.drop_eq_getElem_cons hi,List.map_cons,ixM_cons];dsimp only;rw[show(rp B32 qs[i]).1=qs[i].1 from rfl];cases hf:qs[i].1
  ·simp only[Bool.false_eq_true,if_false];rw[wr (by omega) (by omega)];refine hg'.trans ?_;congr 2;split
   ·rfl
   ·rw[if_neg (by omega)];omega
  ·simp) (fun g=>by
  unfold P.slices_IndexFunc__i_rat_i_rat_b0;dsimp only;rw[if_neg (by simp),List.drop_length];rfl) (by omega)
 rw[List.length_map];refine key.trans ?_;rw[List.drop_zero];congr 2;have hr: -1<=ixM (qs.map (rp B32)):=by
  generalize qs.map (rp B32)=zs
  induction zs with
  |nil=>decide
  |cons z zs ih=>
   rw[ixM_cons];split
   ·omega
   ·split<;>omega
 split<;>omega
def P.slices_ContainsFunc__i_rat_i_rat (k:Nat) (x:List RB×Unit×Unit):Option (Bool×Unit):=
 (S.slices_IndexFunc__i_rat_i_rat (x.1,(),())).bind fun y0=>some (decide (y0.1>=0),())
open Classical in
def S.slices_ContainsFunc__i_rat_i_rat (x:((List RB)×(Unit×Unit))):(Option (Bool×Unit)):=if goodL B32 x.1 then some (x.1.any fun r=>r.1,())else none
theorem S.slices_ContainsFunc__i_rat_i_rat_ok (x r) (h:S.slices_ContainsFunc__i_rat_i_rat x=some r):∃k,P.slices_ContainsFunc__i_rat_i_rat k x=some r:=by
 obtain⟨xs,u,u'⟩:=x;unfold S.slices_ContainsFunc__i_rat_i_rat at h;dsimp only at h;split at h
 case isFalse=>cases h
 rename_i hc;cases h;refine⟨0,?_⟩;unfold P.slices_ContainsFunc__i_rat_i_rat S.slices_IndexFunc__i_rat_i_rat;dsimp only;rw[if_pos hc,Option.bind_some,<-ixM_any]
abbrev P.i_summ_b1 (x2:Int×Int×List RB×RB×RB×Unit) (g3:Int×Int×List RB×RB×RB×Unit->Option (RB×List RB×Unit)):Option (RB×List RB×Unit):=
 (fun(a b:Int) (c:List RB) (d e:RB)=>if decide (a<b)then if decide (0<=a)then if decide (a<(c.length:Int))then(S.i_rat_add ((d.1,d.2.1,d.2.2),((c.getD (0+a.toNat) (false,[],[])).1,(c.getD (0+a.toNat) (false,[],[])).2.1,(c.getD (0+a.toNat) (false,[],[])).2.2),())).bind fun y4=>g3 (wrap .i64 (a+1),b,c,(y4.1.1,y4.1.2.1,y4.1.2.2),(e.1,e.2.1,e.2.2),())else none else none else some ((d.1,d.2.1,d.2.2),c,())) x2.1 x2.2.1 x2.2.2.1 x2.2.2.2.1 x2.2.2.2.2.1
def P.i_summ (k:Nat) (x:List RB×Unit):Option (RB×List RB×Unit):=
 (S.i_whole (0,())).bind fun y0=>loopP P.i_summ_b1 k (0,(x.1.length:Int),x.1,(y0.1.1,y0.1.2.1,y0.1.2.2),(false,[],[]),())
open Classical in
def S.i_summ (x:((List RB)×Unit)):(Option (RB×((List RB)×Unit))):=if goodS B32 x.1 then some (rp B32 (sumQ (x.1.map (rv B32))),(x.1,()))else none
theorem i_summ_add (a b:Q3) (ha:lowb B32 40000000 (rp B32 a)=true) (hb:lowb B32 40000000 (rp B32 b)=true):S.i_rat_add (rp B32 a,(rp B32 b,()))=some (rp B32 (addQ a b),()):=by
 unfold S.i_rat_add;dsimp only;rw[if_pos ⟨ha,hb⟩,rv_rp B32_le,rv_rp B32_le]
theorem S.i_summ_ok (x r) (h:S.i_summ x=some r):∃k,P.i_summ k x=some r:=by
 obtain⟨xs,u⟩:=x;unfold S.i_summ at h;dsimp only at h;split at h
 case isFalse=>cases h
 rename_i hc;obtain⟨qs,rfl,hlen,hq,hg⟩:=hc;cases h;refine⟨qs.length+1,?_⟩;unfold P.i_summ;have hz:S.i_whole (0,())=some (rp B32 zeroQ,()):=by rfl
 dsimp only;rw[hz,Option.bind_some,map_rv B32_le,List.length_map];have key:=loop_up0 (k:=qs.length+1) (b:=P.i_summ_b1) (n:=qs.length) (st:=fun i=>((i:Int),(qs.length:Int),qs.map (rp B32),rp B32 (sumQ (qs.take i)),(false,(([]:List Int),([]:List Int))),())) (F:=fun i=>some (rp B32 (sumQ qs),(qs.map (rp B32),()))) (fun i g hi hg'=>by
  unfold P.i_summ_b1;dsimp only at hg' ⊢;have e1:(i:Int)<(qs.length:Int):=by omega
  have e2:(0:Int)<=(i:Int):=by omega
  have e3:(i:Int)<((qs.map (rp B32)).length:Int):=by rw[List.length_map];omega
  rw[if_pos (decide_eq_true e1),if_pos (decide_eq_true e2),if_pos (decide_eq_true e3),Nat.zero_add,getD_cast (qs.map (rp B32)) i _ (by rw[List.length_map];exact hi),List.getElem_map];have ea:=i_summ_add (sumQ (qs.take i)) qs[i] (lowb_rp9 (by decide) (hg i).1 (hg i).2 (by decide)) (lowb_rp9 (by decide) (hq _ (List.getElem_mem hi)).1 (hq _ (List.getElem_mem hi)).2 (by decide));rw[sumQ_take hi]at ea;show Option.bind (S.i_rat_add (rp B32 (sumQ (qs.take i)),(rp B32 qs[i],()))) _=_;rw[ea,Option.bind_some,wr (by omega) (by omega)];exact hg') (fun g=>by
  unfold P.i_summ_b1;dsimp only;rw[if_neg (by simp),List.take_length]) (by omega)
 exact key
def P.i_weightsOf (k:Nat) (x:List ByteArray×Unit):Option ((List RB×Bool)×Unit):=
 (S.i_rats (x.1,())).bind fun y0=>if !y0.1.2 then some (([],false),())else(S.slices_ContainsFunc__i_rat_i_rat (y0.1.1,(),())).bind fun y1=>if y1.1 then some (([],false),())else(S.i_sum (y0.1.1,())).bind fun y2=>(S.i_rat_isOne ((y2.1.1,y2.1.2.1,y2.1.2.2),())).bind fun y3=>if !y3.1 then some (([],false),())else some ((y0.1.1,true),())
def S.i_weightsOf (x:((List ByteArray)×Unit)):(Option (((List RB)×Bool)×Unit)):=if okT x.1=true then some (((wtAll x.1).1.map (rp B32),(wtAll x.1).2),())else none
theorem S.i_weightsOf_ok (x r) (h:S.i_weightsOf x=some r):∃k,P.i_weightsOf k x=some r:=by
 obtain⟨ls,u⟩:=x;unfold S.i_weightsOf at h;dsimp only at h;split at h
 case isFalse=>cases h
 rename_i hc;cases h;refine⟨0,?_⟩;unfold P.i_weightsOf S.i_rats;dsimp only;rw[if_pos hc,Option.bind_some];dsimp only;unfold wtAll;have hg:=rdAll_good (ls:=ls);have hL:=rdAll_goodL (B:=B32) (ls:=ls);cases hf:(rdAll ls).2
 ·rfl
 have hg':=hg hf;have hL':=hL hf;rw[if_neg (by decide)];have ea:S.slices_ContainsFunc__i_rat_i_rat ((rdAll ls).1.map (rp B32),(),())=some ((rdAll ls).1.any fun r=>r.1,()):=by
  unfold S.slices_ContainsFunc__i_rat_i_rat;dsimp only;rw[if_pos hL',any_rp]
 have es:S.i_sum ((rdAll ls).1.map (rp B32),())=some (rp B32 (sumQ (rdAll ls).1),()):=by
  unfold S.i_sum;dsimp only;rw[if_pos (goodL_S hL'),map_rv B32_le]
 have eo:S.i_rat_isOne (rp B32 (sumQ (rdAll ls).1),())=some (isOneQ (sumQ (rdAll ls).1),()):=by
  unfold S.i_rat_isOne;dsimp only;rw[rv_rp B32_le,if_pos ⟨good_rok (by decide) hg',low_qok (good_sum hg').1⟩]
 rw[ea,Option.bind_some];dsimp only;unfold isW;cases hm:((rdAll ls).1.any fun r=>r.1)
 ·rw[if_neg (by decide),es,Option.bind_some];show Option.bind (S.i_rat_isOne (rp B32 (sumQ (rdAll ls).1),())) _=_;rw[eo,Option.bind_some];cases ho:isOneQ (sumQ (rdAll ls).1)
  ·rfl
  ·simp [hf]
 ·rfl
abbrev i_chainOf.A:=Int×Int×List (List ByteArray)×List (List ByteArray)×List (List RB)×Unit
abbrev i_chainOf.B:=Option ((List (List RB)×Bool)×Unit)
abbrev P.i_chainOf_b0 (x1:i_chainOf.A) (g2:i_chainOf.A->i_chainOf.B):i_chainOf.B:=
 if decide (x1.1<x1.2.1)then if decide (0<=x1.1)then if decide (x1.1<(x1.2.2.1.length:Int))then(S.i_weightsOf (x1.2.2.1.getD x1.1.toNat [],())).bind fun y3=>if !y3.1.2 then some (([],false),())else if(y3.1.1.length:Int) != (x1.2.2.2.1.length:Int)then some (([],false),())else if decide (((x1.2.2.2.2.1.length+(List.length [y3.1.1]))*24)<=140737488355328)then g2 (wrap .i64 (x1.1+1),x1.2.1,x1.2.2.1,x1.2.2.2.1,x1.2.2.2.2.1++[y3.1.1],())else none else none else none else some ((x1.2.2.2.2.1,true),())
def P.i_chainOf (k:Nat) (x:List (List ByteArray)×Unit):i_chainOf.B:=
 if decide ((x.1.length:Int)<1)then some (([],false),())else if decide ((x.1.length:Int)>12)then some (([],false),())else loopP P.i_chainOf_b0 k (0,(x.1.length:Int),x.1,x.1,[],())
def S.i_chainOf (x:((List (List ByteArray))×Unit)):(Option (((List (List RB))×Bool)×Unit)):=if x.1.all okT=true then some (((chQ x.1).1.map (fun r=>r.map (rp B32)),(chQ x.1).2),())else none
theorem S.i_chainOf_ok (x r) (h:S.i_chainOf x=some r):∃k,P.i_chainOf k x=some r:=by
 obtain⟨rows,u⟩:=x;unfold S.i_chainOf at h;dsimp only at h;split at h
 case isFalse=>cases h
 rename_i hc;cases h;refine⟨rows.length+1,?_⟩;unfold P.i_chainOf chQ;dsimp only
 by_cases h1:1<=rows.length
 case neg=>
  rw[if_pos (decide_eq_true (show(rows.length:Int)<1 by omega)),decide_eq_false h1];rfl
 rw[if_neg (by simpa using(show ¬(rows.length:Int)<1 by omega)),decide_eq_true h1]
 by_cases h2:rows.length<=12
 case neg=>
  rw[if_pos (decide_eq_true (show(rows.length:Int)>12 by omega)),decide_eq_false h2];rfl
 rw[if_neg (by simpa using(show ¬(rows.length:Int)>12 by omega)),decide_eq_true h2];simp only[Bool.true_and];have key:=loop_up0 (k:=rows.length+1) (b:=P.i_chainOf_b0) (n:=rows.length) (st:=fun i=>((i:Int),(rows.length:Int),rows,rows,(rows.take i).map (fun r=>(rdAll r).1.map (rp B32)),())) (F:=fun i=>some (if((rows.drop i).all fun r=>decide (r.length=rows.length)&&(wtAll r).2)=true then(rows.map (fun r=>(rdAll r).1.map (rp B32)),true)else([],false),())) (fun i g hi hg'=>by
  have e1:(i:Int)<(rows.length:Int):=by omega
  have e2:(0:Int)<=(i:Int):=by omega
  have hr:okT rows[i]=true:=List.all_eq_true.1 hc _ (List.getElem_mem hi);have e4:(((rows.take i).map (fun r=>(rdAll r).1.map (rp B32))).length+1)*24<=140737488355328:=by
   rw[List.length_map,List.length_take];omega
  unfold P.i_chainOf_b0;dsimp only at hg' ⊢;simp only[e1,e2,decide_true,if_true];rw[getD_cast rows i _ hi,List.drop_eq_getElem_cons hi,List.all_cons];have ew:S.i_weightsOf (rows[i],())=some (((wtAll rows[i]).1.map (rp B32),(wtAll rows[i]).2),()):=by
   unfold S.i_weightsOf;exact if_pos hr
  rw[ew,Option.bind_some];dsimp only;cases hw:(wtAll rows[i]).2
  ·rw[if_pos (by decide),Bool.and_false,Bool.false_and,if_neg (by decide)]
  obtain⟨w1,w2,w3⟩:=wtAll_ok hw;have w4:=(rdAll_ok w1).1;rw[if_neg (by decide),w3,List.length_map,w4,Bool.and_true]
  by_cases hl:rows[i].length=rows.length
  case neg=>
   rw[if_pos (by simp;omega),decide_eq_false hl,Bool.false_and,if_neg (by decide)]
  rw[if_neg (by simp;omega),decide_eq_true hl,Bool.true_and];simp only[List.length_cons,List.length_nil,Nat.zero_add];rw[if_pos (decide_eq_true e4),wr (by omega) (by omega),<-hg',List.take_add_one,List.getElem?_eq_getElem hi,Option.toList_some,List.map_append];rfl) (fun g=>by
  unfold P.i_chainOf_b0;dsimp only;rw[if_neg (by simp),List.take_length,List.drop_length];rfl) (by omega)
 rw[List.drop_zero]at key;refine Eq.trans key ?_
 by_cases ha:(rows.all fun r=>decide (r.length=rows.length)&&(wtAll r).2)=true
 ·rw[if_pos ha,if_pos ha,List.map_map];rfl
 ·rw[if_neg ha,if_neg ha];rfl
def P.i_in (k:Nat) (x:Int×Int×Int×Unit):Option (Bool×Unit):=
 if decide (x.1>=x.2.1)then some (decide (x.1<=x.2.2.1),())else some (false,())
def S.i_in (x:(Int×(Int×(Int×Unit)))):(Option (Bool×Unit)):=P.i_in 0 x
theorem S.i_in_ok (x r) (h:S.i_in x=some r):∃k,P.i_in k x=some r:=⟨0,h⟩
def P.i_isState (k:Nat) (x:List (List RB)×Int×Unit):Option (Bool×Unit):=
 (S.i_in (x.2.1,0,wrap .i64 ((x.1.length:Int) - 1),())).bind fun y0=>some (y0.1,())
def S.i_isState (x:((List (List RB))×(Int×Unit))):(Option (Bool×Unit)):=P.i_isState 0 x
theorem S.i_isState_ok (x r) (h:S.i_isState x=some r):∃k,P.i_isState k x=some r:=⟨0,h⟩
abbrev i_targetsOf.A:=Int×Int×List Int×List (List RB)×List Int×List Bool×Unit
abbrev P.i_targetsOf_b0 (x1:i_targetsOf.A) (g2:i_targetsOf.A->Option ((List Bool×Bool)×Unit)):Option ((List Bool×Bool)×Unit):=
 (fun(a b:Int) (c e:List Int) (d:List (List RB)) (f:List Bool)=>if decide (a<b)then if decide (0<=a)then if decide (a<(c.length:Int))then(S.i_isState (d,c.getD a.toNat 0,())).bind fun y3=>if !y3.1 then some (([],false),())else if decide (a>0)then if decide (0<=(wrap .i64 (a - 1)))then if decide ((wrap .i64 (a - 1))<(e.length:Int))then if decide ((e.getD (Int.toNat (wrap .i64 (a - 1))) 0)>=(c.getD a.toNat 0))then some (([],false),())else if decide (0<=(c.getD a.toNat 0))then if decide ((c.getD a.toNat 0)<(f.length:Int))then g2 (wrap .i64 (a+1),b,c,d,e,f.set (0+(Int.toNat (c.getD a.toNat 0))) true,())else none else none else none else none else if decide (0<=(c.getD a.toNat 0))then if decide ((c.getD a.toNat 0)<(f.length:Int))then g2 (wrap .i64 (a+1),b,c,d,e,f.set (0+(Int.toNat (c.getD a.toNat 0))) true,())else none else none else none else none else some ((f,decide ((e.length:Int)>0)),())) x1.1 x1.2.1 x1.2.2.1 x1.2.2.2.2.1 x1.2.2.2.1 x1.2.2.2.2.2.1
def P.i_targetsOf (k:Nat) (x:List (List RB)×List Int×Unit):Option ((List Bool×Bool)×Unit):=
 if decide (0<=(x.1.length:Int))then if decide ((x.1.length:Int)<=(x.1.length:Int))then if decide (((x.1.length:Int)*1)<=281474976710656)then loopP P.i_targetsOf_b0 k (0,(x.2.1.length:Int),x.2.1,x.1,x.2.1,List.replicate (Int.toNat (x.1.length:Int)) false,())else none else none else none
def S.i_targetsOf (x:((List (List RB))×((List Int)×Unit))):(Option (((List Bool)×Bool)×Unit)):=if 1<=x.1.length/\x.1.length<=12/\x.2.1.length<=1000000000000000 then some ((if risB x.2.1 0 ((x.1.length:Int) - 1)=true then(tab x.1.length (tgF x.2.1),decide ((x.2.1.length:Int)>0))else([],false)),())else none
theorem S.i_targetsOf_ok (x r) (h:S.i_targetsOf x=some r):∃k,P.i_targetsOf k x=some r:=by
 obtain⟨m,ts,u⟩:=x;unfold S.i_targetsOf at h;dsimp only at h;split at h
 case isFalse=>cases h
 rename_i hc;obtain⟨hm0,hm,hc⟩:=hc;cases h;refine⟨ts.length+1,?_⟩;unfold P.i_targetsOf risB;dsimp only;have a1:(0:Int)<=(m.length:Int):=by omega
 have a2:(m.length:Int)*1<=281474976710656:=by omega
 rw[if_pos (decide_eq_true a1),if_pos (by simp),if_pos (decide_eq_true a2),Int.toNat_natCast];have key:=loop_up0 (k:=ts.length+1) (b:=P.i_targetsOf_b0) (n:=ts.length) (st:=fun i=>((i:Int),(ts.length:Int),ts,m,ts,tab m.length (tgF (ts.take i)),())) (F:=fun i=>some ((if((List.range ts.length).drop i).all (rs1 ts 0 ((m.length:Int) - 1))=true then(tab m.length (tgF ts),decide ((ts.length:Int)>0))else([],false)),())) (fun i g hi' hg=>by
  unfold P.i_targetsOf_b0;dsimp only at hg ⊢;have e1:(i:Int)<(ts.length:Int):=by omega
  have e2:(0:Int)<=(i:Int):=by omega
  rw[all_drop _ hi'];unfold rs1 at hg ⊢;unfold S.i_isState P.i_isState S.i_in P.i_in;dsimp only;simp only[Int.toNat_natCast,tab_len,e1,e2,decide_true,if_true];rw[wr (x:=(m.length:Int) - 1) (by omega) (by omega)];have ht:ts.getD i 0=ts[i]:=by rw[List.getD_eq_getElem?_getD,List.getElem?_eq_getElem hi'];rfl
  by_cases h1:0<=ts.getD i 0
  case neg=>
   rw[if_neg (by simpa using h1),Option.bind_some,Option.bind_some,decide_eq_false h1];rfl
  rw[if_pos (by simpa using h1),Option.bind_some,Option.bind_some,decide_eq_true h1,Bool.true_and]
  by_cases h2:ts.getD i 0<=(m.length:Int) - 1
  case neg=>
   rw[decide_eq_false h2];rfl
  have hset:(tab m.length (tgF (ts.take i))).set (ts.getD i 0).toNat true=tab m.length (tgF (ts.take (i+1))):=by
   rw[tab_set];apply tab_congr;intro j hj;unfold tgF;rw[<-List.take_append_getElem hi',<-ht]
   by_cases q:j=(ts.getD i 0).toNat
   ·rw[if_pos q];have:(j:Int)=ts.getD i 0:=by omega
    rw[this];simp
   ·rw[if_neg q,decide_eq_decide,List.mem_append,List.mem_singleton];constructor
    ·exact Or.inl
    ·rintro (z|z)
     ·exact z
     ·exact absurd (by omega) q
  have e7:ts.getD i 0<(m.length:Int):=by omega
  rw[decide_eq_true h2,if_neg (by decide),Bool.true_and]
  by_cases h0:i=0
  ·rw[if_neg (by simp [h0]),decide_eq_true h0,wr (by omega) (by omega),if_pos (decide_eq_true e7),Nat.zero_add,hset];simp only[Bool.true_or,Bool.true_and];exact hg
  ·have e3:(i:Int)>0:=by omega
   have e4:(0:Int)<=(i:Int) - 1:=by omega
   have e5:(i:Int) - 1<(ts.length:Int):=by omega
   have e6:((i:Int) - 1).toNat=i - 1:=by omega
   rw[if_pos (decide_eq_true e3),wr (x:=(i:Int) - 1) (by omega) (by omega),if_pos (decide_eq_true e4),if_pos (decide_eq_true e5),e6,decide_eq_false h0,Bool.false_or,wr (x:=(i:Int)+1) (by omega) (by omega)]
   by_cases h3:ts.getD (i - 1) 0<ts.getD i 0
   ·rw[if_neg (by simpa using h3),decide_eq_true h3,Bool.true_and,if_pos (decide_eq_true e7),Nat.zero_add,hset];exact hg
   ·rw[if_pos (by simpa using h3),decide_eq_false h3];rfl) (fun g=>by
  unfold P.i_targetsOf_b0;dsimp only;rw[if_neg (by simp),List.drop_eq_nil_of_le (by simp),List.take_length];rfl) (by omega)
 rw[List.drop_zero]at key;refine Eq.trans ?_ key;rw[tab_rep];have:(tab m.length fun _=>false)=tab m.length (tgF (ts.take 0)):=tab_congr fun j hj=>by
  unfold tgF;simp
 rw[this];rfl
def P.i_chainAndTargets (k:Nat) (x:List (List ByteArray)×List Int×Unit):Option ((List (List RB)×List Bool×Bool)×Unit):=
 (S.i_chainOf (x.1,())).bind fun y0=>if !y0.1.2 then some (([],[],false),())else(S.i_targetsOf (y0.1.1,x.2.1,())).bind fun y1=>some ((y0.1.1,y1.1.1,y1.1.2),())
def S.i_chainAndTargets (x:((List (List ByteArray))×((List Int)×Unit))):(Option (((List (List RB))×((List Bool)×Bool))×Unit)):=P.i_chainAndTargets 0 x
theorem S.i_chainAndTargets_ok (x r) (h:S.i_chainAndTargets x=some r):∃k,P.i_chainAndTargets k x=some r:=⟨0,h⟩
def P.i_HitChances (k:Nat) (x:List (List ByteArray)×List Int×Unit):Option ((List ByteArray×Bool)×Unit):=
 (S.i_chainAndTargets (x.1,x.2.1,())).bind fun y0=>if !y0.1.2.2 then some (([],false),())else(S.i_hits (y0.1.1,y0.1.2.1,())).bind fun y1=>(S.i_toldList (y1.1,())).bind fun y2=>some ((y2.1.1,y2.1.2),())
def S.i_HitChances (x:((List (List ByteArray))×((List Int)×Unit))):(Option (((List ByteArray)×Bool)×Unit)):=P.i_HitChances 0 x
theorem S.i_HitChances_ok (x r) (h:S.i_HitChances x=some r):∃k,P.i_HitChances k x=some r:=⟨0,h⟩
def P.l_FnExactHitChances (k:Nat) (x:List (List ByteArray)×List Int×Unit):Option (Bool×Unit):=
 (S.l_szChain (x.1,wrap .i64 (1000000 - (x.2.1.length:Int)),())).bind fun y0=>if decide (y0.1<0)then some (true,())else(S.l_toChaino (x.1,false,())).bind fun y1=>(S.l_toInt64So (x.2.1,false,())).bind fun y2=>(S.s_HitChances (List.map (fun(y3:List ByteArray×Nat)=>List.map (fun(y4:ByteArray)=>y4) (List.take y3.2 y3.1)) (seen (nrm (hd0 y1.1.1) (in0 y1.1.1)) 0 y1.1.2),seen y2.1.1 0 y2.1.2,())).bind fun y5=>(S.l_toChaino (x.1,false,())).bind fun y6=>(S.l_toInt64So (x.2.1,false,())).bind fun y7=>(S.i_HitChances (List.map (fun(y8:List ByteArray×Nat)=>List.map (fun(y9:ByteArray)=>y9) (List.take y8.2 y8.1)) (seen (nrm (hd0 y6.1.1) (in0 y6.1.1)) 0 y6.1.2),seen y7.1.1 0 y7.1.2,())).bind fun y10=>(S.l_eqStringS (y10.1.1,y5.1.1,())).bind fun y11=>if !y11.1 then some (false,())else if ! (y10.1.2==y5.1.2)then some (false,())else(S.l_toChaino (x.1,false,())).bind fun y12=>(S.l_intactChain ((List.drop 0 (nrm (hd0 y6.1.1) (in0 y6.1.1)),y6.1.2),(List.drop 0 (nrm (hd0 y12.1.1) (in0 y12.1.1)),y12.1.2),())).bind fun y13=>if !y13.1 then some (false,())else(S.l_toInt64So (x.2.1,false,())).bind fun y14=>(S.l_intactInt64S ((List.drop 0 y7.1.1,y7.1.2),(List.drop 0 y14.1.1,y14.1.2),())).bind fun y15=>if !y15.1 then some (false,())else if dup (List.map (fun(y16:Nat×Nat)=>y16.1) (seen (hd0 y6.1.1) 0 y6.1.2))then none else(fun(e0:Option (Bool×Unit))=>if decide (y6.1.2=(List.length (hd0 y6.1.1)))then e0 else e0) ((S.l_markChain (nrm (seen (hd0 y6.1.1) 0 y6.1.2) (in0 y6.1.1),101,())).bind fun y17=>(S.l_markInt64S (seen y7.1.1 0 y7.1.2,y17.1,())).bind fun y18=>if decide (y18.1<0)then some (false,())else(S.l_eqStringS (y10.1.1,y5.1.1,())).bind fun y19=>if !y19.1 then some (false,())else if ! (y10.1.2==y5.1.2)then some (false,())else(S.l_markStringS (y10.1.1,101,())).bind fun y20=>(S.l_heldStringS (splice y10.1.1 y20.2.1 0,101,())).bind fun y21=>if decide (y21.1<0)then some (false,())else if y21.1 != y20.1 then some (false,())else(S.l_toChaino (x.1,true,())).bind fun y22=>(S.l_toInt64So (x.2.1,true,())).bind fun y23=>(S.i_HitChances (List.map (fun(y24:List ByteArray×Nat)=>List.map (fun(y25:ByteArray)=>y25) (List.take y24.2 y24.1)) (seen (nrm (hd0 y22.1.1) (in0 y22.1.1)) 0 y22.1.2),seen y23.1.1 0 y23.1.2,())).bind fun y26=>(S.l_eqStringS (y26.1.1,y5.1.1,())).bind fun y27=>if !y27.1 then some (false,())else if ! (y26.1.2==y5.1.2)then some (false,())else(S.l_heldStringS (splice y10.1.1 y20.2.1 0,101,())).bind fun y28=>if decide (y28.1<0)then some (false,())else if y28.1 != y20.1 then some (false,())else some (true,()))
def S.l_FnExactHitChances (x:((List (List ByteArray))×((List Int)×Unit))):(Option (Bool×Unit)):=P.l_FnExactHitChances 0 x
theorem S.l_FnExactHitChances_ok (x r) (h:S.l_FnExactHitChances x=some r):∃k,P.l_FnExactHitChances k x=some r:=⟨0,h⟩
end Go.Cm
end
