import Derived.Test.YtjacdajcppcdlaaGreatDoorPlHitTimesd
set_option linter.unusedVariables false
set_option maxRecDepth 100000
noncomputable section
namespace Go.Cm
open IntKind (wrap)
abbrev P.a1v (x1:Int×Int×Unit×List RB×Unit) (g2:Int×Int×Unit×List RB×Unit->Option (Int×Unit)):Option (Int×Unit):=
 if decide (x1.1<x1.2.1)then if decide (0<=x1.1)then if decide (x1.1<(x1.2.2.2.1.length:Int))then(S.i_isMinus (((x1.2.2.2.1.getD x1.1.toNat (false,[],[])).1,(x1.2.2.2.1.getD x1.1.toNat (false,[],[])).2.1,(x1.2.2.2.1.getD x1.1.toNat (false,[],[])).2.2),())).bind fun y3=>if y3.1 then some (x1.1,())else g2 (wrap .i64 (x1.1+1),x1.2.1,(),x1.2.2.2.1,())else none else none else some ((-1:Int),())
def P.a3a (k:Nat) (x:List RB×Unit×Unit):Option (Int×Unit):=
 loopP P.a1v k (0,(x.1.length:Int),(),x.1,())
open Classical in
def S.a1r (x:((List RB)×(Unit×Unit))):(Option (Int×Unit)):=if goodL B32 x.1 then some (ixM x.1,())else none
theorem S.slices_IndexFunc__i_rat_i_rat_ok (x r) (h:S.a1r x=some r):∃k,P.a3a k x=some r:=by
 obtain⟨xs,u,u'⟩:=x;unfold S.a1r at h;dsimp only at h;split at h
 case isFalse=>cases h
 rename_i hc;obtain⟨qs,n,rfl,hg⟩:=hc;cases h;have hlen:=good_len hg;refine⟨qs.length+1,?_⟩;unfold P.a3a;dsimp only;have hm:∀i (hi:i<qs.length),S.i_isMinus (rp B32 qs[i],())=some (qs[i].1,()):=by
  intro i hi;unfold S.i_isMinus;dsimp only;rw[if_pos (good_get (by decide) hg hi)];rfl
 have key:=a0g (k:=qs.length+1) (b:=P.a1v) (n:=qs.length) (st:=fun i=>((i:Int),(qs.length:Int),(),qs.map (rp B32),())) (F:=fun i=>some (if ixM ((qs.drop i).map (rp B32))<0 then -1 else ixM ((qs.drop i).map (rp B32))+i,())) (fun i g hi hg'=>by
  unfold P.a1v;dsimp only at hg' ⊢;have e1:(i:Int)<(qs.length:Int):=by omega
  have e2:(0:Int)<=(i:Int):=by omega
  have e3:(i:Int)<((qs.map (rp B32)).length:Int):=by rw[List.length_map];omega
  rw[if_pos (decide_eq_true e1),if_pos (decide_eq_true e2),if_pos (decide_eq_true e3),a0n (qs.map (rp B32)) i _ (by rw[List.length_map];exact hi),List.getElem_map];show Option.bind (S.i_isMinus (rp B32 qs[i],())) _=_;rw[hm i hi,Option.bind_some,List.drop_eq_getElem_cons hi,List.map_cons,ixM_cons];dsimp only;rw[show(rp B32 qs[i]).1=qs[i].1 from rfl];cases hf:qs[i].1
  ·simp only[Bool.false_eq_true,if_false];rw[wr (by omega) (by omega)];refine hg'.trans ?_;congr 2;split
   ·rfl
   ·rw[if_neg (by omega)];omega
  ·simp) (fun g=>by
  unfold P.a1v;dsimp only;rw[if_neg (by simp),List.drop_length];rfl) (by omega)
 rw[List.length_map];refine key.trans ?_;rw[List.drop_zero];congr 2;have hr: -1<=ixM (qs.map (rp B32)):=by
  generalize qs.map (rp B32)=zs
  induction zs with
  |nil=>decide
  |cons z zs ih=>
   rw[ixM_cons];split
   ·omega
   ·split<;>omega
 split<;>omega
def P.a2k (k:Nat) (x:List RB×Unit×Unit):Option (Bool×Unit):=
 (S.a1r (x.1,(),())).bind fun y0=>some (decide (y0.1>=0),())
open Classical in
def S.a0t (x:((List RB)×(Unit×Unit))):(Option (Bool×Unit)):=if goodL B32 x.1 then some (x.1.any fun r=>r.1,())else none
theorem S.slices_ContainsFunc__i_rat_i_rat_ok (x r) (h:S.a0t x=some r):∃k,P.a2k k x=some r:=by
 obtain⟨xs,u,u'⟩:=x;unfold S.a0t at h;dsimp only at h;split at h
 case isFalse=>cases h
 rename_i hc;cases h;refine⟨0,?_⟩;unfold P.a2k S.a1r;dsimp only;rw[if_pos hc,Option.bind_some,<-ixM_any]
abbrev P.i_summ_b1 (x2:Int×Int×List RB×RB×RB×Unit) (g3:Int×Int×List RB×RB×RB×Unit->Option (RB×List RB×Unit)):Option (RB×List RB×Unit):=
 (fun(a b:Int) (c:List RB) (d e:RB)=>if decide (a<b)then if decide (0<=a)then if decide (a<(c.length:Int))then(S.a1k ((d.1,d.2.1,d.2.2),((c.getD (0+a.toNat) (false,[],[])).1,(c.getD (0+a.toNat) (false,[],[])).2.1,(c.getD (0+a.toNat) (false,[],[])).2.2),())).bind fun y4=>g3 (wrap .i64 (a+1),b,c,(y4.1.1,y4.1.2.1,y4.1.2.2),(e.1,e.2.1,e.2.2),())else none else none else some ((d.1,d.2.1,d.2.2),c,())) x2.1 x2.2.1 x2.2.2.1 x2.2.2.2.1 x2.2.2.2.2.1
def P.i_summ (k:Nat) (x:List RB×Unit):Option (RB×List RB×Unit):=
 (S.a2x (0,())).bind fun y0=>loopP P.i_summ_b1 k (0,(x.1.length:Int),x.1,(y0.1.1,y0.1.2.1,y0.1.2.2),(false,[],[]),())
open Classical in
def S.i_summ (x:((List RB)×Unit)):(Option (RB×((List RB)×Unit))):=if goodS B32 x.1 then some (rp B32 (sumQ (x.1.map (rv B32))),(x.1,()))else none
theorem i_summ_add (a b:Q3) (ha:lowb B32 40000000 (rp B32 a)=true) (hb:lowb B32 40000000 (rp B32 b)=true):S.a1k (rp B32 a,(rp B32 b,()))=some (rp B32 (addQ a b),()):=by
 unfold S.a1k;dsimp only;rw[if_pos ⟨ha,hb⟩,a3l a0e,a3l a0e]
theorem S.i_summ_ok (x r) (h:S.i_summ x=some r):∃k,P.i_summ k x=some r:=by
 obtain⟨xs,u⟩:=x;unfold S.i_summ at h;dsimp only at h;split at h
 case isFalse=>cases h
 rename_i hc;obtain⟨qs,rfl,hlen,hq,hg⟩:=hc;cases h;refine⟨qs.length+1,?_⟩;unfold P.i_summ;have hz:S.a2x (0,())=some (rp B32 a2a,()):=by rfl
 dsimp only;rw[hz,Option.bind_some,map_rv a0e,List.length_map];have key:=a0g (k:=qs.length+1) (b:=P.i_summ_b1) (n:=qs.length) (st:=fun i=>((i:Int),(qs.length:Int),qs.map (rp B32),rp B32 (sumQ (qs.take i)),(false,(([]:List Int),([]:List Int))),())) (F:=fun i=>some (rp B32 (sumQ qs),(qs.map (rp B32),()))) (fun i g hi hg'=>by
  unfold P.i_summ_b1;dsimp only at hg' ⊢;have e1:(i:Int)<(qs.length:Int):=by omega
  have e2:(0:Int)<=(i:Int):=by omega
  have e3:(i:Int)<((qs.map (rp B32)).length:Int):=by rw[List.length_map];omega
  rw[if_pos (decide_eq_true e1),if_pos (decide_eq_true e2),if_pos (decide_eq_true e3),Nat.zero_add,a0n (qs.map (rp B32)) i _ (by rw[List.length_map];exact hi),List.getElem_map];have ea:=i_summ_add (sumQ (qs.take i)) qs[i] (a3u (by decide) (hg i).1 (hg i).2 (by decide)) (a3u (by decide) (hq _ (List.getElem_mem hi)).1 (hq _ (List.getElem_mem hi)).2 (by decide));rw[sumQ_take hi]at ea;show Option.bind (S.a1k (rp B32 (sumQ (qs.take i)),(rp B32 qs[i],()))) _=_;rw[ea,Option.bind_some,wr (by omega) (by omega)];exact hg') (fun g=>by
  unfold P.i_summ_b1;dsimp only;rw[if_neg (by simp),List.take_length]) (by omega)
 exact key
def P.i_weightsOf (k:Nat) (x:List ByteArray×Unit):Option ((List RB×Bool)×Unit):=
 (S.i_rats (x.1,())).bind fun y0=>if !y0.1.2 then some (([],false),())else(S.a0t (y0.1.1,(),())).bind fun y1=>if y1.1 then some (([],false),())else(S.i_sum (y0.1.1,())).bind fun y2=>(S.a3m ((y2.1.1,y2.1.2.1,y2.1.2.2),())).bind fun y3=>if !y3.1 then some (([],false),())else some ((y0.1.1,true),())
def S.i_weightsOf (x:((List ByteArray)×Unit)):(Option (((List RB)×Bool)×Unit)):=if okT x.1=true then some (((wtAll x.1).1.map (rp B32),(wtAll x.1).2),())else none
theorem S.i_weightsOf_ok (x r) (h:S.i_weightsOf x=some r):∃k,P.i_weightsOf k x=some r:=by
 obtain⟨ls,u⟩:=x;unfold S.i_weightsOf at h;dsimp only at h;split at h
 case isFalse=>cases h
 rename_i hc;cases h;refine⟨0,?_⟩;unfold P.i_weightsOf S.i_rats;dsimp only;rw[if_pos hc,Option.bind_some];dsimp only;unfold wtAll;have hg:=rdAll_good (ls:=ls);have hL:=rdAll_goodL (B:=B32) (ls:=ls);cases hf:(a2q ls).2
 ·rfl
 have hg':=hg hf;have hL':=hL hf;rw[if_neg (by decide)];have ea:S.a0t ((a2q ls).1.map (rp B32),(),())=some ((a2q ls).1.any fun r=>r.1,()):=by
  unfold S.a0t;dsimp only;rw[if_pos hL',any_rp]
 have es:S.i_sum ((a2q ls).1.map (rp B32),())=some (rp B32 (sumQ (a2q ls).1),()):=by
  unfold S.i_sum;dsimp only;rw[if_pos (goodL_S hL'),map_rv a0e]
 have eo:S.a3m (rp B32 (sumQ (a2q ls).1),())=some (isOneQ (sumQ (a2q ls).1),()):=by
  unfold S.a3m;dsimp only;rw[a3l a0e,if_pos ⟨good_rok (by decide) hg',low_qok (good_sum hg').1⟩]
 rw[ea,Option.bind_some];dsimp only;unfold isW;cases hm:((a2q ls).1.any fun r=>r.1)
 ·rw[if_neg (by decide),es,Option.bind_some];show Option.bind (S.a3m (rp B32 (sumQ (a2q ls).1),())) _=_;rw[eo,Option.bind_some];cases ho:isOneQ (sumQ (a2q ls).1)
  ·rfl
  ·simp [hf]
 ·rfl
abbrev i_chainOf.A:=Int×Int×List (List ByteArray)×List (List ByteArray)×List (List RB)×Unit
abbrev i_chainOf.B:=Option ((List (List RB)×Bool)×Unit)
abbrev P.i_chainOf_b0 (x1:i_chainOf.A) (g2:i_chainOf.A->i_chainOf.B):i_chainOf.B:=
 if decide (x1.1<x1.2.1)then if decide (0<=x1.1)then if decide (x1.1<(x1.2.2.1.length:Int))then(S.i_weightsOf (x1.2.2.1.getD x1.1.toNat [],())).bind fun y3=>if !y3.1.2 then some (([],false),())else if(y3.1.1.length:Int) != (x1.2.2.2.1.length:Int)then some (([],false),())else if decide (((x1.2.2.2.2.1.length+(List.length [y3.1.1]))*24)<=140737488355328)then g2 (wrap .i64 (x1.1+1),x1.2.1,x1.2.2.1,x1.2.2.2.1,x1.2.2.2.2.1++[y3.1.1],())else none else none else none else some ((x1.2.2.2.2.1,true),())
def P.i_chainOf (k:Nat) (x:List (List ByteArray)×Unit):i_chainOf.B:=
 if decide ((x.1.length:Int)<1)then some (([],false),())else if decide ((x.1.length:Int)>12)then some (([],false),())else loopP P.i_chainOf_b0 k (0,(x.1.length:Int),x.1,x.1,[],())
def S.i_chainOf (x:((List (List ByteArray))×Unit)):(Option (((List (List RB))×Bool)×Unit)):=if x.1.all okT=true then some (((chQ x.1).1.map (fun r=>r.map (rp B32)),(chQ x.1).2),())else none
theorem S.i_chainOf_ok (x r) (h:S.i_chainOf x=some r):∃k,P.i_chainOf k x=some r:=by
 obtain⟨rows,u⟩:=x;unfold S.i_chainOf at h;dsimp only at h;split at h
 case isFalse=>cases h
 rename_i hc;cases h;refine⟨rows.length+1,?_⟩;unfold P.i_chainOf chQ;dsimp only
 by_cases h1:1<=rows.length
 case neg=>
  rw[if_pos (decide_eq_true (show(rows.length:Int)<1 by omega)),decide_eq_false h1];rfl
 rw[if_neg (by simpa using(show ¬(rows.length:Int)<1 by omega)),decide_eq_true h1]
 by_cases h2:rows.length<=12
 case neg=>
  rw[if_pos (decide_eq_true (show(rows.length:Int)>12 by omega)),decide_eq_false h2];rfl
 rw[if_neg (by simpa using(show ¬(rows.length:Int)>12 by omega)),decide_eq_true h2];simp only[Bool.true_and];have key:=a0g (k:=rows.length+1) (b:=P.i_chainOf_b0) (n:=rows.length) (st:=fun i=>((i:Int),(rows.length:Int),rows,rows,(rows.take i).map (fun r=>(a2q r).1.map (rp B32)),())) (F:=fun i=>some (if((rows.drop i).all fun r=>decide (r.length=rows.length)&&(wtAll r).2)=true then(rows.map (fun r=>(a2q r).1.map (rp B32)),true)else([],false),())) (fun i g hi hg'=>by
  have e1:(i:Int)<(rows.length:Int):=by omega
  have e2:(0:Int)<=(i:Int):=by omega
  have hr:okT rows[i]=true:=List.all_eq_true.1 hc _ (List.getElem_mem hi);have e4:(((rows.take i).map (fun r=>(a2q r).1.map (rp B32))).length+1)*24<=140737488355328:=by
   rw[List.length_map,List.length_take];omega
  unfold P.i_chainOf_b0;dsimp only at hg' ⊢;simp only[e1,e2,decide_true,if_true];rw[a0n rows i _ hi,List.drop_eq_getElem_cons hi,List.all_cons];have ew:S.i_weightsOf (rows[i],())=some (((wtAll rows[i]).1.map (rp B32),(wtAll rows[i]).2),()):=by
   unfold S.i_weightsOf;exact if_pos hr
  rw[ew,Option.bind_some];dsimp only;cases hw:(wtAll rows[i]).2
  ·rw[if_pos (by decide),Bool.and_false,Bool.false_and,if_neg (by decide)]
  obtain⟨w1,w2,w3⟩:=wtAll_ok hw;have w4:=(rdAll_ok w1).1;rw[if_neg (by decide),w3,List.length_map,w4,Bool.and_true]
  by_cases hl:rows[i].length=rows.length
  case neg=>
   rw[if_pos (by simp;omega),decide_eq_false hl,Bool.false_and,if_neg (by decide)]
  rw[if_neg (by simp;omega),decide_eq_true hl,Bool.true_and];simp only[List.length_cons,List.length_nil,Nat.zero_add];rw[if_pos (decide_eq_true e4),wr (by omega) (by omega),<-hg',List.take_add_one,List.getElem?_eq_getElem hi,Option.toList_some,List.map_append];rfl) (fun g=>by
  unfold P.i_chainOf_b0;dsimp only;rw[if_neg (by simp),List.take_length,List.drop_length];rfl) (by omega)
 rw[List.drop_zero]at key;refine Eq.trans key ?_
 by_cases ha:(rows.all fun r=>decide (r.length=rows.length)&&(wtAll r).2)=true
 ·rw[if_pos ha,if_pos ha,List.map_map];rfl
 ·rw[if_neg ha,if_neg ha];rfl
def P.i_in (k:Nat) (x:Int×Int×Int×Unit):Option (Bool×Unit):=
 if decide (x.1>=x.2.1)then some (decide (x.1<=x.2.2.1),())else some (false,())
def S.i_in (x:(Int×(Int×(Int×Unit)))):(Option (Bool×Unit)):=P.i_in 0 x
theorem S.i_in_ok (x r) (h:S.i_in x=some r):∃k,P.i_in k x=some r:=⟨0,h⟩
def P.i_isState (k:Nat) (x:List (List RB)×Int×Unit):Option (Bool×Unit):=
 (S.i_in (x.2.1,0,wrap .i64 ((x.1.length:Int) - 1),())).bind fun y0=>some (y0.1,())
def S.i_isState (x:((List (List RB))×(Int×Unit))):(Option (Bool×Unit)):=P.i_isState 0 x
theorem S.i_isState_ok (x r) (h:S.i_isState x=some r):∃k,P.i_isState k x=some r:=⟨0,h⟩
abbrev i_targetsOf.A:=Int×Int×List Int×List (List RB)×List Int×List Bool×Unit
abbrev P.i_targetsOf_b0 (x1:i_targetsOf.A) (g2:i_targetsOf.A->Option ((List Bool×Bool)×Unit)):Option ((List Bool×Bool)×Unit):=
 (fun(a b:Int) (c e:List Int) (d:List (List RB)) (f:List Bool)=>if decide (a<b)then if decide (0<=a)then if decide (a<(c.length:Int))then(S.i_isState (d,c.getD a.toNat 0,())).bind fun y3=>if !y3.1 then some (([],false),())else if decide (a>0)then if decide (0<=(wrap .i64 (a - 1)))then if decide ((wrap .i64 (a - 1))<(e.length:Int))then if decide ((e.getD (Int.toNat (wrap .i64 (a - 1))) 0)>=(c.getD a.toNat 0))then some (([],false),())else if decide (0<=(c.getD a.toNat 0))then if decide ((c.getD a.toNat 0)<(f.length:Int))then g2 (wrap .i64 (a+1),b,c,d,e,f.set (0+(Int.toNat (c.getD a.toNat 0))) true,())else none else none else none else none else if decide (0<=(c.getD a.toNat 0))then if decide ((c.getD a.toNat 0)<(f.length:Int))then g2 (wrap .i64 (a+1),b,c,d,e,f.set (0+(Int.toNat (c.getD a.toNat 0))) true,())else none else none else none else none else some ((f,decide ((e.length:Int)>0)),())) x1.1 x1.2.1 x1.2.2.1 x1.2.2.2.2.1 x1.2.2.2.1 x1.2.2.2.2.2.1
def P.i_targetsOf (k:Nat) (x:List (List RB)×List Int×Unit):Option ((List Bool×Bool)×Unit):=
 if decide (0<=(x.1.length:Int))then if decide ((x.1.length:Int)<=(x.1.length:Int))then if decide (((x.1.length:Int)*1)<=281474976710656)then loopP P.i_targetsOf_b0 k (0,(x.2.1.length:Int),x.2.1,x.1,x.2.1,List.replicate (Int.toNat (x.1.length:Int)) false,())else none else none else none
def S.i_targetsOf (x:((List (List RB))×((List Int)×Unit))):(Option (((List Bool)×Bool)×Unit)):=if 1<=x.1.length/\x.1.length<=12/\x.2.1.length<=1000000000000000 then some ((if risB x.2.1 0 ((x.1.length:Int) - 1)=true then(tab x.1.length (tgF x.2.1),decide ((x.2.1.length:Int)>0))else([],false)),())else none
theorem S.i_targetsOf_ok (x r) (h:S.i_targetsOf x=some r):∃k,P.i_targetsOf k x=some r:=by
 obtain⟨m,ts,u⟩:=x;unfold S.i_targetsOf at h;dsimp only at h;split at h
 case isFalse=>cases h
 rename_i hc;obtain⟨hm0,hm,hc⟩:=hc;cases h;refine⟨ts.length+1,?_⟩;unfold P.i_targetsOf risB;dsimp only;have a1:(0:Int)<=(m.length:Int):=by omega
 have a2:(m.length:Int)*1<=281474976710656:=by omega
 rw[if_pos (decide_eq_true a1),if_pos (by simp),if_pos (decide_eq_true a2),Int.toNat_natCast];have key:=a0g (k:=ts.length+1) (b:=P.i_targetsOf_b0) (n:=ts.length) (st:=fun i=>((i:Int),(ts.length:Int),ts,m,ts,tab m.length (tgF (ts.take i)),())) (F:=fun i=>some ((if((List.range ts.length).drop i).all (rs1 ts 0 ((m.length:Int) - 1))=true then(tab m.length (tgF ts),decide ((ts.length:Int)>0))else([],false)),())) (fun i g hi' hg=>by
  unfold P.i_targetsOf_b0;dsimp only at hg ⊢;have e1:(i:Int)<(ts.length:Int):=by omega
  have e2:(0:Int)<=(i:Int):=by omega
  rw[all_drop _ hi'];unfold rs1 at hg ⊢;unfold S.i_isState P.i_isState S.i_in P.i_in;dsimp only;simp only[Int.toNat_natCast,a1g,e1,e2,decide_true,if_true];rw[wr (x:=(m.length:Int) - 1) (by omega) (by omega)];have ht:ts.getD i 0=ts[i]:=by rw[List.getD_eq_getElem?_getD,List.getElem?_eq_getElem hi'];rfl
  by_cases h1:0<=ts.getD i 0
  case neg=>
   rw[if_neg (by simpa using h1),Option.bind_some,Option.bind_some,decide_eq_false h1];rfl
  rw[if_pos (by simpa using h1),Option.bind_some,Option.bind_some,decide_eq_true h1,Bool.true_and]
  by_cases h2:ts.getD i 0<=(m.length:Int) - 1
  case neg=>
   rw[decide_eq_false h2];rfl
  have hset:(tab m.length (tgF (ts.take i))).set (ts.getD i 0).toNat true=tab m.length (tgF (ts.take (i+1))):=by
   rw[tab_set];apply a0v;intro j hj;unfold tgF;rw[<-List.take_append_getElem hi',<-ht]
   by_cases q:j=(ts.getD i 0).toNat
   ·rw[if_pos q];have:(j:Int)=ts.getD i 0:=by omega
    rw[this];simp
   ·rw[if_neg q,decide_eq_decide,List.mem_append,List.mem_singleton];constructor
    ·exact Or.inl
    ·rintro (z|z)
     ·exact z
     ·exact absurd (by omega) q
  have e7:ts.getD i 0<(m.length:Int):=by omega
  rw[decide_eq_true h2,if_neg (by decide),Bool.true_and]
  by_cases h0:i=0
  ·rw[if_neg (by simp [h0]),decide_eq_true h0,wr (by omega) (by omega),if_pos (decide_eq_true e7),Nat.zero_add,hset];simp only[Bool.true_or,Bool.true_and];exact hg
  ·have e3:(i:Int)>0:=by omega
   have e4:(0:Int)<=(i:Int) - 1:=by omega
   have e5:(i:Int) - 1<(ts.length:Int):=by omega
   have e6:((i:Int) - 1).toNat=i - 1:=by omega
   rw[if_pos (decide_eq_true e3),wr (x:=(i:Int) - 1) (by omega) (by omega),if_pos (decide_eq_true e4),if_pos (decide_eq_true e5),e6,decide_eq_false h0,Bool.false_or,wr (x:=(i:Int)+1) (by omega) (by omega)]
   by_cases h3:ts.getD (i - 1) 0<ts.getD i 0
   ·rw[if_neg (by simpa using h3),decide_eq_true h3,Bool.true_and,if_pos (decide_eq_true e7),Nat.zero_add,hset];exact hg
   ·rw[if_pos (by simpa using h3),decide_eq_false h3];rfl) (fun g=>by
  unfold P.i_targetsOf_b0;dsimp only;rw[if_neg (by simp),List.drop_eq_nil_of_le (by simp),List.take_length];rfl) (by omega)
 rw[List.drop_zero]at key;refine Eq.trans ?_ key;rw[tab_rep];have:(tab m.length fun _=>false)=tab m.length (tgF (ts.take 0)):=a0v fun j hj=>by
  unfold tgF;simp
 rw[this];rfl
def P.i_chainAndTargets (k:Nat) (x:List (List ByteArray)×List Int×Unit):Option ((List (List RB)×List Bool×Bool)×Unit):=
 (S.i_chainOf (x.1,())).bind fun y0=>if !y0.1.2 then some (([],[],false),())else(S.i_targetsOf (y0.1.1,x.2.1,())).bind fun y1=>some ((y0.1.1,y1.1.1,y1.1.2),())
def S.i_chainAndTargets (x:((List (List ByteArray))×((List Int)×Unit))):(Option (((List (List RB))×((List Bool)×Bool))×Unit)):=P.i_chainAndTargets 0 x
theorem S.i_chainAndTargets_ok (x r) (h:S.i_chainAndTargets x=some r):∃k,P.i_chainAndTargets k x=some r:=⟨0,h⟩
abbrev i_HitTimes.A:=Int×Int×List RB×List Bool×List Int×List (List RB)×Unit
abbrev i_HitTimes.B:=Option ((List ByteArray×Bool)×Unit)
abbrev P.i_HitTimes_b2 (x3:i_HitTimes.A) (g4:i_HitTimes.A->i_HitTimes.B):i_HitTimes.B:=
 (fun(a b:Int) (c:List RB) (d:List Bool) (e:List Int) (f:List (List RB))=>if decide (a<b)then if decide (0<=a)then if decide (a<(c.length:Int))then(S.a3m (((c.getD a.toNat (false,[],[])).1,(c.getD a.toNat (false,[],[])).2.1,(c.getD a.toNat (false,[],[])).2.2),())).bind fun y5=>if !y5.1 then some (([],false),())else if decide (0<=a)then if decide (a<(d.length:Int))then if ! (d.getD a.toNat false)then if decide (((e.length+(List.length [a]))*8)<=140737488355328)then g4 (wrap .i64 (a+1),b,c,d,e++[a],f,())else none else g4 (wrap .i64 (a+1),b,c,d,e,f,())else none else none else none else none else(S.i_hitTimes (f,e,())).bind fun y6=>(S.i_toldList (y6.1,())).bind fun y7=>some ((y7.1.1,y7.1.2),())) x3.1 x3.2.1 x3.2.2.1 x3.2.2.2.1 x3.2.2.2.2.1 x3.2.2.2.2.2.1
def P.i_HitTimes (k:Nat) (x:List (List ByteArray)×List Int×Unit):i_HitTimes.B:=
 (S.i_chainAndTargets (x.1,x.2.1,())).bind fun y0=>if !y0.1.2.2 then some (([],false),())else(S.i_hits (y0.1.1,y0.1.2.1,())).bind fun y1=>loopP P.i_HitTimes_b2 k (0,(y1.1.length:Int),y1.1,y0.1.2.1,[],y0.1.1,())
open Classical in
def S.i_HitTimes (x:((List (List ByteArray))×((List Int)×Unit))):(Option (((List ByteArray)×Bool)×Unit)):=if x.1.all okT=true/\x.2.1.length<=1000000 then some (htT x.1 x.2.1,())else none
theorem S.i_HitTimes_ok (x r) (h:S.i_HitTimes x=some r):∃k,P.i_HitTimes k x=some r:=by
 obtain⟨u,ts,u'⟩:=x;unfold S.i_HitTimes at h;dsimp only at h;split at h
 case isFalse=>cases h
 rename_i hcc;obtain⟨hu,ht⟩:=hcc;cases h;refine⟨13,?_⟩;have hp:S.i_chainOf (u,())=some ((mp B32 (chQ u).1,(chQ u).2),()):=by
  unfold S.i_chainOf;exact if_pos hu
 unfold P.i_HitTimes S.i_chainAndTargets P.i_chainAndTargets htT tgC;dsimp only;rw[hp,Option.bind_some];dsimp only;cases hc:(chQ u).2
 ·rw[if_pos (by decide),Bool.false_and,Bool.false_and,if_neg (by decide),Option.bind_some];rfl
 obtain⟨hM,_⟩:=chQ_ok hc;generalize (chQ u).1=M at*;have hn:=hM.2.1.1;have hn0:0<M.length:=hM.1;have et:S.i_targetsOf (mp B32 M,ts,())=some ((if risB ts 0 ((M.length:Int) - 1)=true then(tab M.length (tgF ts),decide ((ts.length:Int)>0))else([],false)),()):=by
  unfold S.i_targetsOf;dsimp only;rw[a5b,if_pos ⟨by omega,hn,by omega⟩]
 have eh:S.i_hits (mp B32 M,tab M.length (tgF ts),())=some ((hitL M (tgF ts)).map (rp B32),()):=by
  unfold S.i_hits;dsimp only;rw[if_pos ⟨_,hM,rfl,a1g _ _⟩,mv_mp (by decide),hitL_cg hM fun i hi=>tab_getD _ _ hi]
 rw[if_neg (by decide),et,Option.bind_some,Option.bind_some,Bool.true_and];dsimp only;cases hr:risB ts 0 ((M.length:Int) - 1)
 ·simp only[Bool.false_eq_true,if_false,Bool.and_false,Bool.false_and,Bool.not_false,if_true]
 rw[if_pos rfl,Bool.and_true];dsimp only;cases h0:decide ((ts.length:Int)>0)
 ·rw[if_pos (by decide),Bool.false_and,if_neg (by decide)]
 rw[if_neg (by decide),eh,Option.bind_some,Bool.true_and];dsimp only;obtain⟨hk,hlen⟩:=hitL_ok hM (tgF ts);generalize hH:hitL M (tgF ts)=H at*;rw[List.length_map,hlen];have key:=a0g (k:=13) (b:=P.i_HitTimes_b2) (n:=M.length) (st:=fun i=>((i:Int),(M.length:Int),H.map (rp B32),tab M.length (tgF ts),zs (fl (fun j=> !tgF ts j) i),mp B32 M,())) (F:=fun i=>if((H.drop i).all fun q=>decide (q=oneQ))=true then((S.i_hitTimes (mp B32 M,zs (fl (fun j=> !tgF ts j) M.length),())).bind fun y6=>(S.i_toldList (y6.1,())).bind fun y7=>some ((y7.1.1,y7.1.2),()))else some (([],false),())) (fun i g hi hg=>by
  unfold P.i_HitTimes_b2;dsimp only at hg ⊢;have hi':i<H.length:=by omega
  have hli:=fl_le (fun j=> !tgF ts j) i;have e1:(i:Int)<(M.length:Int):=by omega
  have e2:(0:Int)<=(i:Int):=by omega
  have e3:(i:Int)<(H.length:Int):=by omega
  have e4:((fl (fun j=> !tgF ts j) i).length+1)*8<=140737488355328:=by omega
  have e8:(H.map (rp B32)).getD i (false,(([]:List Int),([]:List Int)))=rp B32 H[i]:=by
   rw[List.getD_eq_getElem?_getD,List.getElem?_map,List.getElem?_eq_getElem hi'];rfl
  have e11:(tab M.length (tgF ts)).getD i false=tgF ts i:=tab_getD _ _ hi;have kk:=hk _ (List.getElem_mem hi');have ee:S.a3m (((rp B32 H[i]).1,(rp B32 H[i]).2.1,(rp B32 H[i]).2.2),())=some (decide (H[i]=oneQ),()):=by
   show S.a3m (rp B32 _,())=_;unfold S.a3m;dsimp only;rw[a3l a0e,if_pos ⟨below_rok9 (by decide) kk.2 (by decide),low_qok kk.1⟩,isOne_low kk.1]
  rw[fl_succ]at hg;rw[List.drop_eq_getElem_cons hi',List.all_cons];simp only[Int.toNat_natCast,List.length_map,List.length_cons,List.length_nil,Nat.zero_add,zs_len,a1g,e1,e2,e3,e4,e8,e11,decide_true,if_true];rw[ee,Option.bind_some];dsimp only;cases hq:decide (H[i]=oneQ)
  ·rw[if_pos (by decide),Bool.false_and,if_neg (by decide)]
  ·rw[if_neg (by decide),Bool.true_and,wr (by omega) (by omega),<-hg];cases htg:tgF ts i
   ·rw[if_pos (by decide),if_pos (by decide),zs_append];rfl
   ·rw[if_neg (by decide),if_neg (by decide),List.append_nil];rfl) (fun g=>by
  unfold P.i_HitTimes_b2;dsimp only;rw[if_neg (by simp),List.drop_eq_nil_of_le (by omega)];rfl) (by omega)
 refine Eq.trans key ?_;rw[List.drop_zero];show(if all1 H=true then _ else _)=_;cases ha:all1 H
 ·rw[if_neg (by decide),if_neg (by decide)]
 rw[if_pos rfl,if_pos rfl];rw[<-hH]at ha;have hin:=all1_in ha;have hcg:∀i,i<M.length->inC M (tgF ts) i=cZ (zs (fl (fun j=> !tgF ts j) M.length)) i:=fun i hi=>by
  rw[hin i hi,cZ_fl hi]
 have hw:=way_congr hcg inC_out;have em:S.i_hitTimes (mp B32 M,zs (fl (fun j=> !tgF ts j) M.length),())=some ((tmL M (inC M (tgF ts))).map (rp B32),()):=by
  unfold S.i_hitTimes;dsimp only;rw[if_pos ⟨M,hM,rfl,by rw[cZ_self],hw⟩,mv_mp (by decide),<-tmL_congr hM inC_out hcg]
 obtain⟨o1,o2⟩:=tmL_ok hM (c:=inC M (tgF ts)) inC_out;have eg:S.i_toldList ((tmL M (inC M (tgF ts))).map (rp B32),())=some (giveL (tmL M (inC M (tgF ts))),()):=by
  unfold S.i_toldList;dsimp only;rw[if_pos ⟨all_rok (by decide) (by decide) o1,by rw[List.length_map];omega⟩,map_rv a0e]
 rw[em,Option.bind_some,eg,Option.bind_some]
def P.a4s (k:Nat) (x:List (List ByteArray)×List Int×Unit):Option (Bool×Unit):=
 (S.l_szChain (x.1,wrap .i64 (1000000 - (x.2.1.length:Int)),())).bind fun y0=>if decide (y0.1<0)then some (true,())else(S.l_toChaino (x.1,false,())).bind fun y1=>(S.a5e (x.2.1,false,())).bind fun y2=>(S.s_HitTimes (List.map (fun(y3:List ByteArray×Nat)=>List.map (fun(y4:ByteArray)=>y4) (List.take y3.2 y3.1)) (seen (nrm (hd0 y1.1.1) (in0 y1.1.1)) 0 y1.1.2),seen y2.1.1 0 y2.1.2,())).bind fun y5=>(S.l_toChaino (x.1,false,())).bind fun y6=>(S.a5e (x.2.1,false,())).bind fun y7=>(S.i_HitTimes (List.map (fun(y8:List ByteArray×Nat)=>List.map (fun(y9:ByteArray)=>y9) (List.take y8.2 y8.1)) (seen (nrm (hd0 y6.1.1) (in0 y6.1.1)) 0 y6.1.2),seen y7.1.1 0 y7.1.2,())).bind fun y10=>(S.a2i (y10.1.1,y5.1.1,())).bind fun y11=>if !y11.1 then some (false,())else if ! (y10.1.2==y5.1.2)then some (false,())else(S.l_toChaino (x.1,false,())).bind fun y12=>(S.l_intactChain ((List.drop 0 (nrm (hd0 y6.1.1) (in0 y6.1.1)),y6.1.2),(List.drop 0 (nrm (hd0 y12.1.1) (in0 y12.1.1)),y12.1.2),())).bind fun y13=>if !y13.1 then some (false,())else(S.a5e (x.2.1,false,())).bind fun y14=>(S.l_intactInt64S ((List.drop 0 y7.1.1,y7.1.2),(List.drop 0 y14.1.1,y14.1.2),())).bind fun y15=>if !y15.1 then some (false,())else if dup (List.map (fun(y16:Nat×Nat)=>y16.1) (seen (hd0 y6.1.1) 0 y6.1.2))then none else(fun(e0:Option (Bool×Unit))=>if decide (y6.1.2=(List.length (hd0 y6.1.1)))then e0 else e0) ((S.l_markChain (nrm (seen (hd0 y6.1.1) 0 y6.1.2) (in0 y6.1.1),101,())).bind fun y17=>(S.l_markInt64S (seen y7.1.1 0 y7.1.2,y17.1,())).bind fun y18=>if decide (y18.1<0)then some (false,())else(S.a2i (y10.1.1,y5.1.1,())).bind fun y19=>if !y19.1 then some (false,())else if ! (y10.1.2==y5.1.2)then some (false,())else(S.a3f (y10.1.1,101,())).bind fun y20=>(S.a5d (splice y10.1.1 y20.2.1 0,101,())).bind fun y21=>if decide (y21.1<0)then some (false,())else if y21.1 != y20.1 then some (false,())else(S.l_toChaino (x.1,true,())).bind fun y22=>(S.a5e (x.2.1,true,())).bind fun y23=>(S.i_HitTimes (List.map (fun(y24:List ByteArray×Nat)=>List.map (fun(y25:ByteArray)=>y25) (List.take y24.2 y24.1)) (seen (nrm (hd0 y22.1.1) (in0 y22.1.1)) 0 y22.1.2),seen y23.1.1 0 y23.1.2,())).bind fun y26=>(S.a2i (y26.1.1,y5.1.1,())).bind fun y27=>if !y27.1 then some (false,())else if ! (y26.1.2==y5.1.2)then some (false,())else(S.a5d (splice y10.1.1 y20.2.1 0,101,())).bind fun y28=>if decide (y28.1<0)then some (false,())else if y28.1 != y20.1 then some (false,())else some (true,()))
def S.l_FnExactHitTimes (x:((List (List ByteArray))×((List Int)×Unit))):(Option (Bool×Unit)):=P.a4s 0 x
theorem S.l_FnExactHitTimes_ok (x r) (h:S.l_FnExactHitTimes x=some r):∃k,P.a4s k x=some r:=⟨0,h⟩
end Go.Cm
end
