import Derived.Test.YtdpljomfkoojnaaGreatDoorPlLumpChainc
set_option linter.unusedVariables false
set_option maxRecDepth 100000
noncomputable section
namespace Go.Cm
open IntKind (wrap)
abbrev P.slices_IndexFunc__i_rat_i_ratP_b0 (x1:Int×Int×Unit×List RB×Unit) (g2:Int×Int×Unit×List RB×Unit->Option (Int×Unit)):Option (Int×Unit):=
 if decide (x1.1<x1.2.1)then if decide (0<=x1.1)then if decide (x1.1<(x1.2.2.2.1.length:Int))then(S.i_notPlus (((x1.2.2.2.1.getD x1.1.toNat (false,[],[])).1,(x1.2.2.2.1.getD x1.1.toNat (false,[],[])).2.1,(x1.2.2.2.1.getD x1.1.toNat (false,[],[])).2.2),())).bind fun y3=>if y3.1 then some (x1.1,())else g2 (wrap .i64 (x1.1+1),x1.2.1,(),x1.2.2.2.1,())else none else none else some ((-1:Int),())
def P.slices_IndexFunc__i_rat_i_ratP (k:Nat) (x:List RB×Unit×Unit):Option (Int×Unit):=
 loopP P.slices_IndexFunc__i_rat_i_ratP_b0 k (0,(x.1.length:Int),(),x.1,())
open Classical in
def S.slices_IndexFunc__i_rat_i_ratP (x:((List RB)×(Unit×Unit))):(Option (Int×Unit)):=if goodL B32 x.1 then some (ixF (fun r=> !posQ r) (x.1.map (rv B32)),())else none
theorem S.slices_IndexFunc__i_rat_i_ratP_ok (x r) (h:S.slices_IndexFunc__i_rat_i_ratP x=some r):∃k,P.slices_IndexFunc__i_rat_i_ratP k x=some r:=by
 obtain⟨xs,u,u'⟩:=x;unfold S.slices_IndexFunc__i_rat_i_ratP at h;dsimp only at h;split at h
 case isFalse=>cases h
 rename_i hc;cases h;obtain⟨qs,n,rfl,hg⟩:=hc;have hlen:=good_len hg;refine⟨qs.length+1,?_⟩;unfold P.slices_IndexFunc__i_rat_i_ratP;dsimp only;have hm:∀i (hi:i<qs.length),S.i_notPlus (rp B32 qs[i],())=some (!posQ qs[i],()):=by
  intro i hi;unfold S.i_notPlus;dsimp only;rw[if_pos (lowb_iff.1 (good_get (by decide) hg hi)).1,rv_rp B32_le]
 have key:=loop_up0 (k:=qs.length+1) (b:=P.slices_IndexFunc__i_rat_i_ratP_b0) (n:=qs.length) (st:=fun i=>((i:Int),(qs.length:Int),(),qs.map (rp B32),())) (F:=fun i=>some (if ixF (fun r=> !posQ r) (qs.drop i)<0 then -1 else ixF (fun r=> !posQ r) (qs.drop i)+i,())) (fun i g hi hg'=>by
  unfold P.slices_IndexFunc__i_rat_i_ratP_b0;dsimp only at hg' ⊢;have e1:(i:Int)<(qs.length:Int):=by omega
  have e2:(0:Int)<=(i:Int):=by omega
  have e3:(i:Int)<((qs.map (rp B32)).length:Int):=by rw[List.length_map];omega
  rw[if_pos (decide_eq_true e1),if_pos (decide_eq_true e2),if_pos (decide_eq_true e3),getD_cast (qs.map (rp B32)) i _ (by rw[List.length_map];exact hi),List.getElem_map];show Option.bind (S.i_notPlus (rp B32 qs[i],())) _=_;rw[hm i hi,Option.bind_some,List.drop_eq_getElem_cons hi,ixF_cons];dsimp only;cases hf: !posQ qs[i]
  ·simp only[Bool.false_eq_true,if_false];rw[wr (by omega) (by omega)];refine hg'.trans ?_;congr 2;have:=ixF_ge (fun r=> !posQ r) (qs.drop (i+1));split
   ·rfl
   ·rw[if_neg (by omega)];omega
  ·simp) (fun g=>by
  unfold P.slices_IndexFunc__i_rat_i_ratP_b0;dsimp only;rw[if_neg (by simp),List.drop_length];rfl) (by omega)
 rw[List.length_map,map_rv B32_le];refine key.trans ?_;rw[List.drop_zero];congr 2;have hr:=ixF_ge (fun r=> !posQ r) qs;split<;>omega
def P.slices_ContainsFunc__i_rat_i_ratP (k:Nat) (x:List RB×Unit×Unit):Option (Bool×Unit):=
 (S.slices_IndexFunc__i_rat_i_ratP (x.1,(),())).bind fun y0=>some (decide (y0.1>=0),())
open Classical in
def S.slices_ContainsFunc__i_rat_i_ratP (x:((List RB)×(Unit×Unit))):(Option (Bool×Unit)):=if goodL B32 x.1 then some (!ratesB (x.1.map (rv B32)),())else none
theorem S.slices_ContainsFunc__i_rat_i_ratP_ok (x r) (h:S.slices_ContainsFunc__i_rat_i_ratP x=some r):∃k,P.slices_ContainsFunc__i_rat_i_ratP k x=some r:=by
 obtain⟨xs,u,u'⟩:=x;unfold S.slices_ContainsFunc__i_rat_i_ratP at h;dsimp only at h;split at h
 case isFalse=>cases h
 rename_i hc;cases h;refine⟨0,?_⟩;unfold P.slices_ContainsFunc__i_rat_i_ratP S.slices_IndexFunc__i_rat_i_ratP;dsimp only;rw[if_pos hc,Option.bind_some,<-not_ratesB,<-ixF_any]
def P.i_weightsOf (k:Nat) (x:List ByteArray×Unit):Option ((List RB×Bool)×Unit):=
 (S.i_rats (x.1,())).bind fun y0=>if !y0.1.2 then some (([],false),())else(S.slices_ContainsFunc__i_rat_i_rat (y0.1.1,(),())).bind fun y1=>if y1.1 then some (([],false),())else(S.i_sum (y0.1.1,())).bind fun y2=>(S.i_rat_isOne ((y2.1.1,y2.1.2.1,y2.1.2.2),())).bind fun y3=>if !y3.1 then some (([],false),())else some ((y0.1.1,true),())
def S.i_weightsOf (x:((List ByteArray)×Unit)):(Option (((List RB)×Bool)×Unit)):=if okT x.1=true then some (((wtAll x.1).1.map (rp B32),(wtAll x.1).2),())else none
theorem S.i_weightsOf_ok (x r) (h:S.i_weightsOf x=some r):∃k,P.i_weightsOf k x=some r:=by
 obtain⟨ls,u⟩:=x;unfold S.i_weightsOf at h;dsimp only at h;split at h
 case isFalse=>cases h
 rename_i hc;cases h;refine⟨0,?_⟩;unfold P.i_weightsOf S.i_rats;dsimp only;rw[if_pos hc,Option.bind_some];dsimp only;unfold wtAll;have hg:=rdAll_good (ls:=ls);have hL:=rdAll_goodL (B:=B32) (ls:=ls);cases hf:(rdAll ls).2
 ·rfl
 have hg':=hg hf;have hL':=hL hf;rw[if_neg (by decide)];have ea:S.slices_ContainsFunc__i_rat_i_rat ((rdAll ls).1.map (rp B32),(),())=some ((rdAll ls).1.any fun r=>r.1,()):=by
  unfold S.slices_ContainsFunc__i_rat_i_rat;dsimp only;rw[if_pos hL',any_rp]
 have es:S.i_sum ((rdAll ls).1.map (rp B32),())=some (rp B32 (sumQ (rdAll ls).1),()):=by
  unfold S.i_sum;dsimp only;rw[if_pos (goodL_S hL'),map_rv B32_le]
 have eo:S.i_rat_isOne (rp B32 (sumQ (rdAll ls).1),())=some (isOneQ (sumQ (rdAll ls).1),()):=by
  unfold S.i_rat_isOne;dsimp only;rw[rv_rp B32_le,if_pos ⟨good_rok (by decide) hg',low_qok (good_sum hg').1⟩]
 rw[ea,Option.bind_some];dsimp only;unfold isW;cases hm:((rdAll ls).1.any fun r=>r.1)
 ·rw[if_neg (by decide),es,Option.bind_some];show Option.bind (S.i_rat_isOne (rp B32 (sumQ (rdAll ls).1),())) _=_;rw[eo,Option.bind_some];cases ho:isOneQ (sumQ (rdAll ls).1)
  ·rfl
  ·simp [hf]
 ·rfl
abbrev i_chainOf.A:=Int×Int×List (List ByteArray)×List (List ByteArray)×List (List RB)×Unit
abbrev i_chainOf.B:=Option ((List (List RB)×Bool)×Unit)
abbrev P.i_chainOf_b0 (x1:i_chainOf.A) (g2:i_chainOf.A->i_chainOf.B):i_chainOf.B:=
 if decide (x1.1<x1.2.1)then if decide (0<=x1.1)then if decide (x1.1<(x1.2.2.1.length:Int))then(S.i_weightsOf (x1.2.2.1.getD x1.1.toNat [],())).bind fun y3=>if !y3.1.2 then some (([],false),())else if(y3.1.1.length:Int) != (x1.2.2.2.1.length:Int)then some (([],false),())else if decide (((x1.2.2.2.2.1.length+(List.length [y3.1.1]))*24)<=140737488355328)then g2 (wrap .i64 (x1.1+1),x1.2.1,x1.2.2.1,x1.2.2.2.1,x1.2.2.2.2.1++[y3.1.1],())else none else none else none else some ((x1.2.2.2.2.1,true),())
def P.i_chainOf (k:Nat) (x:List (List ByteArray)×Unit):i_chainOf.B:=
 if decide ((x.1.length:Int)<1)then some (([],false),())else if decide ((x.1.length:Int)>12)then some (([],false),())else loopP P.i_chainOf_b0 k (0,(x.1.length:Int),x.1,x.1,[],())
def S.i_chainOf (x:((List (List ByteArray))×Unit)):(Option (((List (List RB))×Bool)×Unit)):=if x.1.all okT=true then some (((chQ x.1).1.map (fun r=>r.map (rp B32)),(chQ x.1).2),())else none
theorem S.i_chainOf_ok (x r) (h:S.i_chainOf x=some r):∃k,P.i_chainOf k x=some r:=by
 obtain⟨rows,u⟩:=x;unfold S.i_chainOf at h;dsimp only at h;split at h
 case isFalse=>cases h
 rename_i hc;cases h;refine⟨rows.length+1,?_⟩;unfold P.i_chainOf chQ;dsimp only
 by_cases h1:1<=rows.length
 case neg=>
  rw[if_pos (decide_eq_true (show(rows.length:Int)<1 by omega)),decide_eq_false h1];rfl
 rw[if_neg (by simpa using(show ¬(rows.length:Int)<1 by omega)),decide_eq_true h1]
 by_cases h2:rows.length<=12
 case neg=>
  rw[if_pos (decide_eq_true (show(rows.length:Int)>12 by omega)),decide_eq_false h2];rfl
 rw[if_neg (by simpa using(show ¬(rows.length:Int)>12 by omega)),decide_eq_true h2];simp only[Bool.true_and];have key:=loop_up0 (k:=rows.length+1) (b:=P.i_chainOf_b0) (n:=rows.length) (st:=fun i=>((i:Int),(rows.length:Int),rows,rows,(rows.take i).map (fun r=>(rdAll r).1.map (rp B32)),())) (F:=fun i=>some (if((rows.drop i).all fun r=>decide (r.length=rows.length)&&(wtAll r).2)=true then(rows.map (fun r=>(rdAll r).1.map (rp B32)),true)else([],false),())) (fun i g hi hg'=>by
  have e1:(i:Int)<(rows.length:Int):=by omega
  have e2:(0:Int)<=(i:Int):=by omega
  have hr:okT rows[i]=true:=List.all_eq_true.1 hc _ (List.getElem_mem hi);have e4:(((rows.take i).map (fun r=>(rdAll r).1.map (rp B32))).length+1)*24<=140737488355328:=by
   rw[List.length_map,List.length_take];omega
  unfold P.i_chainOf_b0;dsimp only at hg' ⊢;simp only[e1,e2,decide_true,if_true];rw[getD_cast rows i _ hi,List.drop_eq_getElem_cons hi,List.all_cons];have ew:S.i_weightsOf (rows[i],())=some (((wtAll rows[i]).1.map (rp B32),(wtAll rows[i]).2),()):=by
   unfold S.i_weightsOf;exact if_pos hr
  rw[ew,Option.bind_some];dsimp only;cases hw:(wtAll rows[i]).2
  ·rw[if_pos (by decide),Bool.and_false,Bool.false_and,if_neg (by decide)]
  obtain⟨w1,w2,w3⟩:=wtAll_ok hw;have w4:=(rdAll_ok w1).1;rw[if_neg (by decide),w3,List.length_map,w4,Bool.and_true]
  by_cases hl:rows[i].length=rows.length
  case neg=>
   rw[if_pos (by simp;omega),decide_eq_false hl,Bool.false_and,if_neg (by decide)]
  rw[if_neg (by simp;omega),decide_eq_true hl,Bool.true_and];simp only[List.length_cons,List.length_nil,Nat.zero_add];rw[if_pos (decide_eq_true e4),wr (by omega) (by omega),<-hg',List.take_add_one,List.getElem?_eq_getElem hi,Option.toList_some,List.map_append];rfl) (fun g=>by
  unfold P.i_chainOf_b0;dsimp only;rw[if_neg (by simp),List.take_length,List.drop_length];rfl) (by omega)
 rw[List.drop_zero]at key;refine Eq.trans key ?_
 by_cases ha:(rows.all fun r=>decide (r.length=rows.length)&&(wtAll r).2)=true
 ·rw[if_pos ha,if_pos ha,List.map_map];rfl
 ·rw[if_neg ha,if_neg ha];rfl
def S.strconv_FormatUint (x:(Int×(Int×Unit))):(Option (ByteArray×Unit)):=if x.2.1=10/\0<=x.1/\x.1<18446744073709551616 then some (⟨(Go.Lib.decDigits x.1.toNat).toArray⟩,())else none
def joinB (xs:List ByteArray) (sep:ByteArray):List UInt8:=Go.Lib.join (xs.map (·.data.toList)) sep.data.toList
def S.strings_Join (x:((List ByteArray)×(ByteArray×Unit))):(Option (ByteArray×Unit)):=if x.1.length<=140737488355328/\(joinB x.1 x.2.1).length<=140737488355328 then some (⟨(joinB x.1 x.2.1).toArray⟩,())else none
def S.strings_Repeat (x:(ByteArray×(Int×Unit))):(Option (ByteArray×Unit)):=if 0<=x.2.1/\x.2.1<=1000000/\x.1.size<=1000000 then some (⟨(Go.Lib.repeatL x.1.data.toList x.2.1.toNat).toArray⟩,())else none
abbrev P.slices_Reverse__string_string_b0 (x1:Int×Int×List ByteArray×Unit) (g2:Int×Int×List ByteArray×Unit->Option (Unit×List ByteArray×Unit)):Option (Unit×List ByteArray×Unit):=
 (fun(a b:Int) (c:List ByteArray)=>if decide (a<b)then if decide (0<=b)then if decide (b<(c.length:Int))then if decide (0<=a)then if decide (a<(c.length:Int))then if decide (0<=a)then if decide (a<(c.length:Int))then if decide (0<=b)then if decide (b<(List.length (c.set (0+a.toNat) (c.getD (0+b.toNat) (bs []))):Int))then g2 (wrap .i64 (a+1),wrap .i64 (b - 1),List.set (c.set (0+a.toNat) (c.getD (0+b.toNat) (bs []))) (0+b.toNat) (c.getD (0+a.toNat) (bs [])),())else none else none else none else none else none else none else none else none else some ((),c,())) x1.1 x1.2.1 x1.2.2.1
def P.slices_Reverse__string_string (k:Nat) (x:List ByteArray×Unit):Option (Unit×List ByteArray×Unit):=
 loopP P.slices_Reverse__string_string_b0 k (0,wrap .i64 ((x.1.length:Int) - 1),x.1,())
def rvd (xs:List ByteArray) (t:Nat):List ByteArray:=(List.range xs.length).map fun p=>if p<t\/xs.length - t<=p then xs.getD (xs.length - 1 - p) (bs [])else xs.getD p (bs [])
theorem rvd_len (xs:List ByteArray) (t:Nat):(rvd xs t).length=xs.length:=by simp [rvd]
theorem rvd_get (xs:List ByteArray) (t p:Nat) (h:p<xs.length):(rvd xs t).getD p (bs [])=if p<t\/xs.length - t<=p then xs.getD (xs.length - 1 - p) (bs [])else xs.getD p (bs []):=by
 unfold rvd;rw[List.getD_eq_getElem?_getD,List.getElem?_map,List.getElem?_range h];rfl
theorem getD_ext {xs ys:List ByteArray} (hl:xs.length=ys.length) (h:∀p,p<xs.length->xs.getD p (bs [])=ys.getD p (bs [])):xs=ys:=by
 apply List.ext_getElem hl;intro i h1 h2;have:=h i h1;simpa [h1,h2]using this
theorem rvd_end (xs:List ByteArray):rvd xs (xs.length/2)=xs.reverse:=by
 apply getD_ext (by rw[rvd_len,List.length_reverse]);intro p hp;rw[rvd_len]at hp;rw[rvd_get _ _ _ hp];have e:xs.reverse.getD p (bs [])=xs.getD (xs.length - 1 - p) (bs []):=by
  rw[List.getD_eq_getElem?_getD,List.getElem?_reverse hp,<-List.getD_eq_getElem?_getD]
 rw[e];split
 ·rfl
 ·rename_i hq;have:xs.length - 1 - p=p:=by omega
  rw[this]
theorem getD_set' (l:List ByteArray) (i p:Nat) (v:ByteArray) (h:p<l.length):(l.set i v).getD p (bs [])=if p=i then v else l.getD p (bs []):=by
 rw[List.getD_eq_getElem?_getD,List.getElem?_set]
 by_cases e:i=p
 ·subst e;simp [h]
 ·rw[if_neg e,if_neg (fun q=>e q.symm),<-List.getD_eq_getElem?_getD]
theorem rvd_step (xs:List ByteArray) (t:Nat) (ht:t<xs.length/2):((rvd xs t).set t ((rvd xs t).getD (xs.length - 1 - t) (bs []))).set (xs.length - 1 - t) ((rvd xs t).getD t (bs []))=rvd xs (t+1):=by
 apply getD_ext (by simp [rvd_len]);intro p hp;simp only[List.length_set,rvd_len]at hp;rw[getD_set' _ _ _ _ (by simp [rvd_len];exact hp),getD_set' _ _ _ _ (by rw[rvd_len];exact hp),rvd_get _ _ _ hp,rvd_get _ _ _ hp,rvd_get _ _ _ (show t<xs.length by omega),rvd_get _ _ _ (show xs.length - 1 - t<xs.length by omega)];rw[if_neg (show ¬(t<t\/xs.length - t<=t) by omega),if_neg (show ¬(xs.length - 1 - t<t\/xs.length - t<=xs.length - 1 - t) by omega)]
 by_cases h1:p=xs.length - 1 - t
 ·rw[if_pos h1,if_pos (by omega)];congr 1;omega
 ·rw[if_neg h1]
  by_cases h2:p=t
  ·rw[if_pos h2,if_pos (by omega)];congr 1;omega
  ·rw[if_neg h2]
   by_cases h3:p<t\/xs.length - t<=p
   ·rw[if_pos h3,if_pos (by omega)]
   ·rw[if_neg h3,if_neg (by omega)]
def S.slices_Reverse__string_string (x:((List ByteArray)×Unit)):(Option (Unit×((List ByteArray)×Unit))):=if x.1.length<=1000000000 then some ((),(x.1.reverse,()))else none
theorem S.slices_Reverse__string_string_ok (x r) (h:S.slices_Reverse__string_string x=some r):∃k,P.slices_Reverse__string_string k x=some r:=by
 obtain⟨xs,u⟩:=x;unfold S.slices_Reverse__string_string at h;dsimp only at h;split at h
 case isFalse=>cases h
 rename_i hl;cases h;refine⟨xs.length/2+1,?_⟩;unfold P.slices_Reverse__string_string;dsimp only;rw[wr (by omega) (by omega)];have key:=loop_up0 (k:=xs.length/2+1) (b:=P.slices_Reverse__string_string_b0) (n:=xs.length/2) (st:=fun t=>((t:Int),(xs.length:Int) - 1 - (t:Int),rvd xs t,())) (F:=fun t=>some ((),(xs.reverse,()))) (fun t g ht hg=>by
  unfold P.slices_Reverse__string_string_b0;dsimp only at hg ⊢;have e5:(xs.length:Int) - 1 - (t:Int)=((xs.length - 1 - t:Nat):Int):=by omega
  rw[e5];have e1:(t:Int)<((xs.length - 1 - t:Nat):Int):=by omega
  have e2:(0:Int)<=((xs.length - 1 - t:Nat):Int):=by omega
  have e3:((xs.length - 1 - t:Nat):Int)<(xs.length:Int):=by omega
  have e4:(0:Int)<=(t:Int):=by omega
  have e6:(t:Int)<(xs.length:Int):=by omega
  simp only[rvd_len,List.length_set,e1,e2,e3,e4,e6,decide_true,if_true,Int.toNat_natCast,Nat.zero_add];rw[rvd_step xs t ht,wr (by omega) (by omega),wr (by omega) (by omega),<-hg];congr 1
  all_goals (simp only[Prod.mk.injEq];and_intros<;>first|rfl|omega|trivial)) (fun g=>by
  unfold P.slices_Reverse__string_string_b0;dsimp only;rw[if_neg (by simp;omega),rvd_end]) (by omega)
 have e0:rvd xs 0=xs:=by
  apply getD_ext (rvd_len _ _);intro p hp;rw[rvd_len]at hp;rw[rvd_get _ _ _ hp,if_neg (by omega)]
 rw[show(xs.length:Int) - 1 - ((0:Nat):Int)=(xs.length:Int) - 1 by omega,e0]at key;exact key
abbrev P.i_nat_text_b0 (x1:List Int×List ByteArray×Unit) (g2:List Int×List ByteArray×Unit->Option (ByteArray×Unit)):Option (ByteArray×Unit):=
 if decide ((x1.1.length:Int)>0)then(S.i_nat_divSmall (x1.1,1000000000,())).bind fun y3=>(S.strconv_FormatUint (wrap .u64 y3.1.2,10,())).bind fun y4=>if decide ((y3.1.1.length:Int)>0)then(S.strings_Repeat (bs [48],wrap .i64 (9 - (y4.1.size:Int)),())).bind fun y5=>if decide ((y5.1.size+y4.1.size)<=9223372036854775807)then if decide (((x1.2.1.length+(List.length [y5.1++y4.1]))*16)<=140737488355328)then g2 (y3.1.1,x1.2.1++[y5.1++y4.1],())else none else none else if decide (((x1.2.1.length+(List.length [y4.1]))*16)<=140737488355328)then g2 (y3.1.1,x1.2.1++[y4.1],())else none else(S.slices_Reverse__string_string (x1.2.1,())).bind fun y6=>(S.strings_Join (splice x1.2.1 y6.2.1 0,bs [],())).bind fun y7=>some (y7.1,())
def P.i_nat_text (k:Nat) (x:List Int×Unit):Option (ByteArray×Unit):=
 if(x.1.length:Int)==0 then some (bs [48],())else loopP P.i_nat_text_b0 k (x.1,[],())
def mkB (l:List UInt8):ByteArray:=⟨l.toArray⟩
theorem join_empty (xs:List (List UInt8)):Go.Lib.join xs []=xs.flatten:=by
 cases xs with
 |nil=>rfl
 |cons x r=>
  rw[Go.Lib.join_cons,List.flatten_cons];congr 1;unfold Go.Lib.joinTail;simp
theorem it_loop (n:Nat):∀(acc:List ByteArray) (k:Nat),n<k->(nd B32 n).length<=40000000->acc.length+(textParts n).length<=1000000000->
  loopP P.i_nat_text_b0 k (nd B32 n,(acc,()))=Option.bind (S.slices_Reverse__string_string (acc++(textParts n).map mkB,())) (fun y6=>Option.bind (S.strings_Join (Go.Cm.splice (acc++(textParts n).map mkB) y6.2.1 0,(bs [],()))) (fun y7=>some (y7.1,()))):=by
 induction n using Nat.strongRecOn with
 |ind n ih=>
  intro acc k hk hl hacc;obtain⟨k,rfl⟩:∃j,k=j+1:=⟨k - 1,by omega⟩
  rw[loopP_succ];unfold P.i_nat_text_b0;dsimp only
  by_cases hn:n=0
  ·subst hn;rw[nd_zero B32_le,textParts_zero,if_neg (by simp),List.map_nil,List.append_nil]
  ·have hpos:((nd B32 n).length:Int)>0:=by
    rw[nd_pos B32_le hn,List.length_cons];omega
   rw[if_pos (decide_eq_true hpos)];have sd:S.i_nat_divSmall (nd B32 n,(1000000000,()))=some ((nd B32 (n/1000000000),((n%1000000000:Nat):Int)),()):=by
    unfold S.i_nat_divSmall;dsimp only;rw[if_pos ⟨dig_nd B32_le _,by omega,by omega,by omega⟩,dval_nd B32_le];rfl
   rw[sd,Option.bind_some];dsimp only;have hm:n%1000000000<1000000000:=Nat.mod_lt _ (by decide);have sf:S.strconv_FormatUint (IntKind.wrap .u64 ((n%1000000000:Nat):Int),(10,()))=some (mkB (Go.Lib.decDigits (n%1000000000)),()):=by
    rw[wu (by omega) (by omega)];unfold S.strconv_FormatUint;dsimp only;rw[if_pos ⟨rfl,by omega,by omega⟩,Int.toNat_natCast];rfl
   rw[sf,Option.bind_some];dsimp only;obtain⟨p1,p2⟩:=dec_pad 9 (n%1000000000) (by decide) (by rw[show(10:Nat)^9=1000000000 by decide];exact hm);have hsz:(mkB (Go.Lib.decDigits (n%1000000000))).size=(Go.Lib.decDigits (n%1000000000)).length:=ba_sz _;have hsh:(nd B32 (n/1000000000)).length<=40000000:=by
    refine Nat.le_trans ?_ hl;rw[nd_len B32_le];exact Nat.lt_of_le_of_lt (Nat.div_le_self _ _) ((nd_len B32_le n _).1 (Nat.le_refl _))
   by_cases h1:n/1000000000=0
   ·rw[textParts_one hn h1,List.length_singleton]at hacc;have hmn:n%1000000000=n:=by omega
    have hc:(acc.length+ [mkB (Go.Lib.decDigits n)].length)*16<=140737488355328:=by
     rw[List.length_singleton];omega
    have hz:¬(((nd B32 0).length:Int)>0):=by rw[nd_zero B32_le];simp
    have hi:=ih 0 (by omega) (acc++[mkB (Go.Lib.decDigits n)]) k (by omega) (by rw[nd_zero B32_le];simp) (by rw[textParts_zero];simp;omega);rw[h1,hmn,if_neg (by simpa using hz),if_pos (decide_eq_true hc),hi,textParts_zero,textParts_one hn h1,List.map_nil,List.append_nil];rfl
   ·rw[textParts_more h1,List.length_cons]at hacc;have hz:((nd B32 (n/1000000000)).length:Int)>0:=by
     rw[nd_pos B32_le h1,List.length_cons];omega
    have sr:S.strings_Repeat (bs [48],(IntKind.wrap .i64 (9 - (((mkB (Go.Lib.decDigits (n%1000000000))).size:Nat):Int)),()))=some (mkB (List.replicate (9 - (Go.Lib.decDigits (n%1000000000)).length) 48),()):=by
     rw[hsz,wr (by omega) (by omega)];unfold S.strings_Repeat;dsimp only;have h48:(bs [48]).data.toList=[48]:=rfl;rw[if_pos ⟨by omega,by omega,by decide⟩,h48,repeatL_one,show((9:Int) - ((Go.Lib.decDigits (n%1000000000)).length:Int)).toNat=9 - (Go.Lib.decDigits (n%1000000000)).length by omega];rfl
    rw[if_pos (decide_eq_true hz),sr,Option.bind_some];dsimp only;have hsum:(mkB (List.replicate (9 - (Go.Lib.decDigits (n%1000000000)).length) 48)).size+(mkB (Go.Lib.decDigits (n%1000000000))).size<=9223372036854775807:=by
     rw[hsz,show(mkB (List.replicate (9 - (Go.Lib.decDigits (n%1000000000)).length) 48)).size=_ from ba_sz _,List.length_replicate];omega
    have happ:mkB (List.replicate (9 - (Go.Lib.decDigits (n%1000000000)).length) 48)++mkB (Go.Lib.decDigits (n%1000000000))=mkB (decPad 9 (n%1000000000)):=by
     rw[<-p1];exact ba_app _ _
    have hc:(acc.length+ [mkB (decPad 9 (n%1000000000))].length)*16<=140737488355328:=by
     rw[List.length_singleton];omega
    have hi:=ih (n/1000000000) (by omega) (acc++[mkB (decPad 9 (n%1000000000))]) k (by omega) hsh (by simp;omega);rw[if_pos (decide_eq_true hsum),happ,if_pos (decide_eq_true hc),hi,textParts_more h1,List.map_cons,List.append_assoc];rfl
def S.i_nat_text (x:((List Int)×Unit)):(Option (ByteArray×Unit)):=if canon B32 x.1=true/\x.1.length<=40000000 then some (⟨(Go.Lib.decDigits (dval B32 x.1)).toArray⟩,())else none
theorem S.i_nat_text_ok (x r) (h:S.i_nat_text x=some r):∃k,P.i_nat_text k x=some r:=by
 obtain⟨xs,u⟩:=x;unfold S.i_nat_text at h;dsimp only at h;split at h
 case isFalse=>cases h
 rename_i hc;obtain⟨ca,la⟩:=hc;cases h;refine⟨dval B32 xs+1,?_⟩;unfold P.i_nat_text;dsimp only
 by_cases he:xs=[]
 ·subst he;rw[if_pos (by rfl),show dval B32 []=0 from rfl,dec_small (by decide)];rfl
 ·have hpos:0<xs.length:=List.length_pos_iff.2 he;have h0:dval B32 xs≠0:=by
   intro q;have:=canon_eq ca;rw[q,nd_zero B32_le]at this;exact he this.symm
  have hb:dval B32 xs<B32^xs.length:=dval_lt (canon_dig ca);have hb2:dval B32 xs<(10^10)^xs.length:=Nat.lt_of_lt_of_le hb (Nat.pow_le_pow_left (by decide) _);rw[<-Nat.pow_mul]at hb2;have hlen:(Go.Lib.decDigits (dval B32 xs)).length<=10*xs.length:=dec_len (by omega) hb2;have hb3:dval B32 xs<B10^(2*xs.length):=by
   refine Nat.lt_of_lt_of_le hb ?_;rw[Nat.pow_mul];exact Nat.pow_le_pow_left (by decide) _
  have hparts:(textParts (dval B32 xs)).length<=2*xs.length:=by
   rw[textParts_len,nd_len B10_le];exact hb3
  rw[if_neg (by simp;exact he)];have key:=it_loop (dval B32 xs) [] (dval B32 xs+1) (by omega) (by rw[canon_eq ca];omega) (by simp;omega);rw[canon_eq ca,List.nil_append]at key;rw[key];have hall:=textParts_all h0;generalize textParts (dval B32 xs)=ps at*;unfold S.slices_Reverse__string_string S.strings_Join;dsimp only;have hj:joinB (Go.Cm.splice (ps.map mkB) (ps.map mkB).reverse 0) (bs [])=Go.Lib.decDigits (dval B32 xs):=by
   rw[splice_all (by simp)];unfold joinB;rw[show(bs []).data.toList=[]from rfl,join_empty,<-List.map_reverse,List.map_map];rw[show(fun x:ByteArray=>x.data.toList) ∘ mkB=id by funext l;simp [mkB],List.map_id];exact hall
  rw[if_pos (by simp;omega),Option.bind_some];dsimp only;rw[hj,if_pos ⟨by rw[splice_all (by simp)];simp;omega,by omega⟩,Option.bind_some]
def P.i_rat_text (k:Nat) (x:RB×Unit):Option ((ByteArray×Bool)×Unit):=
 (S.i_nat_text (x.1.2.1,())).bind fun y0=>(S.i_nat_text (x.1.2.2,())).bind fun y1=>if x.1.1 then if decide ((1+y0.1.size)<=9223372036854775807)then if ! ((ByteArray.toList y1.1)==(ByteArray.toList (bs [49])))then if decide ((1+y1.1.size)<=9223372036854775807)then if decide (((ByteArray.size ((bs [45])++y0.1))+(ByteArray.size ((bs [47])++y1.1)))<=9223372036854775807)then if decide ((y0.1.size:Int)<=200)then some ((((bs [45])++y0.1)++((bs [47])++y1.1),decide ((y1.1.size:Int)<=200)),())else some ((((bs [45])++y0.1)++((bs [47])++y1.1),false),())else none else none else if decide ((y0.1.size:Int)<=200)then some (((bs [45])++y0.1,decide ((y1.1.size:Int)<=200)),())else some (((bs [45])++y0.1,false),())else none else if ! ((ByteArray.toList y1.1)==(ByteArray.toList (bs [49])))then if decide ((1+y1.1.size)<=9223372036854775807)then if decide ((y0.1.size+(ByteArray.size ((bs [47])++y1.1)))<=9223372036854775807)then if decide ((y0.1.size:Int)<=200)then some ((y0.1++((bs [47])++y1.1),decide ((y1.1.size:Int)<=200)),())else some ((y0.1++((bs [47])++y1.1),false),())else none else none else if decide ((y0.1.size:Int)<=200)then some ((y0.1,decide ((y1.1.size:Int)<=200)),())else some ((y0.1,false),())
def S.i_rat_text (x:(RB×Unit)):(Option ((ByteArray×Bool)×Unit)):=if rok B32 40000000 x.1=true then some ((⟨(ratTx (rv B32 x.1)).toArray⟩,fitN (rv B32 x.1)),())else none
theorem S.i_rat_text_ok (x r) (h:S.i_rat_text x=some r):∃k,P.i_rat_text k x=some r:=by
 obtain⟨⟨neg,as,bs'⟩,u⟩:=x;unfold S.i_rat_text at h;dsimp only at h;split at h
 case isFalse=>cases h
 rename_i hc;rw[rok_iff]at hc;obtain⟨ca,cb,la,lb⟩:=hc;dsimp only at ca cb la lb;cases h;refine⟨0,?_⟩;unfold P.i_rat_text;dsimp only;have e1:∀xs,canon B32 xs=true->xs.length<=40000000->S.i_nat_text (xs,())=some (⟨(Go.Lib.decDigits (dval B32 xs)).toArray⟩,()):=by
  intro xs cx lx;unfold S.i_nat_text;exact if_pos ⟨cx,lx⟩
 rw[e1 as ca la,Option.bind_some,e1 bs' cb lb,Option.bind_some];dsimp only;have l1:=canon_dec (show B32<=10^10 by decide) ca;have l2:=canon_dec (show B32<=10^10 by decide) cb;unfold rv ratTx fitN;dsimp only;have hd1:=dec_one (dval B32 bs');generalize Go.Lib.decDigits (dval B32 as)=t1 at*;generalize Go.Lib.decDigits (dval B32 bs')=t2 at*;rw[ByteArray.toList_eq,ByteArray.toList_eq,show bs [49]=⟨([49]:List UInt8).toArray⟩from rfl,show bs [45]=⟨([45]:List UInt8).toArray⟩from rfl,show bs [47]=⟨([47]:List UInt8).toArray⟩from rfl];rw[ba_app,ba_app,ba_app,ba_app,ba_sz,ba_sz,ba_sz,ba_sz];have c1:(1+t1.length<=9223372036854775807):=by omega
 have c2:(1+t2.length<=9223372036854775807):=by omega
 have c3:([45]++t1).length+([47]++t2).length<=9223372036854775807:=by simp;omega
 have c4:t1.length+([47]++t2).length<=9223372036854775807:=by simp;omega
 simp only[c1,c2,c3,c4,decide_true,if_true];have d1:∀t:List UInt8,decide (((t.length:Nat):Int)<=200)=decide (t.length<=200):=by
  intro t;rw[decide_eq_decide];omega
 rw[d1,d1];have d2:((!(t2== [49]))=true)↔¬dval B32 bs'=1:=by
  rw[<-hd1];simp
 by_cases hq:dval B32 bs'=1
 ·have n2:¬((!(t2== [49]))=true):=by rw[d2];exact fun q=>q hq
  cases neg<;>simp only[n2,hq,if_true,if_false,Bool.false_eq_true,List.append_nil,List.nil_append]<;>cases decide (t1.length<=200)<;>simp
 ·have n2:((!(t2== [49]))=true):=d2.2 hq;cases neg<;>simp only[n2,hq,if_true,if_false,Bool.false_eq_true,List.nil_append]<;>cases decide (t1.length<=200)<;>simp
abbrev i_toldList.A:=Option ((List ByteArray×Bool)×Unit)
abbrev P.i_toldList_b0 (x1:Int×Int×List RB×List ByteArray×Unit) (g2:Int×Int×List RB×List ByteArray×Unit->i_toldList.A):i_toldList.A:=
 if decide (x1.1<x1.2.1)then if decide (0<=x1.1)then if decide (x1.1<(x1.2.2.1.length:Int))then(S.i_rat_text (((x1.2.2.1.getD x1.1.toNat (false,[],[])).1,(x1.2.2.1.getD x1.1.toNat (false,[],[])).2.1,(x1.2.2.1.getD x1.1.toNat (false,[],[])).2.2),())).bind fun y3=>if !y3.1.2 then some (([],false),())else if decide (((x1.2.2.2.1.length+(List.length [y3.1.1]))*16)<=140737488355328)then g2 (wrap .i64 (x1.1+1),x1.2.1,x1.2.2.1,x1.2.2.2.1++[y3.1.1],())else none else none else none else some ((x1.2.2.2.1,true),())
def P.i_toldList (k:Nat) (x:List RB×Unit):i_toldList.A:=
 loopP P.i_toldList_b0 k (0,(x.1.length:Int),x.1,[],())
def S.i_toldList (x:((List RB)×Unit)):(Option (((List ByteArray)×Bool)×Unit)):=if x.1.all (rok B32 40000000)=true/\x.1.length<=1000000 then some (giveL (x.1.map (rv B32)),())else none
theorem S.i_toldList_ok (x r) (h:S.i_toldList x=some r):∃k,P.i_toldList k x=some r:=by
 obtain⟨xs,u⟩:=x;unfold S.i_toldList at h;dsimp only at h;split at h
 case isFalse=>cases h
 rename_i hc;cases h;obtain⟨qs,rfl⟩:∃qs:List Q3,xs=qs.map (rp B32):=⟨xs.map (rv B32),by
  rw[List.map_map];have:∀ys:List (Bool×(List Int×List Int)),ys.all (rok B32 40000000)=true->ys.map (rp B32 ∘ rv B32)=ys:=by
   intro ys
   induction ys with
   |nil=>intro _;rfl
   |cons y ys ih=>
    intro hy;rw[List.all_cons,Bool.and_eq_true]at hy;rw[List.map_cons,ih hy.2];show rp B32 (rv B32 y)::ys=_;rw[rp_rv hy.1]
  exact(this xs hc.1).symm⟩
 have hlen:=hc.2;rw[List.length_map]at hlen;refine⟨qs.length+1,?_⟩;unfold P.i_toldList giveL;dsimp only;have key:=loop_up0 (k:=qs.length+1) (b:=P.i_toldList_b0) (n:=qs.length) (st:=fun i=>((i:Int),(qs.length:Int),qs.map (rp B32),(qs.take i).map (fun r:Q3=>(⟨(ratTx r).toArray⟩:ByteArray)),())) (F:=fun i=>some (if(qs.drop i).all fitN=true then(qs.map (fun r:Q3=>(⟨(ratTx r).toArray⟩:ByteArray)),true)else([],false),())) (fun i g hi hg'=>by
  unfold P.i_toldList_b0;dsimp only at hg' ⊢;have e1:(i:Int)<(qs.length:Int):=by omega
  have e2:(0:Int)<=(i:Int):=by omega
  have e3:(i:Int)<((qs.map (rp B32)).length:Int):=by rw[List.length_map];omega
  simp only[e1,e2,e3,decide_true,if_true];rw[getD_cast (qs.map (rp B32)) i _ (by rw[List.length_map];exact hi),List.getElem_map];have ht:S.i_rat_text (rp B32 qs[i],())=some ((⟨(ratTx qs[i]).toArray⟩,fitN qs[i]),()):=by
   unfold S.i_rat_text;dsimp only;rw[if_pos (by have:=List.all_eq_true.1 hc.1 _ (List.mem_map.2 ⟨qs[i],List.getElem_mem hi,rfl⟩);exact this),rv_rp B32_le]
  show Option.bind (S.i_rat_text (rp B32 qs[i],())) _=_;rw[ht,Option.bind_some,List.drop_eq_getElem_cons hi,List.all_cons];dsimp only;cases hf:fitN qs[i]
  ·rw[if_pos (by decide),Bool.false_and,if_neg (by decide)]
  ·skip
   skip
   have e4:(((qs.take i).map (fun r:Q3=>(⟨(ratTx r).toArray⟩:ByteArray))).length+1)*16<=140737488355328:=by
    rw[List.length_map,List.length_take];omega
   rw[if_neg (by simp),wr (by omega) (by omega),Bool.true_and,<-hg'];simp only[List.length_cons,List.length_nil,Nat.zero_add];rw[if_pos (decide_eq_true e4),List.take_add_one,List.getElem?_eq_getElem hi,Option.toList_some,List.map_append];rfl) (fun g=>by
  unfold P.i_toldList_b0;dsimp only;rw[if_neg (by simp),List.take_length,List.drop_length];rfl) (by omega)
 rw[map_rv B32_le,List.length_map];refine key.trans ?_;rw[List.drop_zero]
 by_cases ha:qs.all fitN=true
 ·rw[if_pos ha,if_pos ha];congr 3;refine List.map_congr_left fun r hr=> ?_
  unfold giveN;rw[if_pos (List.all_eq_true.1 ha r hr)]
 ·rw[if_neg ha,if_neg ha]
abbrev i_toldChain.A:=Int×Int×List (List RB)×List (List ByteArray)×List (List ByteArray×Nat)×Unit
abbrev i_toldChain.B:=Option (((List (List ByteArray×Nat)×Nat)×Bool)×Unit)
abbrev P.i_toldChain_b0 (x1:i_toldChain.A) (g2:i_toldChain.A->i_toldChain.B):i_toldChain.B:=
 if decide (x1.1<x1.2.1)then if decide (0<=x1.1)then if decide (x1.1<(x1.2.2.1.length:Int))then(S.i_toldList (x1.2.2.1.getD x1.1.toNat [],())).bind fun y3=>if !y3.1.2 then some (((([]:List (List ByteArray×Nat)),0),false),())else if decide ((((List.length (hd0 x1.2.2.2.2.1))+(List.length (hd0 [(y3.1.1,y3.1.1.length)])))*24)<=140737488355328)then if dup (List.map (fun(y4:Nat×Nat)=>y4.1) (joinH (List.length (in0 x1.2.2.2.2.1)) (hd0 x1.2.2.2.2.1) (hd0 [(y3.1.1,y3.1.1.length)])))then none else g2 (wrap .i64 (x1.1+1),x1.2.1,x1.2.2.1,x1.2.2.2.1,nrm (joinH (List.length (in0 x1.2.2.2.2.1)) (hd0 x1.2.2.2.2.1) (hd0 [(y3.1.1,y3.1.1.length)])) ((in0 x1.2.2.2.2.1)++[y3.1.1]),())else none else none else none else if dup (List.map (fun(y5:Nat×Nat)=>y5.1) (hd0 x1.2.2.2.2.1))then none else some (((nrm (hd0 x1.2.2.2.2.1) (in0 x1.2.2.2.2.1),List.length (hd0 x1.2.2.2.2.1)),true),())
def P.i_toldChain (k:Nat) (x:List (List RB)×Unit):i_toldChain.B:=
 loopP P.i_toldChain_b0 k (0,(x.1.length:Int),x.1,[],[],())
open Classical in
def S.i_toldChain (x:((List (List RB))×Unit)):(Option (((((List ((List ByteArray)×Nat))×Nat))×Bool)×Unit)):=if ∃M,okM M/\x.1=mp B32 M then some (ownW (giveM (mv B32 x.1)),())else none
theorem S.i_toldChain_ok (x r) (h:S.i_toldChain x=some r):∃k,P.i_toldChain k x=some r:=by
 obtain⟨m,u⟩:=x;unfold S.i_toldChain at h;dsimp only at h;split at h
 case isFalse=>cases h
 rename_i hc;obtain⟨M,hM,rfl⟩:=hc;cases h;rw[mv_mp (by decide)];have hn:=hM.1;refine⟨13,?_⟩;unfold P.i_toldChain;dsimp only;rw[mp_len];have key:=loop_up0 (k:=13) (b:=P.i_toldChain_b0) (n:=M.length) (st:=fun i=>((i:Int),(M.length:Int),mp B32 M,([]:List (List ByteArray)),(M.take i).map (fun r=>((giveL r).1,(giveL r).1.length)),())) (F:=fun i=>some (if((M.drop i).all fun r=>r.all fitN)=true then((M.map (fun r=>((giveL r).1,(giveL r).1.length)),M.length),true)else(([],0),false),())) (fun i g hi hg=>by
  unfold P.i_toldChain_b0;dsimp only at hg ⊢;have e1:(i:Int)<(M.length:Int):=by omega
  have e2:(0:Int)<=(i:Int):=by omega
  have hr:M.getD i []=M[i]:=by rw[List.getD_eq_getElem?_getD,List.getElem?_eq_getElem hi];rfl
  have hmi:=hM.2 M[i] (List.getElem_mem hi);have eg:S.i_toldList (M[i].map (rp B32),())=some (giveL M[i],()):=by
   unfold S.i_toldList;dsimp only;rw[if_pos ⟨okM_rok (by decide) hmi.2,by rw[List.length_map];omega⟩,map_rv B32_le]
  simp only[mp_len,Int.toNat_natCast,mp_at hi,hr,e1,e2,decide_true,if_true];rw[eg,Option.bind_some];dsimp only;rw[giveL_fit,List.drop_eq_getElem_cons hi,List.all_cons];cases hf:M[i].all fitN
  ·rw[if_pos (by decide),Bool.false_and,if_neg (by decide)]
  ·have e3:(((M.take i).map (fun r=>((giveL r).1,(giveL r).1.length))).length+1)*24<=140737488355328:=by
    rw[List.length_map,List.length_take];omega
   have e4:= @own_app ByteArray ((M.take i).map (fun r=>((giveL r).1,(giveL r).1.length))) (giveL M[i]).1 (giveL M[i]).1.length;rw[if_neg (by decide),Bool.true_and];simp only[hd0_length,List.length_cons,List.length_nil,Nat.zero_add,e3,e4.1,e4.2,decide_true,if_true,Bool.false_eq_true,if_false];rw[wr (by omega) (by omega)];rw[<-List.take_append_getElem hi,List.map_append]at hg;exact hg) (fun g=>by
  unfold P.i_toldChain_b0;dsimp only;rw[if_neg (by simp),hd0_dup,nrm_hd0,hd0_length,if_neg (by decide),List.take_length,List.length_map,List.drop_length];rfl) (by omega)
 refine Eq.trans ?_ (key.trans ?_)
 ·rfl
 ·rw[List.drop_zero];unfold giveM;split
  ·unfold ownW;dsimp only;rw[List.map_map,List.length_map];rfl
  ·rfl
def P.i_in (k:Nat) (x:Int×Int×Int×Unit):Option (Bool×Unit):=
 if decide (x.1>=x.2.1)then some (decide (x.1<=x.2.2.1),())else some (false,())
def S.i_in (x:(Int×(Int×(Int×Unit)))):(Option (Bool×Unit)):=P.i_in 0 x
theorem S.i_in_ok (x r) (h:S.i_in x=some r):∃k,P.i_in k x=some r:=⟨0,h⟩
abbrev P.slices_Index__int64_int64_b0 (x1:Int×Int×Int×List Int×Unit) (g2:Int×Int×Int×List Int×Unit->Option (Int×Unit)):Option (Int×Unit):=
 if decide (x1.1<x1.2.1)then if decide (0<=x1.1)then if decide (x1.1<(x1.2.2.2.1.length:Int))then if x1.2.2.1==(x1.2.2.2.1.getD x1.1.toNat 0)then some (x1.1,())else g2 (wrap .i64 (x1.1+1),x1.2.1,x1.2.2.1,x1.2.2.2.1,())else none else none else some ((-1:Int),())
def P.slices_Index__int64_int64 (k:Nat) (x:List Int×Int×Unit):Option (Int×Unit):=
 loopP P.slices_Index__int64_int64_b0 k (0,(x.1.length:Int),x.2.1,x.1,())
def fdI (n:Int):List Int->Nat->Int
 | [],_=> -1
 |x::xs,i=>if n=x then(i:Int)else fdI n xs (i+1)
theorem fdI_mem (n:Int):∀(xs:List Int) (i:Nat),fdI n xs i>=0↔n∈xs
 | [],i=>by simp [fdI]
 |x::xs,i=>by
  unfold fdI;split
  ·rename_i h;subst h;simp
  ·rename_i h;rw[fdI_mem n xs (i+1),List.mem_cons];exact⟨Or.inr,fun c=>c.resolve_left h⟩
def S.slices_Index__int64_int64 (x:((List Int)×(Int×Unit))):(Option (Int×Unit)):=if x.1.length<=1000000 then some (fdI x.2.1 x.1 0,())else none
theorem S.slices_Index__int64_int64_ok (x r) (h:S.slices_Index__int64_int64 x=some r):∃k,P.slices_Index__int64_int64 k x=some r:=by
 obtain⟨xs,n,u⟩:=x;unfold S.slices_Index__int64_int64 at h;dsimp only at h;split at h
 case isFalse=>cases h
 rename_i hc;cases h;refine⟨xs.length+1,?_⟩;unfold P.slices_Index__int64_int64;dsimp only;have key:=loop_up0 (k:=xs.length+1) (b:=P.slices_Index__int64_int64_b0) (n:=xs.length) (st:=fun i=>((i:Int),(xs.length:Int),n,xs,())) (F:=fun i=>some (fdI n (xs.drop i) i,())) (fun i g hi hg=>by
  unfold P.slices_Index__int64_int64_b0;dsimp only at hg ⊢;have e1:(i:Int)<(xs.length:Int):=by omega
  have e2:(0:Int)<=(i:Int):=by omega
  simp only[e1,e2,decide_true,if_true];rw[getD_cast xs i _ hi,List.drop_eq_getElem_cons hi,wr (by omega) (by omega),fdI]
  by_cases he:n=xs[i]
  ·rw[if_pos (by simp [he]),if_pos he]
  ·rw[if_neg (by simp [he]),if_neg he];exact hg) (fun g=>by
  unfold P.slices_Index__int64_int64_b0;dsimp only;rw[if_neg (by simp),List.drop_length];rfl) (by omega)
 rw[List.drop_zero]at key;exact key
def P.slices_Contains__int64_int64 (k:Nat) (x:List Int×Int×Unit):Option (Bool×Unit):=
 (S.slices_Index__int64_int64 (x.1,x.2.1,())).bind fun y0=>some (decide (y0.1>=0),())
def S.slices_Contains__int64_int64 (x:((List Int)×(Int×Unit))):(Option (Bool×Unit)):=P.slices_Contains__int64_int64 0 x
theorem S.slices_Contains__int64_int64_ok (x r) (h:S.slices_Contains__int64_int64 x=some r):∃k,P.slices_Contains__int64_int64 k x=some r:=⟨0,h⟩
abbrev P.i_partsOf_b4 (x5:Int×Int×List Int×Int×Int×Unit) (g6:Int×Int×List Int×Int×Int×Unit->Option (Int×Unit)):Option (Int×Unit):=
 if decide (x5.1<x5.2.1)then(S.slices_Contains__int64_int64 (x5.2.2.1,x5.1,())).bind fun y7=>if !y7.1 then some (0,())else g6 (wrap .i64 (x5.1+1),x5.2.1,x5.2.2.1,x5.2.2.2.1,x5.2.2.2.2.1,())else if(x5.2.2.1.length:Int) != x5.2.2.2.1 then some (0,())else some (wrap .i64 (x5.2.2.2.2.1+1),())
abbrev P.i_partsOf_b0 (k:Nat) (x1:Int×Int×List Int×Int×List Int×Int×Unit) (g2:Int×Int×List Int×Int×List Int×Int×Unit->Option (Int×Unit)):Option (Int×Unit):=
 (fun(a b d f:Int) (c e:List Int)=>if decide (a<b)then if decide (0<=a)then if decide (a<(c.length:Int))then(S.i_in (c.getD a.toNat 0,0,11,())).bind fun y3=>if !y3.1 then some (0,())else g2 (wrap .i64 (a+1),b,c,mnx true d (c.getD a.toNat 0),e,f,())else none else none else loopP P.i_partsOf_b4 k (0,wrap .i64 (d+1),e,f,d,())) x1.1 x1.2.1 x1.2.2.2.1 x1.2.2.2.2.2.1 x1.2.2.1 x1.2.2.2.2.1
def P.i_partsOf (k:Nat) (x:List Int×Int×Unit):Option (Int×Unit):=
 loopP (P.i_partsOf_b0 k) k (0,(x.1.length:Int),x.1,(-1:Int),x.1,x.2.1,())
theorem has_i (xs:List Int) (n:Int) (h:xs.length<=1000000):S.slices_Contains__int64_int64 (xs,n,())=some (decide (n∈xs),()):=by
 unfold S.slices_Contains__int64_int64 P.slices_Contains__int64_int64 S.slices_Index__int64_int64;dsimp only;rw[if_pos h,Option.bind_some];dsimp only;congr 2;rw[decide_eq_decide];exact fdI_mem n xs 0
theorem in_i (n:Int):S.i_in (n,0,11,())=some (inP n,()):=by
 unfold S.i_in P.i_in inP;dsimp only
 by_cases h:0<=n
 ·rw[if_pos (decide_eq_true h)];congr 2;rw[decide_eq_decide];exact⟨fun a=>⟨h,a⟩,fun a=>a.2⟩
 ·rw[if_neg (by simpa using h),decide_eq_false fun a=>h a.1]
def S.i_partsOf (x:((List Int)×(Int×Unit))):(Option (Int×Unit)):=if x.1.length<=1000000/\0<=x.2.1 then some ((pkN x.1 x.2.1.toNat:Int),())else none
theorem S.i_partsOf_ok (x r) (h:S.i_partsOf x=some r):∃k,P.i_partsOf k x=some r:=by
 obtain⟨ps,m,u⟩:=x;unfold S.i_partsOf at h;dsimp only at h;split at h
 case isFalse=>cases h
 rename_i hc;obtain⟨hl,hm⟩:=hc;cases h;obtain⟨n,rfl⟩:=Int.eq_ofNat_of_zero_le hm;rw[Int.toNat_natCast];refine⟨ps.length+13,?_⟩;have hmx:∀a b:Int,mnx true a b=if a<b then b else a:=fun a b=>rfl
 have lp2:∀top:Int, -1<=top->top<=11->loopP P.i_partsOf_b4 (ps.length+13) (0,wrap .i64 (top+1),ps,(n:Int),top,())=some (if hasAll ps (top+1).toNat=true/\ps.length=n then top+1 else 0,()):=by
  intro top h1 h2;obtain⟨t,ht⟩:=Int.eq_ofNat_of_zero_le (show 0<=top+1 by omega);have hw:wrap .i64 (top+1)=(t:Int):=by rw[wr (by omega) (by omega)];omega
  rw[hw,ht,Int.toNat_natCast];have key:=loop_up0 (k:=ps.length+13) (b:=P.i_partsOf_b4) (n:=t) (st:=fun i=>((i:Int),(t:Int),ps,(n:Int),top,())) (F:=fun i=>some (if(((List.range t).drop i).all fun k=>decide ((k:Int)∈ps))=true/\ps.length=n then(t:Int)else 0,())) (fun i g hi hg=>by
   unfold P.i_partsOf_b4;dsimp only at hg ⊢;rw[if_pos (decide_eq_true (by omega)),has_i ps _ hl,Option.bind_some];dsimp only;have hd:(List.range t).drop i=i::(List.range t).drop (i+1):=by
    rw[List.drop_eq_getElem_cons (by rw[List.length_range];exact hi),List.getElem_range]
   rw[hd,List.all_cons]
   by_cases he:(i:Int)∈ps
   ·rw[decide_eq_true he,if_neg (by decide),Bool.true_and,wr (by omega) (by omega)];exact hg
   ·rw[decide_eq_false he,if_pos (by decide),Bool.false_and,if_neg (by simp)]) (fun g=>by
   unfold P.i_partsOf_b4;dsimp only;have hd:(List.range t).drop t=[]:=List.drop_eq_nil_of_le (by rw[List.length_range];exact Nat.le_refl _);rw[if_neg (by simp),hd,hw]
   by_cases he:ps.length=n
   ·rw[if_neg (by simp [he]),if_pos ⟨rfl,he⟩]
   ·rw[if_pos (by simp;omega),if_neg fun c=>he c.2]) (by omega)
  rw[List.drop_zero]at key;exact key
 unfold P.i_partsOf;dsimp only;have key:=loop_up0 (k:=ps.length+13) (b:=P.i_partsOf_b0 (ps.length+13)) (n:=ps.length) (st:=fun i=>((i:Int),(ps.length:Int),ps,mxI (-1) (ps.take i),ps,(n:Int),())) (F:=fun i=>if(ps.drop i).all inP=true then loopP P.i_partsOf_b4 (ps.length+13) (0,wrap .i64 (mxI (-1) ps+1),ps,(n:Int),mxI (-1) ps,())else some (0,())) (fun i g hi hg=>by
  unfold P.i_partsOf_b0;dsimp only at hg ⊢;have e1:(i:Int)<(ps.length:Int):=by omega
  have e2:(0:Int)<=(i:Int):=by omega
  simp only[e1,e2,decide_true,if_true];rw[getD_cast ps i _ hi,in_i,Option.bind_some];dsimp only;rw[List.drop_eq_getElem_cons hi,List.all_cons];cases hp:inP ps[i]
  ·rw[if_pos (by decide),Bool.false_and,if_neg (by simp)]
  ·rw[if_neg (by decide),Bool.true_and,wr (by omega) (by omega),hmx,<-mxI_snoc,List.take_append_getElem hi];exact hg) (fun g=>by
  unfold P.i_partsOf_b0;dsimp only;rw[if_neg (by simp),List.drop_length,List.take_length];exact(if_pos rfl).symm) (by omega)
 rw[List.drop_zero]at key;refine key.trans ?_
 by_cases ha:ps.all inP=true
 ·obtain⟨b1,b2⟩:=mxI_bnd (m:= -1) ha (by decide);rw[if_pos ha,lp2 _ b1 b2];unfold pkN
  by_cases h0:ps=[]
  ·subst h0;have e1:(if hasAll [] (mxI (-1) []+1).toNat=true/\([]:List Int).length=n then mxI (-1) []+1 else 0)=0:=by split<;>rfl
   rw[e1,if_neg fun c=>absurd c.2.2 (by decide)];rfl
  ·rw[mxI_neg ha h0];obtain⟨c1,c2⟩:=mxI_bnd (m:=0) ha (by decide)
   by_cases hh:hasAll ps (mxI 0 ps+1).toNat=true/\ps.length=n
   ·rw[if_pos hh,if_pos ⟨hh.2,ha,hh.1⟩];congr 2;omega
   ·rw[if_neg hh,if_neg fun c=>hh ⟨c.2.2,c.1⟩];rfl
 ·rw[if_neg ha];unfold pkN;rw[if_neg fun c=>ha c.2.1];rfl
def P.i_sameRows11 (k:Nat) (x:RB×RB×Unit):Option (Bool×Unit):=
 (S.i_rat_cmp ((x.1.1,x.1.2.1,x.1.2.2),(x.2.1.1,x.2.1.2.1,x.2.1.2.2),())).bind fun y0=>some (y0.1==0,())
def S.i_sameRows11 (x:(RB×(RB×Unit))):(Option (Bool×Unit)):=P.i_sameRows11 0 x
theorem S.i_sameRows11_ok (x r) (h:S.i_sameRows11 x=some r):∃k,P.i_sameRows11 k x=some r:=⟨0,h⟩
abbrev P.slices_EqualFunc__i_rat__i_rat_i_rat_i_rat_b0 (x1:Int×Int×List RB×List RB×Unit×Unit) (g2:Int×Int×List RB×List RB×Unit×Unit->Option (Bool×Unit)):Option (Bool×Unit):=
 (fun(a b:Int) (c d:List RB)=>if decide (a<b)then if decide (0<=a)then if decide (a<(c.length:Int))then if decide (0<=a)then if decide (a<(d.length:Int))then(S.i_sameRows11 (((c.getD a.toNat (false,[],[])).1,(c.getD a.toNat (false,[],[])).2.1,(c.getD a.toNat (false,[],[])).2.2),((d.getD a.toNat (false,[],[])).1,(d.getD a.toNat (false,[],[])).2.1,(d.getD a.toNat (false,[],[])).2.2),())).bind fun y3=>if !y3.1 then some (false,())else g2 (wrap .i64 (a+1),b,c,d,(),())else none else none else none else none else some (true,())) x1.1 x1.2.1 x1.2.2.1 x1.2.2.2.1
def P.slices_EqualFunc__i_rat__i_rat_i_rat_i_rat (k:Nat) (x:List RB×List RB×Unit×Unit):Option (Bool×Unit):=
 if(x.1.length:Int) != (x.2.1.length:Int)then some (false,())else loopP P.slices_EqualFunc__i_rat__i_rat_i_rat_i_rat_b0 k (0,(x.1.length:Int),x.1,x.2.1,(),())
theorem same11 {a b:Q3} (ha:okq a) (hb:okq b):S.i_sameRows11 (((rp B32 a).1,(rp B32 a).2.1,(rp B32 a).2.2),((rp B32 b).1,(rp B32 b).2.1,(rp B32 b).2.2),())=some (decide (a=b),()):=by
 unfold S.i_sameRows11 P.i_sameRows11;dsimp only;have ec:S.i_rat_cmp (((rp B32 a).1,(rp B32 a).2.1,(rp B32 a).2.2),((rp B32 b).1,(rp B32 b).2.1,(rp B32 b).2.2),())=some (cmpZ a b,()):=ri_cmp ha.1 hb.1 ha.2 hb.2;rw[ec,Option.bind_some];congr 2;rw[Bool.eq_iff_iff,beq_iff_eq,decide_eq_true_eq];exact cmpZ_eq ha.1 hb.1
open Classical in
def S.slices_EqualFunc__i_rat__i_rat_i_rat_i_rat (x:((List RB)×((List RB)×(Unit×Unit)))):(Option (Bool×Unit)):=if ∃as bs:List Q3,x.1=as.map (rp B32)/\x.2.1=bs.map (rp B32)/\as.length<=1000/\bs.length<=1000/\(∀q∈as,okq q)/\(∀q∈bs,okq q)then some (decide (x.1.map (rv B32)=x.2.1.map (rv B32)),())else none
theorem S.slices_EqualFunc__i_rat__i_rat_i_rat_i_rat_ok (x r) (h:S.slices_EqualFunc__i_rat__i_rat_i_rat_i_rat x=some r):∃k,P.slices_EqualFunc__i_rat__i_rat_i_rat_i_rat k x=some r:=by
 obtain⟨xs,ys,u⟩:=x;unfold S.slices_EqualFunc__i_rat__i_rat_i_rat_i_rat at h;dsimp only at h;split at h
 case isFalse=>cases h
 rename_i hc;obtain⟨as,bs',rfl,rfl,hla,hlb,ha,hb⟩:=hc;rw[map_rv B32_le,map_rv B32_le]at h;cases h;refine⟨as.length+1,?_⟩;unfold P.slices_EqualFunc__i_rat__i_rat_i_rat_i_rat;dsimp only;rw[List.length_map,List.length_map]
 by_cases hl:as.length=bs'.length
 case neg=>
  rw[if_pos (by simp;omega),decide_eq_false (fun e=>hl (by rw[e]))]
 rw[if_neg (by simp;omega)];have key:=loop_up0 (k:=as.length+1) (b:=P.slices_EqualFunc__i_rat__i_rat_i_rat_i_rat_b0) (n:=as.length) (st:=fun i=>((i:Int),(as.length:Int),as.map (rp B32),bs'.map (rp B32),(),())) (F:=fun i=>some (decide (as.drop i=bs'.drop i),())) (fun i g hi hg=>by
  unfold P.slices_EqualFunc__i_rat__i_rat_i_rat_i_rat_b0;dsimp only at hg ⊢;have hi':i<bs'.length:=by omega
  have e1:(i:Int)<(as.length:Int):=by omega
  have e2:(0:Int)<=(i:Int):=by omega
  have e3:(i:Int)<(bs'.length:Int):=by omega
  have ga:(as.map (rp B32)).getD i (false,(([]:List Int),([]:List Int)))=rp B32 as[i]:=by
   rw[List.getD_eq_getElem?_getD,List.getElem?_map,List.getElem?_eq_getElem hi];rfl
  have gb:(bs'.map (rp B32)).getD i (false,(([]:List Int),([]:List Int)))=rp B32 bs'[i]:=by
   rw[List.getD_eq_getElem?_getD,List.getElem?_map,List.getElem?_eq_getElem hi'];rfl
  simp only[List.length_map,Int.toNat_natCast,e1,e2,e3,ga,gb,decide_true,if_true];rw[same11 (ha _ (List.getElem_mem hi)) (hb _ (List.getElem_mem hi')),Option.bind_some,drop_eq hi hi'];dsimp only;cases hq:decide (as[i]=bs'[i])
  ·rw[if_pos (by decide),Bool.false_and]
  ·rw[if_neg (by decide),Bool.true_and,wr (by omega) (by omega)];exact hg) (fun g=>by
  unfold P.slices_EqualFunc__i_rat__i_rat_i_rat_i_rat_b0;dsimp only;rw[if_neg (by simp),hl,List.drop_length,<-hl,List.drop_eq_nil_of_le (Nat.le_refl _)];rfl) (by omega)
 exact key
def P.i_sameRows1 (k:Nat) (x:List RB×List RB×Unit):Option (Bool×Unit):=
 (S.slices_EqualFunc__i_rat__i_rat_i_rat_i_rat (x.1,x.2.1,(),())).bind fun y0=>some (y0.1,())
def S.i_sameRows1 (x:((List RB)×((List RB)×Unit))):(Option (Bool×Unit)):=P.i_sameRows1 0 x
theorem S.i_sameRows1_ok (x r) (h:S.i_sameRows1 x=some r):∃k,P.i_sameRows1 k x=some r:=⟨0,h⟩
abbrev P.slices_EqualFunc___i_rat___i_rat__i_rat__i_rat_b0 (x1:Int×Int×List (List RB)×List (List RB)×Unit×Unit) (g2:Int×Int×List (List RB)×List (List RB)×Unit×Unit->Option (Bool×Unit)):Option (Bool×Unit):=
 if decide (x1.1<x1.2.1)then if decide (0<=x1.1)then if decide (x1.1<(x1.2.2.1.length:Int))then if decide (0<=x1.1)then if decide (x1.1<(x1.2.2.2.1.length:Int))then(S.i_sameRows1 (x1.2.2.1.getD x1.1.toNat [],x1.2.2.2.1.getD x1.1.toNat [],())).bind fun y3=>if !y3.1 then some (false,())else g2 (wrap .i64 (x1.1+1),x1.2.1,x1.2.2.1,x1.2.2.2.1,(),())else none else none else none else none else some (true,())
def P.slices_EqualFunc___i_rat___i_rat__i_rat__i_rat (k:Nat) (x:List (List RB)×List (List RB)×Unit×Unit):Option (Bool×Unit):=
 if(x.1.length:Int) != (x.2.1.length:Int)then some (false,())else loopP P.slices_EqualFunc___i_rat___i_rat__i_rat__i_rat_b0 k (0,(x.1.length:Int),x.1,x.2.1,(),())
open Classical in
def S.slices_EqualFunc___i_rat___i_rat__i_rat__i_rat (x:((List (List RB))×((List (List RB))×(Unit×Unit)))):(Option (Bool×Unit)):=if ∃M N,okM M/\okM N/\x.1=mp B32 M/\x.2.1=mp B32 N then some (decide (mv B32 x.1=mv B32 x.2.1),())else none
theorem S.slices_EqualFunc___i_rat___i_rat__i_rat__i_rat_ok (x r) (h:S.slices_EqualFunc___i_rat___i_rat__i_rat__i_rat x=some r):∃k,P.slices_EqualFunc___i_rat___i_rat__i_rat__i_rat k x=some r:=by
 obtain⟨xs,ys,u⟩:=x;unfold S.slices_EqualFunc___i_rat___i_rat__i_rat__i_rat at h;dsimp only at h;split at h
 case isFalse=>cases h
 rename_i hc;obtain⟨as,bs',ha,hb,rfl,rfl⟩:=hc;rw[mv_mp B32_le,mv_mp B32_le]at h;cases h;have hla:=ha.1;have hlb:=hb.1;refine⟨as.length+1,?_⟩;unfold P.slices_EqualFunc___i_rat___i_rat__i_rat__i_rat;dsimp only;rw[mp_len,mp_len]
 by_cases hl:as.length=bs'.length
 case neg=>
  rw[if_pos (by simp;omega),decide_eq_false (fun e=>hl (by rw[e]))]
 rw[if_neg (by simp;omega)];have key:=loop_up0 (k:=as.length+1) (b:=P.slices_EqualFunc___i_rat___i_rat__i_rat__i_rat_b0) (n:=as.length) (st:=fun i=>((i:Int),(as.length:Int),mp B32 as,mp B32 bs',(),())) (F:=fun i=>some (decide (as.drop i=bs'.drop i),())) (fun i g hi hg=>by
  unfold P.slices_EqualFunc___i_rat___i_rat__i_rat__i_rat_b0;dsimp only at hg ⊢;have hi':i<bs'.length:=by omega
  have e1:(i:Int)<(as.length:Int):=by omega
  have e2:(0:Int)<=(i:Int):=by omega
  have e3:(i:Int)<(bs'.length:Int):=by omega
  have ga:as.getD i []=as[i]:=by rw[List.getD_eq_getElem?_getD,List.getElem?_eq_getElem hi];rfl
  have gb:bs'.getD i []=bs'[i]:=by rw[List.getD_eq_getElem?_getD,List.getElem?_eq_getElem hi'];rfl
  have es:S.i_sameRows1 (as[i].map (rp B32),bs'[i].map (rp B32),())=some (decide (as[i]=bs'[i]),()):=by
   unfold S.i_sameRows1 P.i_sameRows1 S.slices_EqualFunc__i_rat__i_rat_i_rat_i_rat;dsimp only;obtain⟨a1,a2⟩:=ha.2 _ (List.getElem_mem hi);obtain⟨b1,b2⟩:=hb.2 _ (List.getElem_mem hi');rw[if_pos ⟨_,_,rfl,rfl,by omega,by omega,a2,b2⟩,map_rv B32_le,map_rv B32_le,Option.bind_some]
  simp only[mp_len,mp_at hi,mp_at hi',Int.toNat_natCast,e1,e2,e3,ga,gb,decide_true,if_true];rw[es,Option.bind_some,drop_eq hi hi'];dsimp only;cases hq:decide (as[i]=bs'[i])
  ·rw[if_pos (by decide),Bool.false_and]
  ·rw[if_neg (by decide),Bool.true_and,wr (by omega) (by omega)];exact hg) (fun g=>by
  unfold P.slices_EqualFunc___i_rat___i_rat__i_rat__i_rat_b0;dsimp only;rw[if_neg (by simp),hl,List.drop_length,<-hl,List.drop_eq_nil_of_le (Nat.le_refl _)];rfl) (by omega)
 exact key
def P.i_sameRows (k:Nat) (x:List (List RB)×List (List RB)×Unit):Option (Bool×Unit):=
 (S.slices_EqualFunc___i_rat___i_rat__i_rat__i_rat (x.1,x.2.1,(),())).bind fun y0=>some (y0.1,())
def S.i_sameRows (x:((List (List RB))×((List (List RB))×Unit))):(Option (Bool×Unit)):=P.i_sameRows 0 x
theorem S.i_sameRows_ok (x r) (h:S.i_sameRows x=some r):∃k,P.i_sameRows k x=some r:=⟨0,h⟩
abbrev i_LumpChain.A:=Int×Int×List RB×List RB×List Int×Int×List (List RB×Nat)×List (List ByteArray)×Int×Int×List (List RB)×Unit
abbrev i_LumpChain.B:=Int×Int×List (List RB×Nat)×List (List RB)×List Int×List (List ByteArray)×Unit
abbrev i_LumpChain.C:=Option (((List (List ByteArray×Nat)×Nat)×Bool)×Unit)
abbrev P.i_LumpChain_b10 (g6:i_LumpChain.B->i_LumpChain.C) (x11:i_LumpChain.A) (g12:i_LumpChain.A->i_LumpChain.C):i_LumpChain.C:=
 (fun(a b f j l:Int) (c d:List RB) (e:List Int) (h:List (List RB×Nat)) (i:List (List ByteArray)) (m:List (List RB))=>if decide (a<b)then if decide (0<=a)then if decide (a<(c.length:Int))then if decide (0<=a)then if decide (a<(e.length:Int))then if decide (0<=a)then if decide (a<(e.length:Int))then if decide (0<=(e.getD a.toNat 0))then if decide ((e.getD a.toNat 0)<(d.length:Int))then(S.i_rat_add (((d.getD (0+(Int.toNat (e.getD a.toNat 0))) (false,[],[])).1,(d.getD (0+(Int.toNat (e.getD a.toNat 0))) (false,[],[])).2.1,(d.getD (0+(Int.toNat (e.getD a.toNat 0))) (false,[],[])).2.2),((c.getD a.toNat (false,[],[])).1,(c.getD a.toNat (false,[],[])).2.1,(c.getD a.toNat (false,[],[])).2.2),())).bind fun y13=>if decide (0<=(e.getD a.toNat 0))then if decide ((e.getD a.toNat 0)<(d.length:Int))then if dup (List.map (fun(y14:Nat×Nat)=>y14.1) (hd0 h))then none else g12 (wrap .i64 (a+1),b,c,d.set (0+(Int.toNat (e.getD a.toNat 0))) (y13.1.1,y13.1.2.1,y13.1.2.2),e,f,nrm (hd0 h) (in0 h),i,j,l,m,())else none else none else none else none else none else none else none else none else none else none else if decide (0<=f)then if decide (f<(e.length:Int))then if decide (0<=(e.getD f.toNat 0))then if decide ((e.getD f.toNat 0)<(List.length (hd0 h):Int))then if decide ((List.length (List.getD (in0 h) (List.getD (hd0 h) (0+(Int.toNat (e.getD f.toNat 0))) (0,0)).1 []))=0)then if decide (0<=(e.getD f.toNat 0))then if decide ((e.getD f.toNat 0)<(List.length (hd0 h):Int))then if decide (d.length=0)then none else if dup (List.map (fun(y15:Nat×Nat)=>y15.1) (List.set (hd0 h) (0+(Int.toNat (e.getD f.toNat 0))) (List.length (in0 h),d.length)))then none else g6 (wrap .i64 (j+1),l,nrm (List.set (hd0 h) (0+(Int.toNat (e.getD f.toNat 0))) (List.length (in0 h),d.length)) ((in0 h)++[d]),m,e,i,())else none else none else if decide ((List.getD (hd0 h) (0+(Int.toNat (e.getD f.toNat 0))) (0,0)).2=0)then none else if decide (0<=(e.getD f.toNat 0))then if decide ((e.getD f.toNat 0)<(List.length (hd0 h):Int))then if decide ((List.length (List.getD (in0 h) (List.getD (hd0 h) (0+(Int.toNat (e.getD f.toNat 0))) (0,0)).1 []))=0)then(S.i_sameRows ([[]],[d],())).bind fun y16=>if !y16.1 then some (((([]:List (List ByteArray×Nat)),0),false),())else if decide (0<=(e.getD f.toNat 0))then if decide ((e.getD f.toNat 0)<(List.length (hd0 h):Int))then if decide (d.length=0)then none else if dup (List.map (fun(y17:Nat×Nat)=>y17.1) (List.set (hd0 h) (0+(Int.toNat (e.getD f.toNat 0))) (List.length (in0 h),d.length)))then none else g6 (wrap .i64 (j+1),l,nrm (List.set (hd0 h) (0+(Int.toNat (e.getD f.toNat 0))) (List.length (in0 h),d.length)) ((in0 h)++[d]),m,e,i,())else none else none else(S.i_sameRows ([List.map (fun(y18:Bool×List Int×List Int)=>y18) (seen (List.getD (in0 h) (List.getD (hd0 h) (0+(Int.toNat (e.getD f.toNat 0))) (0,0)).1 []) 0 (List.getD (hd0 h) (0+(Int.toNat (e.getD f.toNat 0))) (0,0)).2)],[d],())).bind fun y19=>if !y19.1 then some (((([]:List (List ByteArray×Nat)),0),false),())else if decide (0<=(e.getD f.toNat 0))then if decide ((e.getD f.toNat 0)<(List.length (hd0 h):Int))then if decide (d.length=0)then none else if dup (List.map (fun(y20:Nat×Nat)=>y20.1) (List.set (hd0 h) (0+(Int.toNat (e.getD f.toNat 0))) (List.length (in0 h),d.length)))then none else g6 (wrap .i64 (j+1),l,nrm (List.set (hd0 h) (0+(Int.toNat (e.getD f.toNat 0))) (List.length (in0 h),d.length)) ((in0 h)++[d]),m,e,i,())else none else none else none else none else none else none else none else none) x11.1 x11.2.1 x11.2.2.2.2.2.1 x11.2.2.2.2.2.2.2.2.1 x11.2.2.2.2.2.2.2.2.2.1 x11.2.2.1 x11.2.2.2.1 x11.2.2.2.2.1 x11.2.2.2.2.2.2.1 x11.2.2.2.2.2.2.2.1 x11.2.2.2.2.2.2.2.2.2.2.1
abbrev P.i_LumpChain_b4 (k:Nat) (x5:i_LumpChain.B) (g6:i_LumpChain.B->i_LumpChain.C):i_LumpChain.C:=
 if decide (x5.1<x5.2.1)then(S.i_whole (0,())).bind fun y7=>(S.slices_Repeat__i_rat_i_rat ([(y7.1.1,y7.1.2.1,y7.1.2.2)],(List.length (hd0 x5.2.2.1):Int),())).bind fun y8=>if decide (0<=x5.1)then if decide (x5.1<(x5.2.2.2.1.length:Int))then if dup (List.map (fun(y9:Nat×Nat)=>y9.1) (hd0 x5.2.2.1))then none else loopP (P.i_LumpChain_b10 g6) k (0,(List.length (x5.2.2.2.1.getD x5.1.toNat []):Int),x5.2.2.2.1.getD x5.1.toNat [],y8.1,x5.2.2.2.2.1,x5.1,nrm (hd0 x5.2.2.1) (in0 x5.2.2.1),x5.2.2.2.2.2.1,x5.1,x5.2.1,x5.2.2.2.1,())else none else none else(S.i_toldChain (List.map (fun(y21:List RB×Nat)=>List.map (fun(y22:Bool×List Int×List Int)=>y22) (List.take y21.2 y21.1)) (nrm (hd0 x5.2.2.1) (in0 x5.2.2.1)),())).bind fun y23=>if dup (List.map (fun(y24:Nat×Nat)=>y24.1) (hd0 y23.1.1.1))then none else some (((nrm (hd0 y23.1.1.1) (in0 y23.1.1.1),y23.1.1.2),y23.1.2),())
def P.i_LumpChain (k:Nat) (x:List (List ByteArray)×List Int×Unit):i_LumpChain.C:=
 (S.i_chainOf (x.1,())).bind fun y0=>if !y0.1.2 then some (((([]:List (List ByteArray×Nat)),0),false),())else(S.i_partsOf (x.2.1,(y0.1.1.length:Int),())).bind fun y1=>if y1.1==0 then some (((([]:List (List ByteArray×Nat)),0),false),())else(S.i_partsOf (x.2.1,(y0.1.1.length:Int),())).bind fun y2=>if decide (0<=y2.1)then if decide (y2.1<=y2.1)then if decide ((y2.1*24)<=281474976710656)then if dup (List.map (fun(y3:Nat×Nat)=>y3.1) (hd0 (List.replicate y2.1.toNat (([]:List RB),0))))then none else loopP (P.i_LumpChain_b4 k) k (0,(y0.1.1.length:Int),nrm (hd0 (List.replicate y2.1.toNat (([]:List RB),0))) (in0 (List.replicate y2.1.toNat (([]:List RB),0))),y0.1.1,x.2.1,[],())else none else none else none
theorem ilc_same {o r:List Q3} (h1:o.length<=12) (h2:r.length<=12) (k1:∀q∈o,okq q) (k2:∀q∈r,okq q):S.i_sameRows ([o.map (rp B32)],[r.map (rp B32)],())=some (decide (o=r),()):=by
 have m1:okM [o]:=⟨by simp,fun x hx=>by rw[List.mem_singleton]at hx;subst hx;exact⟨h1,k1⟩⟩
 have m2:okM [r]:=⟨by simp,fun x hx=>by rw[List.mem_singleton]at hx;subst hx;exact⟨h2,k2⟩⟩
 have e1: [o.map (rp B32)]=mp B32 [o]:=rfl;have e2: [r.map (rp B32)]=mp B32 [r]:=rfl;unfold S.i_sameRows P.i_sameRows S.slices_EqualFunc___i_rat___i_rat__i_rat__i_rat;dsimp only;rw[e1,e2,if_pos ⟨_,_,m1,m2,rfl,rfl⟩,mv_mp (by decide),mv_mp (by decide),Option.bind_some];dsimp only;congr 2;rw[decide_eq_decide];exact⟨fun e=>(List.cons.inj e).1,fun e=>by rw[e]⟩
theorem ilc_row {M:List (List Q3)} (hM:isCh M) {ps:List Int} {p:Nat} (hpk:p=pkN ps M.length) (h0:p≠0) {i:Nat} (hi:i<M.length) (g6:i_LumpChain.B->i_LumpChain.C) (F:i_LumpChain.C)
  (hg:g6 (((i+1:Nat):Int),(M.length:Int),lmO B32 M ps p (i+1),mp B32 M,ps,[],())=F):
  loopP (P.i_LumpChain_b10 g6) 13 (0,(M.length:Int),(mp B32 M).getD i [],(tab p fun z=>lmS M ps i z 0).map (rp B32),ps,(i:Int),lmO B32 M ps p i,[],(i:Int),(M.length:Int),mp B32 M,())=if stp M ps p i=true then F else some ((([],0),false),()):=by
 have hn12:M.length<=12:=hM.2.1.1;have hp12:p<=12:=by rw[hpk];exact pkN_le _ _
 have e4:∀q:Q3,((rp B32 q).1,(rp B32 q).2.1,(rp B32 q).2.2)=rp B32 q:=fun _=>rfl
 obtain⟨q1,q2,q3⟩:=pkN_prt (ps:=ps) (m:=M.length) (by rw[<-hpk];exact h0) hi;rw[<-hpk]at q3;exact loop_up0 (k:=13) (b:=P.i_LumpChain_b10 g6) (n:=M.length) (st:=fun j=>((j:Int),(M.length:Int),(mp B32 M).getD i [],(tab p fun z=>lmS M ps i z j).map (rp B32),ps,(i:Int),lmO B32 M ps p i,[],(i:Int),(M.length:Int),mp B32 M,())) (F:=fun _=>if stp M ps p i=true then F else some ((([],0),false),())) (fun j g hj hgj=>by
  unfold P.i_LumpChain_b10;dsimp only at hgj ⊢;obtain⟨r1,r2,r3⟩:=pkN_prt (ps:=ps) (m:=M.length) (by rw[<-hpk];exact h0) hj;rw[<-hpk]at r3;have e1:(j:Int)<(M.length:Int):=by omega
  have e2:(0:Int)<=(j:Int):=by omega
  have e3:(j:Int)<(ps.length:Int):=by omega
  have e5:(0:Int)<=(prt ps j:Int):=by omega
  have e6:(prt ps j:Int)<(p:Int):=by omega
  have hw:wrap .i64 ((j:Int)+1)=((j+1:Nat):Int):=by rw[wr (by omega) (by omega)];omega
  obtain⟨a1,a2⟩:=lmS_ok hM ps hi (prt ps j) j (by omega);obtain⟨c1,c2,_⟩:=ch_at hM hi hj;have ea:=ri_add a1 a2 c1 c2 (by omega) (by decide);have en:=om_num (B:=B32) (a:=fun z=>lmS M ps i z j) r3 (false,(([]:List Int),([]:List Int)));rw[hw];simp only[Int.toNat_natCast,Nat.zero_add,r2,e1,e2,e3,e5,e6,mq_wide hM.2.1 hi,mq_held hM.2.1 hi hj,List.length_map,tab_len,en,e4,ea,decide_true,if_true,Option.bind_some,hd0_dup,Bool.false_eq_true,if_false,nrm_hd0,tabm_set,lmS_upd];exact hgj) (fun g=>by
  unfold P.i_LumpChain_b10;dsimp only;have e1:(0:Int)<=(i:Int):=by omega
  have e2:(i:Int)<(ps.length:Int):=by omega
  have e3:(0:Int)<=(prt ps i:Int):=by omega
  have e5:(prt ps i:Int)<(p:Int):=by omega
  have e6:¬p=0:=h0;have hw:wrap .i64 ((i:Int)+1)=((i+1:Nat):Int):=by rw[wr (by omega) (by omega)];omega
  have hrow:(tab p fun z=>lmS M ps i z M.length)=lmR M ps p i:=rfl;have hst:=stp_iff M ps p i (by omega);rw[if_neg (by simp),hw,hrow];simp only[Int.toNat_natCast,Nat.zero_add,q2,e1,e2,e3,e5,hd0_length,lmO_len,lmO_hd q3,lmO_in q3,List.length_map,lmR_len,e6,decide_true,decide_false,if_true,Bool.false_eq_true,if_false,hd0_dup_set,nrm_store,lmO_set,List.map_id']
  by_cases he:lmF M ps p i (prt ps i)=[]
  ·rw[if_pos (hst.2 (.inl he)),he,List.length_nil,if_pos (by decide)];exact hg
  ·obtain⟨j0,hj0,_,hr⟩:=lmF_row he;have hl1:(lmF M ps p i (prt ps i)).length=p:=by rw[hr,lmR_len]
   have hok1:∀q∈lmF M ps p i (prt ps i),okq q:=by rw[hr];exact lmR_ok hM ps (by omega)
   generalize lmF M ps p i (prt ps i)=o at*;have hsn:seen (o.map (rp B32)) 0 p=o.map (rp B32):=by
    unfold seen;rw[List.drop_zero,List.take_of_length_le (by rw[List.length_map,hl1];exact Nat.le_refl _)]
   have hsm:=ilc_same (o:=o) (r:=lmR M ps p i) (by omega) (by rw[lmR_len];exact hp12) hok1 (lmR_ok hM ps hi);simp only[hl1,e6,decide_false,Bool.false_eq_true,if_false,hsn,hsm,Option.bind_some]
   by_cases hc:o=lmR M ps p i
   ·rw[if_pos (hst.2 (.inr hc)),decide_eq_true hc,if_neg (by decide)];exact hg
   ·rw[if_neg fun e=>hc ((hst.1 e).resolve_left he),decide_eq_false hc,if_pos (by decide)]) (by omega)
open Classical in
def S.i_LumpChain (x:((List (List ByteArray))×((List Int)×Unit))):(Option (((((List ((List ByteArray)×Nat))×Nat))×Bool)×Unit)):=if x.1.all okT=true/\x.2.1.length<=1000000 then some (ownW (lmT x.1 x.2.1),())else none
theorem S.i_LumpChain_ok (x r) (h:S.i_LumpChain x=some r):∃k,P.i_LumpChain k x=some r:=by
 obtain⟨u,ps,un⟩:=x;unfold S.i_LumpChain at h;dsimp only at h;split at h
 case isFalse=>cases h
 rename_i hc;obtain⟨hu,hps⟩:=hc;cases h;refine⟨13,?_⟩;have hp:S.i_chainOf (u,())=some ((mp B32 (chQ u).1,(chQ u).2),()):=by
  unfold S.i_chainOf;exact if_pos hu
 unfold P.i_LumpChain lmT lmB;dsimp only;rw[hp,Option.bind_some];dsimp only;cases hL:(chQ u).2
 ·rw[if_pos (by decide),Bool.false_and,if_neg (by decide)];rfl
 obtain⟨hM,_⟩:=chQ_ok hL;generalize (chQ u).1=M at*;have hn12:M.length<=12:=hM.2.1.1;have hn1:=hM.1;have hpa:S.i_partsOf (ps,((mp B32 M).length:Int),())=some ((pkN ps M.length:Int),()):=by
  unfold S.i_partsOf;dsimp only;rw[if_pos ⟨hps,by omega⟩,mp_len,Int.toNat_natCast]
 rw[if_neg (by decide),hpa,Option.bind_some,Bool.true_and,Option.bind_some];dsimp only;have hp12:=pkN_le ps M.length;generalize hpk:pkN ps M.length=p at*
 by_cases h0:p=0
 ·subst h0;rw[if_pos (by decide),if_neg (by simp)];rfl
 have e0:((p:Int)==0)=false:=by
  apply beq_false_of_ne;omega
 rw[e0,if_neg (by decide),if_pos (decide_eq_true (by omega)),if_pos (decide_eq_true (Int.le_refl _)),if_pos (decide_eq_true (by omega)),Int.toNat_natCast,mp_len,hd0_dup,if_neg (by decide),nrm_hd0,<-lmO_zero B32 M ps p];have key:=loop_up0 (k:=13) (b:=P.i_LumpChain_b4 13) (n:=M.length) (st:=fun i=>((i:Int),(M.length:Int),lmO B32 M ps p i,mp B32 M,ps,[],())) (F:=fun i=>if((List.range M.length).drop i).all (fun i=>stp M ps p i)=true then some (ownW (giveM (lmM M ps p)),())else some ((([],0),false),())) (fun i g hi hg=>by
  unfold P.i_LumpChain_b4;dsimp only at hg ⊢;have e1:(i:Int)<(M.length:Int):=by omega
  have e2:(0:Int)<=(i:Int):=by omega
  have e4:∀q:Q3,((rp B32 q).1,(rp B32 q).2.1,(rp B32 q).2.2)=rp B32 q:=fun _=>rfl
  have o2:S.i_whole (0,())=some (rp B32 zeroQ,()):=by rfl
  have hrp:S.slices_Repeat__i_rat_i_rat ([rp B32 zeroQ],(p:Int),())=some ((tab p fun z=>lmS M ps i z 0).map (rp B32),()):=by
   unfold S.slices_Repeat__i_rat_i_rat;dsimp only;rw[if_pos ⟨rfl,by omega,by omega⟩,Int.toNat_natCast,tab_map,tab_rep];rfl
  have hd:(List.range M.length).drop i=i::(List.range M.length).drop (i+1):=by
   rw[List.drop_eq_getElem_cons (by rw[List.length_range];exact hi),List.getElem_range]
  rw[hd,List.all_cons];simp only[Int.toNat_natCast,e1,e2,o2,e4,hrp,hd0_length,lmO_len,mp_len,mq_wide hM.2.1 hi,decide_true,if_true,Option.bind_some,hd0_dup,Bool.false_eq_true,if_false,nrm_hd0];refine Eq.trans (ilc_row hM hpk.symm h0 hi g _ hg) ?_;cases hs:stp M ps p i
  ·rw[if_neg (by decide),Bool.false_and,if_neg (by decide)]
  ·rw[if_pos rfl,Bool.true_and]) (fun g=>by
  unfold P.i_LumpChain_b4;dsimp only;have hv:(lmO B32 M ps p M.length).map (fun y=>(y.1.take y.2).map fun z=>z)=mp B32 (lmM M ps p):=by
   unfold lmO mp lmM;rw[tab_map,tab_map];apply tab_congr;intro k _;dsimp only;rw[List.take_of_length_le (by rw[List.length_map];exact Nat.le_refl _),List.map_id']
  have eT:S.i_toldChain (mp B32 (lmM M ps p),())=some (ownW (giveM (lmM M ps p)),()):=by
   unfold S.i_toldChain;dsimp only;rw[if_pos ⟨_,lmM_ok hM ps hp12,rfl⟩,mv_mp (by decide)]
  rw[if_neg (by simp),nrm_hd0,hv,eT,Option.bind_some];dsimp only;rw[hd0_dup,if_neg (by decide),nrm_hd0,List.drop_of_length_le (by rw[List.length_range];exact Nat.le_refl _)];rfl) (by omega)
 refine key.trans ?_;rw[List.drop_zero]
 by_cases hs:(List.range M.length).all (fun i=>stp M ps p i)=true
 ·rw[if_pos hs,if_pos (by rw[hs,decide_eq_true h0];rfl)]
 ·rw[if_neg hs,if_neg (by rw[Bool.and_eq_true];exact fun c=>hs c.2)];rfl
def P.l_FnExactLumpChain (k:Nat) (x:List (List ByteArray)×List Int×Unit):Option (Bool×Unit):=
 (S.l_szChain (x.1,wrap .i64 (1000000 - (x.2.1.length:Int)),())).bind fun y0=>if decide (y0.1<0)then some (true,())else(S.l_toChaino (x.1,false,())).bind fun y1=>(S.l_toInt64So (x.2.1,false,())).bind fun y2=>(S.s_LumpChain (List.map (fun(y3:List ByteArray×Nat)=>List.map (fun(y4:ByteArray)=>y4) (List.take y3.2 y3.1)) (seen (nrm (hd0 y1.1.1) (in0 y1.1.1)) 0 y1.1.2),seen y2.1.1 0 y2.1.2,())).bind fun y5=>(S.l_toChaino (x.1,false,())).bind fun y6=>(S.l_toInt64So (x.2.1,false,())).bind fun y7=>(S.i_LumpChain (List.map (fun(y8:List ByteArray×Nat)=>List.map (fun(y9:ByteArray)=>y9) (List.take y8.2 y8.1)) (seen (nrm (hd0 y6.1.1) (in0 y6.1.1)) 0 y6.1.2),seen y7.1.1 0 y7.1.2,())).bind fun y10=>(S.l_eqChain (List.map (fun(y11:List ByteArray×Nat)=>List.map (fun(y12:ByteArray)=>y12) (List.take y11.2 y11.1)) (seen (nrm (hd0 y10.1.1.1) (in0 y10.1.1.1)) 0 y10.1.1.2),List.map (fun(y13:List ByteArray×Nat)=>List.map (fun(y14:ByteArray)=>y14) (List.take y13.2 y13.1)) (seen (nrm (hd0 y5.1.1.1) (in0 y5.1.1.1)) 0 y5.1.1.2),())).bind fun y15=>if !y15.1 then some (false,())else if ! (y10.1.2==y5.1.2)then some (false,())else(S.l_toChaino (x.1,false,())).bind fun y16=>(S.l_intactChain ((List.drop 0 (nrm (hd0 y6.1.1) (in0 y6.1.1)),y6.1.2),(List.drop 0 (nrm (hd0 y16.1.1) (in0 y16.1.1)),y16.1.2),())).bind fun y17=>if !y17.1 then some (false,())else(S.l_toInt64So (x.2.1,false,())).bind fun y18=>(S.l_intactInt64S ((List.drop 0 y7.1.1,y7.1.2),(List.drop 0 y18.1.1,y18.1.2),())).bind fun y19=>if !y19.1 then some (false,())else if dup (List.map (fun(y20:Nat×Nat)=>y20.1) (seen (hd0 y6.1.1) 0 y6.1.2))then none else(fun(e0:Option (Bool×Unit))=>if decide (y6.1.2=(List.length (hd0 y6.1.1)))then e0 else e0) ((S.l_markChain (nrm (seen (hd0 y6.1.1) 0 y6.1.2) (in0 y6.1.1),101,())).bind fun y21=>(S.l_markInt64S (seen y7.1.1 0 y7.1.2,y21.1,())).bind fun y22=>if decide (y22.1<0)then some (false,())else(S.l_eqChain (List.map (fun(y23:List ByteArray×Nat)=>List.map (fun(y24:ByteArray)=>y24) (List.take y23.2 y23.1)) (seen (nrm (hd0 y10.1.1.1) (in0 y10.1.1.1)) 0 y10.1.1.2),List.map (fun(y25:List ByteArray×Nat)=>List.map (fun(y26:ByteArray)=>y26) (List.take y25.2 y25.1)) (seen (nrm (hd0 y5.1.1.1) (in0 y5.1.1.1)) 0 y5.1.1.2),())).bind fun y27=>if !y27.1 then some (false,())else if ! (y10.1.2==y5.1.2)then some (false,())else if dup (List.map (fun(y28:Nat×Nat)=>y28.1) (seen (hd0 y10.1.1.1) 0 y10.1.1.2))then none else if decide (y10.1.1.2=(List.length (hd0 y10.1.1.1)))then(S.l_markChain (nrm (seen (hd0 y10.1.1.1) 0 y10.1.1.2) (in0 y10.1.1.1),101,())).bind fun y29=>(S.l_heldChain (List.map (fun(y30:List ByteArray×Nat)=>List.map (fun(y31:ByteArray)=>y31) (List.take y30.2 y30.1)) (seen (nrm (hd0 y29.2.1) (in0 y29.2.1)) 0 y10.1.1.2),101,())).bind fun y32=>if decide (y32.1<0)then some (false,())else if y32.1 != y29.1 then some (false,())else(S.l_toChaino (x.1,true,())).bind fun y33=>(S.l_toInt64So (x.2.1,true,())).bind fun y34=>(S.i_LumpChain (List.map (fun(y35:List ByteArray×Nat)=>List.map (fun(y36:ByteArray)=>y36) (List.take y35.2 y35.1)) (seen (nrm (hd0 y33.1.1) (in0 y33.1.1)) 0 y33.1.2),seen y34.1.1 0 y34.1.2,())).bind fun y37=>(S.l_eqChain (List.map (fun(y38:List ByteArray×Nat)=>List.map (fun(y39:ByteArray)=>y39) (List.take y38.2 y38.1)) (seen (nrm (hd0 y37.1.1.1) (in0 y37.1.1.1)) 0 y37.1.1.2),List.map (fun(y40:List ByteArray×Nat)=>List.map (fun(y41:ByteArray)=>y41) (List.take y40.2 y40.1)) (seen (nrm (hd0 y5.1.1.1) (in0 y5.1.1.1)) 0 y5.1.1.2),())).bind fun y42=>if !y42.1 then some (false,())else if ! (y37.1.2==y5.1.2)then some (false,())else(S.l_heldChain (List.map (fun(y43:List ByteArray×Nat)=>List.map (fun(y44:ByteArray)=>y44) (List.take y43.2 y43.1)) (seen (nrm (hd0 y29.2.1) (in0 y29.2.1)) 0 y10.1.1.2),101,())).bind fun y45=>if decide (y45.1<0)then some (false,())else if y45.1 != y29.1 then some (false,())else some (true,())else(S.l_markChain (nrm (seen (hd0 y10.1.1.1) 0 y10.1.1.2) (in0 y10.1.1.1),101,())).bind fun y46=>none)
def S.l_FnExactLumpChain (x:((List (List ByteArray))×((List Int)×Unit))):(Option (Bool×Unit)):=P.l_FnExactLumpChain 0 x
theorem S.l_FnExactLumpChain_ok (x r) (h:S.l_FnExactLumpChain x=some r):∃k,P.l_FnExactLumpChain k x=some r:=⟨0,h⟩
end Go.Cm
end
