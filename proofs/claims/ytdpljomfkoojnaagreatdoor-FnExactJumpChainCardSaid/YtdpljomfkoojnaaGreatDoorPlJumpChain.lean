import Derived.Test.YtdpljomfkoojnaaGreatDoorPlJumpChainc
set_option linter.unusedVariables false
set_option maxRecDepth 100000
noncomputable section
namespace Go.Cm
open IntKind (wrap)
abbrev P.i_scaledm_b0 (x1:Int×Int×List RB×List RB×RB×Unit) (g2:Int×Int×List RB×List RB×RB×Unit->Option (List RB×List RB×Unit)):Option (List RB×List RB×Unit):=
 (fun(a b:Int) (c d:List RB) (e:RB)=>if decide (a<b)then if decide (0<=a)then if decide (a<(c.length:Int))then(S.i_rat_over (((c.getD (0+a.toNat) (false,[],[])).1,(c.getD (0+a.toNat) (false,[],[])).2.1,(c.getD (0+a.toNat) (false,[],[])).2.2),(e.1,e.2.1,e.2.2),())).bind fun y3=>if decide (((d.length+(List.length [(y3.1.1,y3.1.2.1,y3.1.2.2)]))*56)<=140737488355328)then g2 (wrap .i64 (a+1),b,c,d++[(y3.1.1,y3.1.2.1,y3.1.2.2)],(e.1,e.2.1,e.2.2),())else none else none else none else some (d,c,())) x1.1 x1.2.1 x1.2.2.1 x1.2.2.2.1 x1.2.2.2.2.1
def P.i_scaledm (k:Nat) (x:List RB×RB×Unit):Option (List RB×List RB×Unit):=
 loopP P.i_scaledm_b0 k (0,(x.1.length:Int),x.1,[],(x.2.1.1,x.2.1.2.1,x.2.1.2.2),())
theorem sclm_over {a b:Q3} (ha:okq a) (hb:okq b) (h0:b.2.1≠0):S.i_rat_over (rp B32 a,rp B32 b,())=some (rp B32 (overQ a b),()):=by
 unfold S.i_rat_over;dsimp only;rw[rv_rp B32_le,rv_rp B32_le,if_pos ⟨okq_low (by decide) ha,okq_low (by decide) hb,h0⟩]
open Classical in
def S.i_scaledm (x:((List RB)×(RB×Unit))):(Option ((List RB)×((List RB)×Unit))):=if ∃(qs:List Q3) (b:Q3),(∀q∈qs,okq q)/\qs.length<=300/\okq b/\b.2.1≠0/\x.1=qs.map (rp B32)/\x.2.1=rp B32 b then some ((x.1.map (rv B32)).map (fun q=>rp B32 (overQ q (rv B32 x.2.1))),(x.1,()))else none
theorem S.i_scaledm_ok (x r) (h:S.i_scaledm x=some r):∃k,P.i_scaledm k x=some r:=by
 obtain⟨xs,y,u⟩:=x;unfold S.i_scaledm at h;dsimp only at h;split at h
 case isFalse=>cases h
 rename_i hc;obtain⟨qs,b,hq,hl,hb,h0,rfl,rfl⟩:=hc;rw[map_rv B32_le,rv_rp B32_le]at h;cases h;refine⟨301,?_⟩;unfold P.i_scaledm;dsimp only;have e4:∀q:Q3,((rp B32 q).1,(rp B32 q).2.1,(rp B32 q).2.2)=rp B32 q:=fun _=>rfl
 simp only[e4,List.length_map];exact loop_up0 (k:=301) (b:=P.i_scaledm_b0) (n:=qs.length) (st:=fun i=>((i:Int),(qs.length:Int),qs.map (rp B32),(qs.take i).map (fun q=>rp B32 (overQ q b)),rp B32 b,())) (F:=fun _=>some (qs.map (fun q=>rp B32 (overQ q b)),(qs.map (rp B32),()))) (fun i g hi hg=>by
  unfold P.i_scaledm_b0;dsimp only at hg ⊢;have e1:(i:Int)<(qs.length:Int):=by omega
  have e2:(0:Int)<=(i:Int):=by omega
  have hlt:((qs.take i).map (fun q=>rp B32 (overQ q b))).length=i:=by rw[List.length_map,List.length_take];omega
  have e3:(i+1)*56<=140737488355328:=by omega
  have e8:(qs.map (rp B32)).getD i (false,(([]:List Int),([]:List Int)))=rp B32 qs[i]:=by
   rw[List.getD_eq_getElem?_getD,List.getElem?_map,List.getElem?_eq_getElem hi];rfl
  have hk:=hq _ (List.getElem_mem hi);have ht:(qs.take (i+1)).map (fun q=>rp B32 (overQ q b))=(qs.take i).map (fun q=>rp B32 (overQ q b))++[rp B32 (overQ qs[i] b)]:=by
   rw[<-List.take_append_getElem hi,List.map_append];rfl
  rw[ht]at hg;simp only[e4,Nat.zero_add,Int.toNat_natCast,List.length_map,e1,e2,e8,decide_true,if_true];rw[sclm_over hk hb h0,Option.bind_some];dsimp only;simp only[e4,List.length_cons,List.length_nil,Nat.zero_add];rw[List.length_take,Nat.min_eq_left (by omega),if_pos (decide_eq_true e3),wr (by omega) (by omega)];exact hg) (fun g=>by
  unfold P.i_scaledm_b0;dsimp only;rw[if_neg (by simp),List.take_length]) (by omega)
abbrev i_JumpChain.A:=Option (((List (List ByteArray×Nat)×Nat)×Bool)×Unit)
abbrev P.i_JumpChain_b4 (x5:Int×Int×List (List RB×Nat)×List (List ByteArray)×Unit) (g6:Int×Int×List (List RB×Nat)×List (List ByteArray)×Unit->i_JumpChain.A):i_JumpChain.A:=
 (fun(a b:Int) (c:List (List RB×Nat)) (d:List (List ByteArray))=>if decide (a<b)then if decide (0<=a)then if decide (a<(List.length (hd0 c):Int))then(S.i_summ (seen (List.getD (in0 c) (List.getD (hd0 c) (0+a.toNat) (0,0)).1 []) 0 (List.getD (hd0 c) (0+a.toNat) (0,0)).2,())).bind fun y7=>(S.i_scaledm (seen (List.getD (List.set (in0 c) (List.getD (hd0 c) (0+a.toNat) (0,0)).1 (splice (List.getD (in0 c) (List.getD (hd0 c) (0+a.toNat) (0,0)).1 []) y7.2.1 0)) (List.getD (hd0 c) (0+a.toNat) (0,0)).1 []) 0 (List.getD (hd0 c) (0+a.toNat) (0,0)).2,(y7.1.1,y7.1.2.1,y7.1.2.2),())).bind fun y8=>if decide (0<=a)then if decide (a<(List.length (hd0 c):Int))then if dup (List.map (fun(y9:Nat×Nat)=>y9.1) (List.set (hd0 c) (0+a.toNat) (List.length (List.set (List.set (in0 c) (List.getD (hd0 c) (0+a.toNat) (0,0)).1 (splice (List.getD (in0 c) (List.getD (hd0 c) (0+a.toNat) (0,0)).1 []) y7.2.1 0)) (List.getD (hd0 c) (0+a.toNat) (0,0)).1 (splice (List.getD (List.set (in0 c) (List.getD (hd0 c) (0+a.toNat) (0,0)).1 (splice (List.getD (in0 c) (List.getD (hd0 c) (0+a.toNat) (0,0)).1 []) y7.2.1 0)) (List.getD (hd0 c) (0+a.toNat) (0,0)).1 []) y8.2.1 0)),y8.1.length)))then none else g6 (wrap .i64 (a+1),b,nrm (List.set (hd0 c) (0+a.toNat) (List.length (List.set (List.set (in0 c) (List.getD (hd0 c) (0+a.toNat) (0,0)).1 (splice (List.getD (in0 c) (List.getD (hd0 c) (0+a.toNat) (0,0)).1 []) y7.2.1 0)) (List.getD (hd0 c) (0+a.toNat) (0,0)).1 (splice (List.getD (List.set (in0 c) (List.getD (hd0 c) (0+a.toNat) (0,0)).1 (splice (List.getD (in0 c) (List.getD (hd0 c) (0+a.toNat) (0,0)).1 []) y7.2.1 0)) (List.getD (hd0 c) (0+a.toNat) (0,0)).1 []) y8.2.1 0)),y8.1.length)) ((List.set (List.set (in0 c) (List.getD (hd0 c) (0+a.toNat) (0,0)).1 (splice (List.getD (in0 c) (List.getD (hd0 c) (0+a.toNat) (0,0)).1 []) y7.2.1 0)) (List.getD (hd0 c) (0+a.toNat) (0,0)).1 (splice (List.getD (List.set (in0 c) (List.getD (hd0 c) (0+a.toNat) (0,0)).1 (splice (List.getD (in0 c) (List.getD (hd0 c) (0+a.toNat) (0,0)).1 []) y7.2.1 0)) (List.getD (hd0 c) (0+a.toNat) (0,0)).1 []) y8.2.1 0))++[y8.1]),d,())else none else none else none else none else(S.i_toldChain (List.map (fun(y10:List RB×Nat)=>List.map (fun(y11:Bool×List Int×List Int)=>(y11.1,List.map (fun(y12:Int)=>y12) y11.2.1,List.map (fun(y13:Int)=>y13) y11.2.2)) (List.take y10.2 y10.1)) (nrm (hd0 c) (in0 c)),())).bind fun y14=>if dup (List.map (fun(y15:Nat×Nat)=>y15.1) (hd0 y14.1.1.1))then none else some (((nrm (hd0 y14.1.1.1) (in0 y14.1.1.1),y14.1.1.2),y14.1.2),())) x5.1 x5.2.1 x5.2.2.1 x5.2.2.2.1
def P.i_JumpChain (k:Nat) (x:(List ByteArray×List ByteArray)×Unit):i_JumpChain.A:=
 (S.i_lineOf ((x.1.1,x.1.2),())).bind fun y0=>if !y0.1.2 then some (((([]:List (List ByteArray×Nat)),0),false),())else(S.i_line_top ((y0.1.1.1,y0.1.1.2),())).bind fun y1=>if decide (y1.1>=12)then some (((([]:List (List ByteArray×Nat)),0),false),())else(S.i_line_rates ((y0.1.1.1,y0.1.1.2),())).bind fun y2=>if decide (y2.1.2=(List.length (hd0 y2.1.1)))then if decide (y2.1.2=(List.length (hd0 y2.1.1)))then if dup (List.map (fun(y3:Nat×Nat)=>y3.1) (hd0 y2.1.1))then none else loopP P.i_JumpChain_b4 k (0,((y2.1.2:Nat):Int),nrm (hd0 y2.1.1) (in0 y2.1.1),[],())else none else none
theorem ijc_same {B r c i:Nat} {f:Nat->Nat->Q3} (hi:i<r):(in0 (om B r c f)).set i ((tab c (f i)).map (rp B))=in0 (om B r c f):=by
 have h:=om_in (B:=B) (c:=c) (a:=f) hi;have hl:i<(in0 (om B r c f)).length:=by rw[in0_length,om_len];exact hi
 rw[List.getD_eq_getElem?_getD,List.getElem?_eq_getElem hl]at h;have h':(in0 (om B r c f))[i]=(tab c (f i)).map (rp B):=h;rw[<-h',List.set_getElem_self]
theorem ijc_seen {α:Type} (xs:List α) (n:Nat) (h:xs.length=n):seen xs 0 n=xs:=by
 subst h;unfold seen;rw[List.drop_zero,List.take_length]
theorem ijc_splice {α:Type} (xs:List α):splice xs xs 0=xs:=by
 unfold splice;simp
open Classical in
def S.i_JumpChain (x:(((List ByteArray)×(List ByteArray))×Unit)):(Option (((((List ((List ByteArray)×Nat))×Nat))×Bool)×Unit)):=if okT x.1.1=true/\okT x.1.2=true then some (jmT x.1.1 x.1.2,())else none
theorem S.i_JumpChain_ok (x r) (h:S.i_JumpChain x=some r):∃k,P.i_JumpChain k x=some r:=by
 obtain⟨⟨tu,td⟩,u⟩:=x;unfold S.i_JumpChain at h;dsimp only at h;split at h
 case isFalse=>cases h
 rename_i hc;cases h;refine⟨13,?_⟩;have hp:S.i_lineOf ((tu,td),())=some ((((lineQ tu td).1.1.map (rp B32),(lineQ tu td).1.2.map (rp B32)),(lineQ tu td).2),()):=by
  unfold S.i_lineOf;exact if_pos hc
 unfold P.i_JumpChain jmT jmB;dsimp only;rw[hp,Option.bind_some];dsimp only;cases hL:(lineQ tu td).2
 ·rw[if_pos (by decide),Bool.false_and,if_neg (by decide)]
 obtain⟨l1,l2,l3,l4,l5,l6,l7⟩:=lineQ_ok hL;have hu:rates (lineQ tu td).1.1:=by rw[l1];exact l2
 have hd:rates (lineQ tu td).1.2:=by rw[l1];exact l3
 have hl:(lineQ tu td).1.1.length=(lineQ tu td).1.2.length:=by rw[l1];show(rdAll tu).1.length=(rdAll td).1.length;omega
 have h0:0<(lineQ tu td).1.1.length:=by rw[l1];show 0<(rdAll tu).1.length;omega
 have h20:(lineQ tu td).1.1.length<=20:=by rw[l1];show(rdAll tu).1.length<=20;omega
 clear l1 l2 l3 l4 l5 l6 l7;generalize (lineQ tu td).1.1=us at*;generalize (lineQ tu td).1.2=ds at*;have ht:S.i_line_top ((us.map (rp B32),ds.map (rp B32)),())=some ((us.length:Int),()):=by
  unfold S.i_line_top P.i_line_top;dsimp only;rw[List.length_map]
 rw[if_neg (by decide),ht,Option.bind_some,Bool.true_and];dsimp only
 by_cases h12:us.length<12
 case neg=>
  rw[if_pos (decide_eq_true (show(us.length:Int)>=12 by omega)),if_neg (by simpa using h12)]
 have hr:S.i_line_rates ((us.map (rp B32),ds.map (rp B32)),())=some ((om B32 (us.length+1) (us.length+1) (rtI (fQ us) (fQ ds) us.length),us.length+1),()):=by
  unfold S.i_line_rates;dsimp only;rw[if_pos ⟨us,ds,hl,h12,rfl,rfl⟩,map_rv B32_le,map_rv B32_le,List.length_map]
 rw[if_neg (by simpa using(show ¬(us.length:Int)>=12 by omega)),hr,Option.bind_some,if_pos (decide_eq_true h12)];dsimp only;rw[hd0_length,om_len,if_pos (by simp),if_pos (by simp),hd0_dup,if_neg (by decide),nrm_hd0];exact loop_up0 (k:=13) (b:=P.i_JumpChain_b4) (n:=us.length+1) (st:=fun a=>((a:Int),((us.length+1:Nat):Int),om B32 (us.length+1) (us.length+1) (fun x=>if x<a then jA (fQ us) (fQ ds) us.length x else rtI (fQ us) (fQ ds) us.length x),[],())) (F:=fun _=>some (ownW (giveM (mat (us.length+1) (jA (fQ us) (fQ ds) us.length))),())) (fun a g ha hg=>by
  unfold P.i_JumpChain_b4;dsimp only at hg ⊢;obtain⟨k1,k2⟩:=jm_ok hu hd hl h12 (n:=a) (by omega);have k3:=jm_pos hu hd hl h0 h12 (n:=a) (by omega);have e1:(a:Int)<((us.length+1:Nat):Int):=by omega
  have e2:(0:Int)<=(a:Int):=by omega
  have hw1:wrap .i64 ((a:Int)+1)=((a+1:Nat):Int):=by rw[wr (by omega) (by omega)];omega
  have hf:(if a<a then jA (fQ us) (fQ ds) us.length a else rtI (fQ us) (fQ ds) us.length a)=rtI (fQ us) (fQ ds) us.length a:=if_neg (Nat.lt_irrefl a);have hin:=om_in (B:=B32) (c:=us.length+1) (a:=fun x=>if x<a then jA (fQ us) (fQ ds) us.length x else rtI (fQ us) (fQ ds) us.length x) ha;have hsm:=ijc_same (B:=B32) (c:=us.length+1) (f:=fun x=>if x<a then jA (fQ us) (fQ ds) us.length x else rtI (fQ us) (fQ ds) us.length x) ha;have hpt:=om_put (B:=B32) (c:=us.length+1) (f:=fun x=>if x<a then jA (fQ us) (fQ ds) us.length x else rtI (fQ us) (fQ ds) us.length x) (g:=jA (fQ us) (fQ ds) us.length a) ha;rw[hf]at hin hsm;have hfun:(fun x=>if x=a then jA (fQ us) (fQ ds) us.length a else if x<a then jA (fQ us) (fQ ds) us.length x else rtI (fQ us) (fQ ds) us.length x)=fun x=>if x<a+1 then jA (fQ us) (fQ ds) us.length x else rtI (fQ us) (fQ ds) us.length x:=by
   funext x
   by_cases q:x=a
   ·rw[if_pos q,if_pos (by omega),q]
   ·rw[if_neg q]
    by_cases q2:x<a
    ·rw[if_pos q2,if_pos (by omega)]
    ·rw[if_neg q2,if_neg (by omega)]
  rw[hfun]at hpt;have es:S.i_summ ((tab (us.length+1) (rtI (fQ us) (fQ ds) us.length a)).map (rp B32),())=some (rp B32 (sumQ (tab (us.length+1) (rtI (fQ us) (fQ ds) us.length a))),((tab (us.length+1) (rtI (fQ us) (fQ ds) us.length a)).map (rp B32),())):=by
   unfold S.i_summ;dsimp only
   rw[if_pos ⟨_,rfl,by rw[tab_len];omega,fun q hq=>by
    obtain⟨j,hj,rfl⟩:=tab_mem.1 hq;exact⟨(k1 j hj).1,below_mono (by decide) (k1 j hj).2⟩,fun i=>by
    have e:(tab (us.length+1) (rtI (fQ us) (fQ ds) us.length a)).take i=tab (min i (us.length+1)) (rtI (fQ us) (fQ ds) us.length a):=by
     unfold tab;rw[<-List.map_take,List.take_range]
    rw[e];have:=row_sum (n:=us.length+1) (min i (us.length+1)) (by omega) k1;refine⟨this.1,below_mono ?_ (sumQ_below 200 (min i (us.length+1)) _ (tab_len _ _) fun r hr=> ?_)⟩
    ·omega
    ·obtain⟨j,hj,rfl⟩:=tab_mem.1 hr;exact(k1 j (by omega)).2⟩,map_rv B32_le]
  have ec:S.i_scaledm ((tab (us.length+1) (rtI (fQ us) (fQ ds) us.length a)).map (rp B32),rp B32 (sumQ (tab (us.length+1) (rtI (fQ us) (fQ ds) us.length a))),())=some ((tab (us.length+1) (jA (fQ us) (fQ ds) us.length a)).map (rp B32),((tab (us.length+1) (rtI (fQ us) (fQ ds) us.length a)).map (rp B32),())):=by
   unfold S.i_scaledm;dsimp only;rw[if_pos ⟨_,_,fun q hq=>by
    obtain⟨j,hj,rfl⟩:=tab_mem.1 hq;exact okq_200 (k1 j hj),by rw[tab_len];omega,k2,k3,rfl,rfl⟩,map_rv B32_le,rv_rp B32_le,tab_map,tab_map,tab_map]
   rfl
  have e4:∀q:Q3,((rp B32 q).1,(rp B32 q).2.1,(rp B32 q).2.2)=rp B32 q:=fun _=>rfl
  have hsn:∀f:Nat->Q3,seen ((tab (us.length+1) f).map (rp B32)) 0 (us.length+1)=(tab (us.length+1) f).map (rp B32):=fun f=>ijc_seen _ _ (by rw[List.length_map,tab_len])
  rw[hw1];simp only[Int.toNat_natCast,Nat.zero_add,hd0_length,om_len,om_hd ha,hin,hsn,es,ijc_splice,hsm,e1,e2,e4,decide_true,if_true,Option.bind_some,ec,List.length_map,tab_len,in0_length]at hpt ⊢;rw[hpt.1,hpt.2];exact hg) (fun g=>by
  unfold P.i_JumpChain_b4;dsimp only;have hM:(om B32 (us.length+1) (us.length+1) fun x=>if x<us.length+1 then jA (fQ us) (fQ ds) us.length x else rtI (fQ us) (fQ ds) us.length x)=om B32 (us.length+1) (us.length+1) (jA (fQ us) (fQ ds) us.length):=om_congr fun i hi j _=>by rw[if_pos hi]
  have hok:okM (mat (us.length+1) (jA (fQ us) (fQ ds) us.length)):=okM_mat (by omega) fun i hi j hj=>by
   obtain⟨k1,k2⟩:=jm_ok hu hd hl h12 (n:=i) (by omega);have k3:=jm_pos hu hd hl h0 h12 (n:=i) (by omega);have kb:=sumQ_below 200 (us.length+1) (tab (us.length+1) (rtI (fQ us) (fQ ds) us.length i)) (tab_len _ _) fun r hr=>by
    obtain⟨j,hj,rfl⟩:=tab_mem.1 hr;exact(k1 j hj).2
   exact⟨overQ_low _ _ (k1 j hj).1 k2.1 k3,below_mono (show 200+((200+1)*(us.length+1)+1)<=350000000 by omega) (overQ_below (k1 j hj).2 kb)⟩
  have eT:S.i_toldChain (mp B32 (mat (us.length+1) (jA (fQ us) (fQ ds) us.length)),())=some (ownW (giveM (mat (us.length+1) (jA (fQ us) (fQ ds) us.length))),()):=by
   unfold S.i_toldChain;dsimp only;rw[if_pos ⟨_,hok,rfl⟩,mv_mp (by decide)]
  rw[if_neg (by simp),hM,nrm_hd0,om_view,eT,Option.bind_some];dsimp only;rw[hd0_dup,if_neg (by decide),nrm_hd0]) (by omega)
def P.l_FnExactJumpChain (k:Nat) (x:(List ByteArray×List ByteArray)×Unit):Option (Bool×Unit):=
 (S.l_szLine ((x.1.1,x.1.2),1000000,())).bind fun y0=>if decide (y0.1<0)then some (true,())else(S.l_toLineo ((x.1.1,x.1.2),false,())).bind fun y1=>(S.s_JumpChain ((seen y1.1.1.1 0 y1.1.1.2,seen y1.1.2.1 0 y1.1.2.2),())).bind fun y2=>(S.l_toLineo ((x.1.1,x.1.2),false,())).bind fun y3=>(S.i_JumpChain ((seen y3.1.1.1 0 y3.1.1.2,seen y3.1.2.1 0 y3.1.2.2),())).bind fun y4=>(S.l_eqChain (List.map (fun(y5:List ByteArray×Nat)=>List.map (fun(y6:ByteArray)=>y6) (List.take y5.2 y5.1)) (seen (nrm (hd0 y4.1.1.1) (in0 y4.1.1.1)) 0 y4.1.1.2),List.map (fun(y7:List ByteArray×Nat)=>List.map (fun(y8:ByteArray)=>y8) (List.take y7.2 y7.1)) (seen (nrm (hd0 y2.1.1.1) (in0 y2.1.1.1)) 0 y2.1.1.2),())).bind fun y9=>if !y9.1 then some (false,())else if ! (y4.1.2==y2.1.2)then some (false,())else(S.l_toLineo ((x.1.1,x.1.2),false,())).bind fun y10=>(S.l_intactLine (((List.drop 0 y3.1.1.1,y3.1.1.2),List.drop 0 y3.1.2.1,y3.1.2.2),((List.drop 0 y10.1.1.1,y10.1.1.2),List.drop 0 y10.1.2.1,y10.1.2.2),())).bind fun y11=>if !y11.1 then some (false,())else(S.l_markLine (seen y3.1.1.1 0 y3.1.1.2,seen y3.1.2.1 0 y3.1.2.2,101,())).bind fun y12=>if decide (y12.1<0)then some (false,())else(S.l_eqChain (List.map (fun(y13:List ByteArray×Nat)=>List.map (fun(y14:ByteArray)=>y14) (List.take y13.2 y13.1)) (seen (nrm (hd0 y4.1.1.1) (in0 y4.1.1.1)) 0 y4.1.1.2),List.map (fun(y15:List ByteArray×Nat)=>List.map (fun(y16:ByteArray)=>y16) (List.take y15.2 y15.1)) (seen (nrm (hd0 y2.1.1.1) (in0 y2.1.1.1)) 0 y2.1.1.2),())).bind fun y17=>if !y17.1 then some (false,())else if ! (y4.1.2==y2.1.2)then some (false,())else if dup (List.map (fun(y18:Nat×Nat)=>y18.1) (seen (hd0 y4.1.1.1) 0 y4.1.1.2))then none else if decide (y4.1.1.2=(List.length (hd0 y4.1.1.1)))then(S.l_markChain (nrm (seen (hd0 y4.1.1.1) 0 y4.1.1.2) (in0 y4.1.1.1),101,())).bind fun y19=>(S.l_heldChain (List.map (fun(y20:List ByteArray×Nat)=>List.map (fun(y21:ByteArray)=>y21) (List.take y20.2 y20.1)) (seen (nrm (hd0 y19.2.1) (in0 y19.2.1)) 0 y4.1.1.2),101,())).bind fun y22=>if decide (y22.1<0)then some (false,())else if y22.1 != y19.1 then some (false,())else(S.l_toLineo ((x.1.1,x.1.2),true,())).bind fun y23=>(S.i_JumpChain ((seen y23.1.1.1 0 y23.1.1.2,seen y23.1.2.1 0 y23.1.2.2),())).bind fun y24=>(S.l_eqChain (List.map (fun(y25:List ByteArray×Nat)=>List.map (fun(y26:ByteArray)=>y26) (List.take y25.2 y25.1)) (seen (nrm (hd0 y24.1.1.1) (in0 y24.1.1.1)) 0 y24.1.1.2),List.map (fun(y27:List ByteArray×Nat)=>List.map (fun(y28:ByteArray)=>y28) (List.take y27.2 y27.1)) (seen (nrm (hd0 y2.1.1.1) (in0 y2.1.1.1)) 0 y2.1.1.2),())).bind fun y29=>if !y29.1 then some (false,())else if ! (y24.1.2==y2.1.2)then some (false,())else(S.l_heldChain (List.map (fun(y30:List ByteArray×Nat)=>List.map (fun(y31:ByteArray)=>y31) (List.take y30.2 y30.1)) (seen (nrm (hd0 y19.2.1) (in0 y19.2.1)) 0 y4.1.1.2),101,())).bind fun y32=>if decide (y32.1<0)then some (false,())else if y32.1 != y19.1 then some (false,())else some (true,())else(S.l_markChain (nrm (seen (hd0 y4.1.1.1) 0 y4.1.1.2) (in0 y4.1.1.1),101,())).bind fun y33=>none
def S.l_FnExactJumpChain (x:(((List ByteArray)×(List ByteArray))×Unit)):(Option (Bool×Unit)):=P.l_FnExactJumpChain 0 x
theorem S.l_FnExactJumpChain_ok (x r) (h:S.l_FnExactJumpChain x=some r):∃k,P.l_FnExactJumpChain k x=some r:=⟨0,h⟩
end Go.Cm
end
