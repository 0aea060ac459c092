import Derived.Test.YtjacdajcppcdlaaGreatDoorPlHitChances
import Derived.Test.YtjacdajcppcdlaaGreatDoorCmXz
import Derived.Test.YtjacdajcppcdlaaGreatDoorCmZL
set_option linter.unusedVariables false
namespace Go.Cm
theorem okTT_of {xs:List (List ByteArray)} (h:Bd (.sl (.sl .str)) xs):okTT xs:=by
 obtain⟨h1,h2⟩:=h;have e:maxLen=9223372036854775807:=rfl;refine⟨by rw[<-e];exact h1,fun x hx=> ?_⟩;obtain⟨h3,h4⟩:=h2 x hx;exact⟨by rw[<-e];exact h3,fun y hy=>by rw[<-e];exact h4 y hy⟩
theorem szGo_okT:∀(xs:List ByteArray) (l:Int),l<=1000000->0<=szGo xs l->okT xs=true
 | [],_,_,_=>rfl
 |x::xs,l,h0,h=>by
  unfold szGo at h;split at h
  ·omega
  ·have:=szGo_okT xs (l - (x.size:Int)) (by omega) h;unfold okT at*;rw[List.all_cons,this,Bool.and_true];have h1:0<=l - (x.size:Int):=by omega
   exact decide_eq_true (by omega)
theorem szS_okT {xs:List ByteArray} {l:Int} (hl:l<=1000000) (h:0<=szS xs l):okT xs=true/\(xs.length:Int)<=l/\szS xs l<=l:=by
 unfold szS at*;split at h
 ·omega
 ·rename_i hn;rw[if_neg hn];have hs:=szGo_le xs (l - (xs.length:Int)) (by omega);exact⟨szGo_okT xs _ (by omega) h,by omega,by omega⟩
theorem sz2Go_okT:∀(xs:List (List ByteArray)) (l:Int),0<=l->l<=1000000->0<=sz2Go xs l->xs.all okT=true
 | [],_,_,_,_=>rfl
 |x::xs,l,h0,h1,h=>by
  simp only[sz2Go]at h;split at h
  ·omega
  ·rename_i hn;obtain⟨k1,k2,k3⟩:=szS_okT (xs:=x) h1 (by omega);rw[List.all_cons,k1,Bool.true_and];exact sz2Go_okT xs (szS x l) (by omega) (by omega) h
theorem mk2n_le:∀(u:List (List ByteArray)) (l:Int),0<=l->l<=1000000->0<=sz2Go u l->(mk2n (u.map (tos spare false)):Int)<=l
 | [],_,h0,_,_=>h0
 |x::xs,l,h0,h1,h=>by
  simp only[sz2Go]at h;split at h
  ·omega
  ·rename_i hn;have:=mk2n_le xs (szS x l) (by omega) (by have:=szS_le x l h0;omega) h;have a:szS x l<=l - (x.length:Int):=by
    unfold szS at hn ⊢;split at hn
    ·omega
    ·rename_i hq;rw[if_neg hq];exact(szGo_le x _ (by omega)).1
   rw[List.map_cons,mk2n];have e:seen (tos spare false x).1 0 (tos spare false x).2=x:=tos_take spare false x;rw[e];omega
theorem szChain_eq (u:List (List ByteArray)) (l:Int) (hu:okTT u) (h0:0<=l) (h1:l<=1000000):∃r,S.l_szChain (u,l,())=some (r,())/\r<=l/\(0<=r->okRS u/\u.all okT=true/\mk2n (u.map (tos spare false))<=1000000):=by
 unfold S.l_szChain P.l_szChain;dsimp only;have e:S.l_szStringSS (u,l,())=some (sz2 u l,()):=by
  unfold S.l_szStringSS;rw[if_pos ⟨hu,h1, .inl h0⟩]
 obtain⟨a,b,c⟩:=sz2_le u l h0;rw[e,Option.bind_some]
 by_cases hn:sz2 u l<0
 ·exact⟨-1,by simp [hn],by omega,by omega⟩
 ·refine⟨sz2 u l,by simp [hn],by omega,fun h=> ?_⟩;obtain⟨c1,c2⟩:=c h;refine⟨⟨by omega,fun x hx=>by have:=c2 x hx;omega⟩,?_⟩;unfold sz2 at h;split at h
  ·omega
  ·have:=mk2n_le u _ (by omega) (by omega) h;exact⟨sz2Go_okT u _ (by omega) (by omega) h,by omega⟩
theorem intactChain_eq (u:List (List ByteArray)) (hu:okRS u):S.l_intactChain (((tos2 false u).1,(tos2 false u).2),((tos2 false u).1,(tos2 false u).2),())=some (true,()):=by
 unfold S.l_intactChain P.l_intactChain;dsimp only;have e:S.l_intactStringSS (((tos2 false u).1,(tos2 false u).2),((tos2 false u).1,(tos2 false u).2),())=some (true,()):=by
  unfold S.l_intactStringSS;rw[if_pos ⟨u,hu,rfl⟩]
 rw[e];rfl
theorem toChaino_eq (u:List (List ByteArray)) (b:Bool) (hu:okRS u):S.l_toChaino (u,b,())=some (tos2 b u,()):=by
 unfold S.l_toChaino P.l_toChaino S.l_toStringSSo S.l_toStringSS;dsimp only;rw[if_pos hu,Option.bind_some];simp only[hd0_dup,nrm_hd0,Bool.false_eq_true,if_false]
theorem splice_own {α:Type} (xs ys:List α) (h:ys.length=xs.length):splice xs ys 0=ys:=by
 unfold splice;simp [h]
theorem eqS_refl (xs:List ByteArray) (h:xs.length<=1000000):S.l_eqStringS (xs,(xs,()))=some (true,()):=by
 unfold S.l_eqStringS;dsimp only;rw[if_pos (by omega),eqTexts_refl]
theorem mkS (xs:List ByteArray) (q:Int) (h0:0<=q) (hq:q<=10000000) (h:xs.length<=1000000):S.l_markStringS (xs,(q,()))=some (q+(xs.length:Int),(marks q xs.length,())):=by
 unfold S.l_markStringS;dsimp only;rw[if_pos ⟨by omega,by omega,by omega⟩]
theorem hdS (n:Nat) (q:Int) (h0:0<=q) (hq:q<=10000000) (h:n<=1000000):S.l_heldStringS (marks q n,(q,()))=some (q+(n:Int),()):=by
 unfold S.l_heldStringS;dsimp only;rw[marks_len,if_pos ⟨by omega,by omega,by omega,rfl⟩]
theorem parse_s (u:List (List ByteArray)) (hu:u.all okT=true):S.s_l03Parse (u,())=some ((mp B10 (chQ u).1,(chQ u).2),()):=by
 unfold S.s_l03Parse;exact if_pos hu
theorem parse_i (u:List (List ByteArray)) (hu:u.all okT=true):S.i_chainOf (u,())=some ((mp B32 (chQ u).1,(chQ u).2),()):=by
 unfold S.i_chainOf;exact if_pos hu
theorem markChain_eq2 (u:List (List ByteArray)) (hm:mk2n (u.map (tos spare false))<=1000000) (hu:okRS u):∃r,S.l_markChain ((tos2 false u).1.take (tos2 false u).2,101,())=some r/\101<=r.1/\r.1<=1000101:=by
 have e:(tos2 false u).1.take (tos2 false u).2=u.map (tos spare false):=by
  rw[tos2_false];simp
 rw[e];unfold S.l_markChain P.l_markChain S.l_markStringSS;dsimp only;simp only[hd0_dup,nrm_hd0,Bool.false_eq_true,if_false];rw[if_pos ⟨by decide,by decide,by omega,by rw[List.length_map];exact Nat.le_trans hu.1 (by decide)⟩,Option.bind_some];refine⟨_,rfl,?_⟩;constructor
 ·show(101:Int)<=101+_;omega
 ·show 101+((mk2n (u.map (tos spare false)):Nat):Int)<=1000101;omega
theorem szChain_neg (u:List (List ByteArray)) (l:Int) (hu:okTT u) (h0:l<0) (h1: -1000000000000000<=l) (hl:u.length<=1000000000000000):S.l_szChain (u,l,())=some (-1,()):=by
 unfold S.l_szChain P.l_szChain;dsimp only;have e:S.l_szStringSS (u,l,())=some (sz2 u l,()):=by
  unfold S.l_szStringSS;rw[if_pos ⟨hu,(show l<=1000000 by omega), .inr ⟨h1,hl⟩⟩]
 have e2:sz2 u l= -1:=by
  unfold sz2;rw[if_pos (by omega)]
 rw[e,Option.bind_some,e2];rfl
theorem tosI_seen {xs:List Int} (b:Bool):seen (tos fillJ b xs).1 0 (tos fillJ b xs).2=xs:=by
 unfold seen;rw[List.drop_zero,tos_take]
theorem toInt_eq (xs:List Int) (b:Bool) (h:xs.length<=1000000):S.l_toInt64So (xs,b,())=some (tos fillJ b xs,()):=by
 unfold S.l_toInt64So;exact if_pos h
theorem mkI (xs:List Int) (q:Int) (h0:0<=q) (hq:q<=10000000) (h:xs.length<=1000000):S.l_markInt64S (xs,(q,()))=some (q+(xs.length:Int),(rampQ q xs.length,())):=by
 unfold S.l_markInt64S;dsimp only;rw[if_pos ⟨⟨by omega,by omega⟩,by omega⟩]
def tgB (u:List (List ByteArray)) (ts:List Int):Bool:=decide ((ts.length:Int)>0)&&risB ts 0 (((chQ u).1.length:Int) - 1)
def lawT (u:List (List ByteArray)) (ts:List Int):List ByteArray×Bool:=if(chQ u).2=true/\tgB u ts=true then giveL (hitL (chQ u).1 (tgF ts))else([],false)
theorem hit_ok {M:List (List Q3)} (hM:isCh M) (tg:Nat->Bool):(∀q∈hitL M tg,low q/\below 350000000 q)/\(hitL M tg).length<=12:=by
 have hn:=hM.2.1.1;refine⟨fun q hq=> ?_,by unfold hitL;rw[tab_len];exact hn⟩;unfold hitL at hq;obtain⟨j,hj,rfl⟩:=tab_mem.1 hq;have hs:=hi_sol hM tg;split
 ·rename_i hc;exact hs.bk.b _ (Nat.le_refl _) _ (fl_ix hj hc).1
 ·split
  ·exact okq_one
  ·exact okq_zero
theorem law_len (u:List (List ByteArray)) (ts:List Int):(lawT u ts).1.length<=1000000:=by
 unfold lawT;split
 ·rename_i h;have:=(hit_ok (chQ_ok h.1).1 (tgF ts)).2;unfold giveL;split
  ·simp only[List.length_map];omega
  ·simp
 ·simp
theorem s_law (u:List (List ByteArray)) (hu:u.all okT=true) (ts:List Int) (ht:ts.length<=1000000):S.s_HitChances (u,ts,())=some (lawT u ts,()):=by
 unfold S.s_HitChances P.s_HitChances lawT tgB;dsimp only;rw[parse_s u hu,Option.bind_some];dsimp only;cases hc:(chQ u).2
 ·rw[if_pos (by decide),if_neg (by simp)]
 obtain⟨hM,_⟩:=chQ_ok hc;obtain⟨h1,h2⟩:=hit_ok hM (tgF ts);have hn:=hM.2.1.1;have hn0:0<(chQ u).1.length:=hM.1;have et:S.s_l03Targets (mp B10 (chQ u).1,ts,())=some (decide ((ts.length:Int)>0)&&risB ts 0 (((chQ u).1.length:Int) - 1),()):=by
  unfold S.s_l03Targets P.s_l03Targets;dsimp only;rw[mp_len,wr (by omega) (by omega)]
  by_cases h0:(ts.length:Int)>0
  ·have er:S.s_l00Rises (ts,0,((chQ u).1.length:Int) - 1,())=some (risB ts 0 (((chQ u).1.length:Int) - 1),()):=by
    unfold S.s_l00Rises;dsimp only;rw[if_pos (by omega)]
   rw[if_pos (decide_eq_true (show(ts.length:Int)>=1 by omega)),er,Option.bind_some,decide_eq_true h0,Bool.true_and]
  ·rw[if_neg (by simpa using(show ¬(ts.length:Int)>=1 by omega)),decide_eq_false h0,Bool.false_and]
 have er:S.s_l03Hits (mp B10 (chQ u).1,ts,())=some ((hitL (chQ u).1 (tgF ts)).map (rp B10),()):=by
  unfold S.s_l03Hits;dsimp only;rw[if_pos ⟨⟨_,hM,rfl⟩,ht⟩,mv_mp (by decide)]
 have eg:S.s_l01GiveAll ((hitL (chQ u).1 (tgF ts)).map (rp B10),())=some (giveL (hitL (chQ u).1 (tgF ts)),()):=by
  unfold S.s_l01GiveAll;dsimp only;rw[if_pos ⟨all_rok (by decide) (by decide) h1,by rw[List.length_map];omega⟩,map_rv B10_le]
 rw[if_neg (by decide),et,Option.bind_some];dsimp only;cases hr:(decide ((ts.length:Int)>0)&&risB ts 0 (((chQ u).1.length:Int) - 1))
 ·rw[if_pos (by decide),if_neg (by simp)]
 ·rw[if_neg (by decide),er,Option.bind_some,eg,Option.bind_some,if_pos ⟨rfl,rfl⟩]
theorem hitL_congr {M:List (List Q3)} (h:isCh M) {t t':Nat->Bool} (e:∀i,i<M.length->t i=t' i):hitL M t=hitL M t':=by
 rw[<-hit_same h t,<-hit_same h t'];refine meL_congr h.1 (fun i hi=> ?_) (fun i hi=>rfl) (fun i hi=> ?_)
 ·unfold inC;rw[e i hi];congr 1;rw[Bool.eq_iff_iff,List.any_eq_true,List.any_eq_true];constructor
  ·rintro ⟨j,hj,q⟩
   exact⟨j,hj,by rw[<-e j (List.mem_range.1 hj)];exact q⟩
  ·rintro ⟨j,hj,q⟩
   exact⟨j,hj,by rw[e j (List.mem_range.1 hj)];exact q⟩
 ·unfold tgQ;rw[e i hi]
theorem i_law (u:List (List ByteArray)) (hu:u.all okT=true) (ts:List Int) (ht:ts.length<=1000000):S.i_HitChances (u,ts,())=some (lawT u ts,()):=by
 unfold S.i_HitChances P.i_HitChances S.i_chainAndTargets P.i_chainAndTargets lawT tgB;dsimp only;rw[parse_i u hu,Option.bind_some];dsimp only;cases hc:(chQ u).2
 ·rw[if_pos (by decide),if_neg (by simp),Option.bind_some];rfl
 obtain⟨hM,_⟩:=chQ_ok hc;obtain⟨h1,h2⟩:=hit_ok hM (tgF ts);have hn:=hM.2.1.1;have hn0:0<(chQ u).1.length:=hM.1;have et:S.i_targetsOf (mp B32 (chQ u).1,ts,())=some ((if risB ts 0 (((chQ u).1.length:Int) - 1)=true then(tab (chQ u).1.length (tgF ts),decide ((ts.length:Int)>0))else([],false)),()):=by
  unfold S.i_targetsOf;dsimp only;rw[mp_len,if_pos ⟨by omega,hn,by omega⟩]
 have er:S.i_hits (mp B32 (chQ u).1,tab (chQ u).1.length (tgF ts),())=some ((hitL (chQ u).1 (tgF ts)).map (rp B32),()):=by
  unfold S.i_hits;dsimp only;rw[if_pos ⟨_,hM,rfl,tab_len _ _⟩,mv_mp (by decide),hitL_congr hM fun i hi=>tab_getD _ _ hi]
 have eg:S.i_toldList ((hitL (chQ u).1 (tgF ts)).map (rp B32),())=some (giveL (hitL (chQ u).1 (tgF ts)),()):=by
  unfold S.i_toldList;dsimp only;rw[if_pos ⟨all_rok (by decide) (by decide) h1,by rw[List.length_map];omega⟩,map_rv B32_le]
 rw[if_neg (by decide),et,Option.bind_some,Option.bind_some];dsimp only;cases hr:risB ts 0 (((chQ u).1.length:Int) - 1)
 ·simp only[Bool.false_eq_true,if_false,Bool.and_false,and_false,Bool.not_false,if_true]
 ·rw[if_pos rfl,Bool.and_true];dsimp only;cases h0:decide ((ts.length:Int)>0)
  ·rw[if_pos (by decide),if_neg (by simp)]
  ·rw[if_neg (by decide),er,Option.bind_some,eg,Option.bind_some,if_pos ⟨rfl,rfl⟩]
theorem HitChances_true (x:PTy [PK.bo (Kd.st (Kd.sl (Kd.sl Kd.str))),PK.bo (Kd.sl (Kd.int IntKind.i64))]) (h:BdA _ x) (hz:SzA _ x) (hl:x.1.length<=1000000000000000) (hl2:x.2.1.length<=1000000000000000):∃m,S.l_FnExactHitChances x=some (true,m):=by
 obtain⟨u,ts,q⟩:=x;obtain⟨h1,_⟩:=h;refine⟨(),?_⟩;show P.l_FnExactHitChances 0 (u,ts,())=some (true,());unfold P.l_FnExactHitChances;dsimp only at hl hl2 ⊢;rw[wr (by omega) (by omega)]
 by_cases hneg:1000000 - (ts.length:Int)<0
 ·rw[szChain_neg u _ (okTT_of h1) hneg (by omega) hl];rfl
 have ht:ts.length<=1000000:=by omega
 obtain⟨r,e1,e2,e3⟩:=szChain_eq u (1000000 - (ts.length:Int)) (okTT_of h1) (by omega) (by omega);rw[e1,Option.bind_some]
 by_cases hn:r<0
 ·simp [hn]
 rw[if_neg (by simpa using hn)];obtain⟨hu,ku,km⟩:=e3 (by omega);obtain⟨⟨k,km2,kq⟩,k1,k2,k3⟩:=markChain_eq2 u (by omega) hu;dsimp only at k2 k3;have hy:=law_len u ts;have t2:∀b,List.map (fun(y:List ByteArray×Nat)=>List.map (fun z=>z) (y.1.take y.2)) (seen (tos2 b u).1 0 (tos2 b u).2)=u:=fun b=>tos2_take b u
 simp only[toChaino_eq u _ hu,toInt_eq ts _ ht,tosI_seen,Option.bind_some,t2,s_law u ku ts ht,i_law u ku ts ht,eqS_refl _ hy,intactChain_eq u hu,intactInt64S_eq ts fillJ ht,Bool.false_eq_true,if_false,hd0_take,hd0_dup,nrm_hd0,nrm_take,List.drop_zero,k1,mkI ts k (by omega) (by omega) ht,mkS _ 101 (by omega) (by omega) hy,splice_own _ _ (marks_len _ _),hdS _ 101 (by omega) (by omega) hy,Bool.not_true,beq_self_eq_true];have e5:¬(k+(ts.length:Int)<0):=by omega
 have e6:¬(101+((lawT u ts).1.length:Int)<0):=by omega
 simp [e5,e6]
end Go.Cm
