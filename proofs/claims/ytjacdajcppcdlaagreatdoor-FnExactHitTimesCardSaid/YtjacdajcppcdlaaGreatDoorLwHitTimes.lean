import Derived.Test.YtjacdajcppcdlaaGreatDoorPlHitTimes
import Derived.Test.YtjacdajcppcdlaaGreatDoorCmXz
import Derived.Test.YtjacdajcppcdlaaGreatDoorCmZL
set_option linter.unusedVariables false
namespace Go.Cm
theorem okTT_of {xs:List (List ByteArray)} (h:Bd (.sl (.sl .str)) xs):okTT xs:=by
 obtain⟨h1,h2⟩:=h;have e:maxLen=9223372036854775807:=rfl;refine⟨by rw[<-e];exact h1,fun x hx=> ?_⟩;obtain⟨h3,h4⟩:=h2 x hx;exact⟨by rw[<-e];exact h3,fun y hy=>by rw[<-e];exact h4 y hy⟩
theorem szGo_okT:∀(xs:List ByteArray) (l:Int),l<=1000000->0<=szGo xs l->okT xs=true
 | [],_,_,_=>rfl
 |x::xs,l,h0,h=>by
  unfold szGo at h;split at h
  ·omega
  ·have:=szGo_okT xs (l - (x.size:Int)) (by omega) h;unfold okT at*;rw[List.all_cons,this,Bool.and_true];have h1:0<=l - (x.size:Int):=by omega
   exact decide_eq_true (by omega)
theorem szS_okT {xs:List ByteArray} {l:Int} (hl:l<=1000000) (h:0<=szS xs l):okT xs=true/\(xs.length:Int)<=l/\szS xs l<=l:=by
 unfold szS at*;split at h
 ·omega
 ·rename_i hn;rw[if_neg hn];have hs:=szGo_le xs (l - (xs.length:Int)) (by omega);exact⟨szGo_okT xs _ (by omega) h,by omega,by omega⟩
theorem sz2Go_okT:∀(xs:List (List ByteArray)) (l:Int),0<=l->l<=1000000->0<=sz2Go xs l->xs.all okT=true
 | [],_,_,_,_=>rfl
 |x::xs,l,h0,h1,h=>by
  simp only[sz2Go]at h;split at h
  ·omega
  ·rename_i hn;obtain⟨k1,k2,k3⟩:=szS_okT (xs:=x) h1 (by omega);rw[List.all_cons,k1,Bool.true_and];exact sz2Go_okT xs (szS x l) (by omega) (by omega) h
theorem mk2n_le:∀(u:List (List ByteArray)) (l:Int),0<=l->l<=1000000->0<=sz2Go u l->(mk2n (u.map (tos a3w false)):Int)<=l
 | [],_,h0,_,_=>h0
 |x::xs,l,h0,h1,h=>by
  simp only[sz2Go]at h;split at h
  ·omega
  ·rename_i hn;have:=mk2n_le xs (szS x l) (by omega) (by have:=szS_le x l h0;omega) h;have a:szS x l<=l - (x.length:Int):=by
    unfold szS at hn ⊢;split at hn
    ·omega
    ·rename_i hq;rw[if_neg hq];exact(szGo_le x _ (by omega)).1
   rw[List.map_cons,mk2n];have e:seen (tos a3w false x).1 0 (tos a3w false x).2=x:=tos_take a3w false x;rw[e];omega
theorem szChain_eq (u:List (List ByteArray)) (l:Int) (hu:okTT u) (h0:0<=l) (h1:l<=1000000):∃r,S.l_szChain (u,l,())=some (r,())/\r<=l/\(0<=r->okRS u/\u.all okT=true/\mk2n (u.map (tos a3w false))<=1000000):=by
 unfold S.l_szChain P.l_szChain;dsimp only;have e:S.a4v (u,l,())=some (sz2 u l,()):=by
  unfold S.a4v;rw[if_pos ⟨hu,h1, .inl h0⟩]
 obtain⟨a,b,c⟩:=sz2_le u l h0;rw[e,Option.bind_some]
 by_cases hn:sz2 u l<0
 ·exact⟨-1,by simp [hn],by omega,by omega⟩
 ·refine⟨sz2 u l,by simp [hn],by omega,fun h=> ?_⟩;obtain⟨c1,c2⟩:=c h;refine⟨⟨by omega,fun x hx=>by have:=c2 x hx;omega⟩,?_⟩;unfold sz2 at h;split at h
  ·omega
  ·have:=mk2n_le u _ (by omega) (by omega) h;exact⟨sz2Go_okT u _ (by omega) (by omega) h,by omega⟩
theorem intactChain_eq (u:List (List ByteArray)) (hu:okRS u):S.l_intactChain (((tos2 false u).1,(tos2 false u).2),((tos2 false u).1,(tos2 false u).2),())=some (true,()):=by
 unfold S.l_intactChain P.l_intactChain;dsimp only;have e:S.a3x (((tos2 false u).1,(tos2 false u).2),((tos2 false u).1,(tos2 false u).2),())=some (true,()):=by
  unfold S.a3x;rw[if_pos ⟨u,hu,rfl⟩]
 rw[e];rfl
theorem toChaino_eq (u:List (List ByteArray)) (b:Bool) (hu:okRS u):S.l_toChaino (u,b,())=some (tos2 b u,()):=by
 unfold S.l_toChaino P.l_toChaino S.l_toStringSSo S.l_toStringSS;dsimp only;rw[if_pos hu,Option.bind_some];simp only[a1b,a1q,Bool.false_eq_true,if_false]
theorem splice_own {α:Type} (xs ys:List α) (h:ys.length=xs.length):splice xs ys 0=ys:=by
 unfold splice;simp [h]
theorem eqS_refl (xs:List ByteArray) (h:xs.length<=1000000):S.a2i (xs,(xs,()))=some (true,()):=by
 unfold S.a2i;dsimp only;rw[if_pos (by omega),eqTexts_refl]
theorem mkS (xs:List ByteArray) (q:Int) (h0:0<=q) (hq:q<=10000000) (h:xs.length<=1000000):S.a3f (xs,(q,()))=some (q+(xs.length:Int),(marks q xs.length,())):=by
 unfold S.a3f;dsimp only;rw[if_pos ⟨by omega,by omega,by omega⟩]
theorem hdS (n:Nat) (q:Int) (h0:0<=q) (hq:q<=10000000) (h:n<=1000000):S.a5d (marks q n,(q,()))=some (q+(n:Int),()):=by
 unfold S.a5d;dsimp only;rw[marks_len,if_pos ⟨by omega,by omega,by omega,rfl⟩]
theorem parse_s (u:List (List ByteArray)) (hu:u.all okT=true):S.s_l03Parse (u,())=some ((mp B10 (chQ u).1,(chQ u).2),()):=by
 unfold S.s_l03Parse;exact if_pos hu
theorem markChain_eq2 (u:List (List ByteArray)) (hm:mk2n (u.map (tos a3w false))<=1000000) (hu:okRS u):∃r,S.l_markChain ((tos2 false u).1.take (tos2 false u).2,101,())=some r/\101<=r.1/\r.1<=1000101:=by
 have e:(tos2 false u).1.take (tos2 false u).2=u.map (tos a3w false):=by
  rw[tos2_false];simp
 rw[e];unfold S.l_markChain P.l_markChain S.l_markStringSS;dsimp only;simp only[a1b,a1q,Bool.false_eq_true,if_false];rw[if_pos ⟨by decide,by decide,by omega,by rw[List.length_map];exact Nat.le_trans hu.1 (by decide)⟩,Option.bind_some];refine⟨_,rfl,?_⟩;constructor
 ·show(101:Int)<=101+_;omega
 ·show 101+((mk2n (u.map (tos a3w false)):Nat):Int)<=1000101;omega
theorem szChain_neg (u:List (List ByteArray)) (l:Int) (hu:okTT u) (h0:l<0) (h1: -1000000000000000<=l) (hl:u.length<=1000000000000000):S.l_szChain (u,l,())=some (-1,()):=by
 unfold S.l_szChain P.l_szChain;dsimp only;have e:S.a4v (u,l,())=some (sz2 u l,()):=by
  unfold S.a4v;rw[if_pos ⟨hu,(show l<=1000000 by omega), .inr ⟨h1,hl⟩⟩]
 have e2:sz2 u l= -1:=by
  unfold sz2;rw[if_pos (by omega)]
 rw[e,Option.bind_some,e2];rfl
theorem tosI_seen {xs:List Int} (b:Bool):seen (tos fillJ b xs).1 0 (tos fillJ b xs).2=xs:=by
 unfold seen;rw[List.drop_zero,tos_take]
theorem toInt_eq (xs:List Int) (b:Bool) (h:xs.length<=1000000):S.a5e (xs,b,())=some (tos fillJ b xs,()):=by
 unfold S.a5e;exact if_pos h
theorem mkI (xs:List Int) (q:Int) (h0:0<=q) (hq:q<=10000000) (h:xs.length<=1000000):S.l_markInt64S (xs,(q,()))=some (q+(xs.length:Int),(rampQ q xs.length,())):=by
 unfold S.l_markInt64S;dsimp only;rw[if_pos ⟨⟨by omega,by omega⟩,by omega⟩]
theorem law_len (u:List (List ByteArray)) (ts:List Int):(htT u ts).1.length<=1000000:=by
 unfold htT;split
 ·rename_i h;rw[Bool.and_eq_true,Bool.and_eq_true]at h;have:=(tmL_ok (chQ_ok h.1.1).1 (c:=inC (chQ u).1 (tgF ts)) inC_out).2;unfold giveL;split
  ·simp only[List.length_map];omega
  ·simp
 ·simp
theorem s_law (u:List (List ByteArray)) (hu:u.all okT=true) (ts:List Int) (ht:ts.length<=1000000):S.s_HitTimes (u,ts,())=some (htT u ts,()):=by
 unfold S.s_HitTimes P.s_HitTimes htT tgC;dsimp only;rw[parse_s u hu,Option.bind_some];dsimp only;cases hc:(chQ u).2
 ·rw[if_pos (by decide),Bool.false_and,Bool.false_and,if_neg (by decide)]
 obtain⟨hM,_⟩:=chQ_ok hc;generalize (chQ u).1=M at*;have hn:=hM.2.1.1;have hn0:0<M.length:=hM.1;have et:S.s_l03Targets (mp B10 M,ts,())=some (decide ((ts.length:Int)>0)&&risB ts 0 ((M.length:Int) - 1),()):=by
  unfold S.s_l03Targets P.s_l03Targets;dsimp only;rw[a5b,wr (by omega) (by omega)]
  by_cases h0:(ts.length:Int)>0
  ·have er:S.s_l00Rises (ts,0,(M.length:Int) - 1,())=some (risB ts 0 ((M.length:Int) - 1),()):=by
    unfold S.s_l00Rises;dsimp only;rw[if_pos (by omega)]
   rw[if_pos (decide_eq_true (show(ts.length:Int)>=1 by omega)),er,Option.bind_some,decide_eq_true h0,Bool.true_and]
  ·rw[if_neg (by simpa using(show ¬(ts.length:Int)>=1 by omega)),decide_eq_false h0,Bool.false_and]
 have eh:S.s_l03Hits (mp B10 M,ts,())=some ((hitL M (tgF ts)).map (rp B10),()):=by
  unfold S.s_l03Hits;dsimp only;rw[if_pos ⟨⟨_,hM,rfl⟩,ht⟩,mv_mp (by decide)]
 obtain⟨hk,hlen⟩:=hitL_ok hM (tgF ts);have e1:S.s_l03Same1 ((hitL M (tgF ts)).map (rp B10),())=some (all1 (hitL M (tgF ts)),()):=by
  unfold S.s_l03Same1;dsimp only;rw[if_pos ⟨_,hk,by omega,rfl⟩,map_rv a0d]
 have er:S.s_l03Times (mp B10 M,ts,())=some ((tmL M (inC M (tgF ts))).map (rp B10),()):=by
  unfold S.s_l03Times;dsimp only;rw[if_pos ⟨⟨_,hM,rfl⟩,ht⟩,mv_mp (by decide)]
 obtain⟨o1,o2⟩:=tmL_ok hM (c:=inC M (tgF ts)) inC_out;have eg:S.s_l01GiveAll ((tmL M (inC M (tgF ts))).map (rp B10),())=some (giveL (tmL M (inC M (tgF ts))),()):=by
  unfold S.s_l01GiveAll;dsimp only;rw[if_pos ⟨all_rok (by decide) (by decide) o1,by rw[List.length_map];omega⟩,map_rv a0d]
 rw[if_neg (by decide),et,Option.bind_some,Bool.true_and];dsimp only;cases hr:(decide ((ts.length:Int)>0)&&risB ts 0 ((M.length:Int) - 1))
 ·rw[if_pos (by decide),Bool.false_and,if_neg (by decide)]
 rw[if_neg (by decide),eh,Option.bind_some,e1,Option.bind_some,Bool.true_and];dsimp only;cases ha:all1 (hitL M (tgF ts))
 ·rw[if_pos (by decide),if_neg (by decide)]
 ·rw[if_neg (by decide),er,Option.bind_some,eg,Option.bind_some,if_pos rfl]
theorem i_law (u:List (List ByteArray)) (hu:u.all okT=true) (ts:List Int) (ht:ts.length<=1000000):S.i_HitTimes (u,ts,())=some (htT u ts,()):=by
 unfold S.i_HitTimes;exact if_pos ⟨hu,ht⟩
theorem HitTimes_true (x:PTy [PK.bo (Kd.st (Kd.sl (Kd.sl Kd.str))),PK.bo (Kd.sl (Kd.int IntKind.i64))]) (h:BdA _ x) (hz:SzA _ x) (hl:x.1.length<=1000000000000000) (hl2:x.2.1.length<=1000000000000000):∃m,S.l_FnExactHitTimes x=some (true,m):=by
 obtain⟨u,ts,q⟩:=x;obtain⟨h1,_⟩:=h;refine⟨(),?_⟩;show P.a4s 0 (u,ts,())=some (true,());unfold P.a4s;dsimp only at hl hl2 ⊢;rw[wr (by omega) (by omega)]
 by_cases hneg:1000000 - (ts.length:Int)<0
 ·rw[szChain_neg u _ (okTT_of h1) hneg (by omega) hl];rfl
 have ht:ts.length<=1000000:=by omega
 obtain⟨r,e1,e2,e3⟩:=szChain_eq u (1000000 - (ts.length:Int)) (okTT_of h1) (by omega) (by omega);rw[e1,Option.bind_some]
 by_cases hn:r<0
 ·simp [hn]
 rw[if_neg (by simpa using hn)];obtain⟨hu,ku,km⟩:=e3 (by omega);obtain⟨⟨k,km2,kq⟩,k1,k2,k3⟩:=markChain_eq2 u (by omega) hu;dsimp only at k2 k3;have hy:=law_len u ts;have t2:∀b,List.map (fun(y:List ByteArray×Nat)=>List.map (fun z=>z) (y.1.take y.2)) (seen (tos2 b u).1 0 (tos2 b u).2)=u:=fun b=>tos2_take b u
 simp only[toChaino_eq u _ hu,toInt_eq ts _ ht,tosI_seen,Option.bind_some,t2,s_law u ku ts ht,i_law u ku ts ht,eqS_refl _ hy,intactChain_eq u hu,intactInt64S_eq ts fillJ ht,Bool.false_eq_true,if_false,hd0_take,a1b,a1q,nrm_take,List.drop_zero,k1,mkI ts k (by omega) (by omega) ht,mkS _ 101 (by omega) (by omega) hy,splice_own _ _ (marks_len _ _),hdS _ 101 (by omega) (by omega) hy,Bool.not_true,beq_self_eq_true];have e5:¬(k+(ts.length:Int)<0):=by omega
 have e6:¬(101+((htT u ts).1.length:Int)<0):=by omega
 simp [e5,e6]
end Go.Cm
