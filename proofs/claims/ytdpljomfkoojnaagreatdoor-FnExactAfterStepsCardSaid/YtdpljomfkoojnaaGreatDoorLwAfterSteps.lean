import Derived.Test.YtdpljomfkoojnaaGreatDoorPlAfterSteps
import Derived.Test.YtdpljomfkoojnaaGreatDoorCmZL
set_option linter.unusedVariables false
namespace Go.Cm
theorem okTT_of {xs:List (List ByteArray)} (h:Bd (.sl (.sl .str)) xs):okTT xs:=by
 obtain⟨h1,h2⟩:=h
 have e:maxLen=9223372036854775807:=rfl
 refine⟨by rw[←e];exact h1,fun x hx=> ?_⟩
 obtain⟨h3,h4⟩:=h2 x hx
 exact⟨by rw[←e];exact h3,fun y hy=>by rw[←e];exact h4 y hy⟩
theorem szGo_okT:∀(xs:List ByteArray) (l:Int),l≤1000000→0≤szGo xs l→okT xs=true
 | [],_,_,_=>rfl
 |x::xs,l,h0,h=>by
  unfold szGo at h
  split at h
  ·omega
  ·have:=szGo_okT xs (l - (x.size:Int)) (by omega) h
   unfold okT at*
   rw[List.all_cons,this,Bool.and_true]
   have h1:0≤l - (x.size:Int):=by omega
   exact decide_eq_true (by omega)
theorem szS_okT {xs:List ByteArray} {l:Int} (hl:l≤1000000) (h:0≤szS xs l):okT xs=true∧(xs.length:Int)≤l∧szS xs l≤l:=by
 unfold szS at*
 split at h
 ·omega
 ·rename_i hn
  rw[if_neg hn]
  have hs:=szGo_le xs (l - (xs.length:Int)) (by omega)
  exact⟨szGo_okT xs _ (by omega) h,by omega,by omega⟩
theorem sz2Go_okT:∀(xs:List (List ByteArray)) (l:Int),0≤l→l≤1000000→0≤sz2Go xs l→xs.all okT=true
 | [],_,_,_,_=>rfl
 |x::xs,l,h0,h1,h=>by
  simp only[sz2Go]at h
  split at h
  ·omega
  ·rename_i hn
   obtain⟨k1,k2,k3⟩:=szS_okT (xs:=x) h1 (by omega)
   rw[List.all_cons,k1,Bool.true_and]
   exact sz2Go_okT xs (szS x l) (by omega) (by omega) h
theorem mk2n_le:∀(u:List (List ByteArray)) (l:Int),0≤l→l≤1000000→0≤sz2Go u l→(mk2n (u.map (tos spare false)):Int)≤l
 | [],_,h0,_,_=>h0
 |x::xs,l,h0,h1,h=>by
  simp only[sz2Go]at h
  split at h
  ·omega
  ·rename_i hn
   have:=mk2n_le xs (szS x l) (by omega) (by have:=szS_le x l h0;omega) h
   have a:szS x l≤l - (x.length:Int):=by
    unfold szS at hn ⊢
    split at hn
    ·omega
    ·rename_i hq
     rw[if_neg hq]
     exact(szGo_le x _ (by omega)).1
   rw[List.map_cons,mk2n]
   have e:seen (tos spare false x).1 0 (tos spare false x).2=x:=tos_take spare false x
   rw[e]
   omega
theorem szChain_eq (u:List (List ByteArray)) (l:Int) (hu:okTT u) (h0:0≤l) (h1:l≤1000000):∃r,S.l_szChain (u,l,())=some (r,())∧r≤l∧(0≤r→okRS u∧u.all okT=true∧mk2n (u.map (tos spare false))≤1000000):=by
 unfold S.l_szChain P.l_szChain
 dsimp only
 have e:S.l_szStringSS (u,l,())=some (sz2 u l,()):=by
  unfold S.l_szStringSS
  rw[if_pos ⟨hu,h0,h1⟩]
 obtain⟨a,b,c⟩:=sz2_le u l h0
 rw[e,Option.bind_some]
 by_cases hn:sz2 u l<0
 ·exact⟨-1,by simp [hn],by omega,by omega⟩
 ·refine⟨sz2 u l,by simp [hn],by omega,fun h=> ?_⟩
  obtain⟨c1,c2⟩:=c h
  refine⟨⟨by omega,fun x hx=>by have:=c2 x hx;omega⟩,?_⟩
  unfold sz2 at h
  split at h
  ·omega
  ·have:=mk2n_le u _ (by omega) (by omega) h
   exact⟨sz2Go_okT u _ (by omega) (by omega) h,by omega⟩
theorem intactChain_eq (u:List (List ByteArray)) (hu:okRS u):S.l_intactChain (((tos2 false u).1,(tos2 false u).2),((tos2 false u).1,(tos2 false u).2),())=some (true,()):=by
 unfold S.l_intactChain P.l_intactChain
 dsimp only
 have e:S.l_intactStringSS (((tos2 false u).1,(tos2 false u).2),((tos2 false u).1,(tos2 false u).2),())=some (true,()):=by
  unfold S.l_intactStringSS
  rw[if_pos ⟨u,hu,rfl⟩]
 rw[e]
 rfl
theorem toChaino_eq (u:List (List ByteArray)) (b:Bool) (hu:okRS u):S.l_toChaino (u,b,())=some (tos2 b u,()):=by
 unfold S.l_toChaino P.l_toChaino S.l_toStringSSo S.l_toStringSS
 dsimp only
 rw[if_pos hu,Option.bind_some]
 simp only[hd0_dup,nrm_hd0,Bool.false_eq_true,if_false]
theorem markChain_eq (u:List (List ByteArray)) (hm:mk2n (u.map (tos spare false))≤1000000) (hu:okRS u):∃r,S.l_markChain ((tos2 false u).1.take (tos2 false u).2,101,())=some r∧0≤r.1:=by
 have e:(tos2 false u).1.take (tos2 false u).2=u.map (tos spare false):=by
  rw[tos2_false]
  simp
 rw[e]
 unfold S.l_markChain P.l_markChain S.l_markStringSS
 dsimp only
 simp only[hd0_dup,nrm_hd0,Bool.false_eq_true,if_false]
 rw[if_pos ⟨by decide,by decide,by omega,by rw[List.length_map];exact Nat.le_trans hu.1 (by decide)⟩,Option.bind_some]
 refine⟨_,rfl,?_⟩
 show(0:Int)≤101+_
 omega
theorem splice_own {α:Type} (xs ys:List α) (h:ys.length=xs.length):splice xs ys 0=ys:=by
 unfold splice
 simp [h]
theorem eqS_refl (xs:List ByteArray) (h:xs.length≤1000000):S.l_eqStringS (xs,(xs,()))=some (true,()):=by
 unfold S.l_eqStringS
 dsimp only
 rw[if_pos (by omega),eqTexts_refl]
theorem mkS (xs:List ByteArray) (q:Int) (h0:0≤q) (hq:q≤10000000) (h:xs.length≤1000000):S.l_markStringS (xs,(q,()))=some (q+(xs.length:Int),(marks q xs.length,())):=by
 unfold S.l_markStringS
 dsimp only
 rw[if_pos ⟨by omega,by omega,by omega⟩]
theorem hdS (n:Nat) (q:Int) (h0:0≤q) (hq:q≤10000000) (h:n≤1000000):S.l_heldStringS (marks q n,(q,()))=some (q+(n:Int),()):=by
 unfold S.l_heldStringS
 dsimp only
 rw[marks_len,if_pos ⟨by omega,by omega,by omega,rfl⟩]
theorem okTexts_of {xs:List ByteArray} (h:Bd (.sl .str) xs):okTexts xs:=by
 obtain⟨h1,h2⟩:=h
 have e:maxLen=9223372036854775807:=rfl
 exact⟨by rw[←e];exact h1,fun x hx=>by rw[←e];exact h2 x hx⟩
theorem sz_eq {xs:List ByteArray} {l:Int} (h:okTexts xs) (h0:0≤l) (h1:l≤1000000):S.l_szStringS (xs,(l,()))=some (szS xs l,()):=by
 unfold S.l_szStringS
 exact if_pos ⟨h,h0,h1⟩
theorem tos_take' {xs:List ByteArray} (b:Bool):List.take (tos spare b xs).2 (tos spare b xs).1=xs:=
 tos_take spare b xs
theorem tos_seen {xs:List ByteArray} (b:Bool):seen (tos spare b xs).1 0 (tos spare b xs).2=xs:=by
 unfold seen
 rw[List.drop_zero,tos_take']
theorem toStringSo_eq (xs:List ByteArray) (b:Bool) (h:xs.length≤1000000):S.l_toStringSo (xs,b,())=some (tos spare b xs,()):=by
 unfold S.l_toStringSo
 exact toStringS_eq xs b h
theorem parse_s (u:List (List ByteArray)) (hu:u.all okT=true):S.s_l03Parse (u,())=some ((mp B10 (chQ u).1,(chQ u).2),()):=by
 unfold S.s_l03Parse
 exact if_pos hu
theorem parse_i (u:List (List ByteArray)) (hu:u.all okT=true):S.i_chainOf (u,())=some ((mp B32 (chQ u).1,(chQ u).2),()):=by
 unfold S.i_chainOf
 exact if_pos hu
theorem markChain_eq2 (u:List (List ByteArray)) (hm:mk2n (u.map (tos spare false))≤1000000) (hu:okRS u):∃r,S.l_markChain ((tos2 false u).1.take (tos2 false u).2,101,())=some r∧101≤r.1∧r.1≤1000101:=by
 have e:(tos2 false u).1.take (tos2 false u).2=u.map (tos spare false):=by
  rw[tos2_false]
  simp
 rw[e]
 unfold S.l_markChain P.l_markChain S.l_markStringSS
 dsimp only
 simp only[hd0_dup,nrm_hd0,Bool.false_eq_true,if_false]
 rw[if_pos ⟨by decide,by decide,by omega,by rw[List.length_map];exact Nat.le_trans hu.1 (by decide)⟩,Option.bind_some]
 refine⟨_,rfl,?_⟩
 constructor
 ·show(101:Int)≤101+_
  omega
 ·show 101+((mk2n (u.map (tos spare false)):Nat):Int)≤1000101
  omega
def lawT (u:List (List ByteArray)) (ws:List ByteArray) (s:Int):List ByteArray×Bool:=if(afT u ws s).2=true then giveL (afT u ws s).1.2 else([],false)
theorem af_ok {u:List (List ByteArray)} {ws:List ByteArray} {s:Int} (h:(afT u ws s).2=true):(∀q∈(afT u ws s).1.2,low q∧below 2000000 q)∧(afT u ws s).1.2.length≤12:=by
 unfold afT at*
 split at h
 case isFalse=>cases h
 rename_i hc
 rw[if_pos hc]
 obtain⟨h1,h2,h3,h4,h5⟩:=hc
 obtain⟨hM,hu⟩:=chQ_ok h1
 rw[wtAll_snd,Bool.and_eq_true]at h2
 have hst:=wOk_start hM (by rw[h3,hu]) (rdAll_ok h2.1).2.2 rfl
 have hk:=afterQ_ok hM s.toNat _ 0 hst
 refine⟨wOk_below hk (by omega) rfl,?_⟩
 rw[hk.1]
 exact hM.2.1.1
theorem law_len (u:List (List ByteArray)) (ws:List ByteArray) (s:Int):(lawT u ws s).1.length≤1000000:=by
 unfold lawT
 split
 ·rename_i h
  have:=(af_ok h).2
  unfold giveL
  split
  ·simp only[List.length_map]
   omega
  ·simp
 ·simp
theorem s_law (u:List (List ByteArray)) (ws:List ByteArray) (s:Int) (hu:u.all okT=true) (hw:okT ws=true):S.s_AfterSteps (u,ws,s,())=some (lawT u ws s,()):=by
 unfold S.s_AfterSteps P.s_AfterSteps S.s_l03After lawT
 dsimp only
 rw[if_pos ⟨hu,hw⟩,Option.bind_some]
 dsimp only
 cases hf:(afT u ws s).2
 ·rw[if_pos (by decide),if_neg (by simp)]
 obtain⟨h1,h2⟩:=af_ok hf
 have eg:S.s_l01GiveAll ((afT u ws s).1.2.map (rp B10),())=some (giveL (afT u ws s).1.2,()):=by
  unfold S.s_l01GiveAll
  dsimp only
  rw[if_pos ⟨all_rok (by decide) (by decide) h1,by rw[List.length_map];omega⟩,map_rv B10_le]
 rw[if_neg (by decide),eg,Option.bind_some,if_pos rfl]
theorem i_law (u:List (List ByteArray)) (ws:List ByteArray) (s:Int) (hu:u.all okT=true) (hw:okT ws=true):S.i_AfterSteps (u,ws,s,())=some (lawT u ws s,()):=by
 unfold S.i_AfterSteps P.i_AfterSteps S.i_chainAndWeights P.i_chainAndWeights lawT
 dsimp only
 have ew:S.i_weightsOf (ws,())=some (((wtAll ws).1.map (rp B32),(wtAll ws).2),()):=by
  unfold S.i_weightsOf
  exact if_pos hw
 rw[parse_i u hu,Option.bind_some,ew,Option.bind_some]
 dsimp only
 have hall:= @af_ok u ws s
 unfold afT at*
 cases hf:(chQ u).2
 ·rw[if_neg (by decide),Option.bind_some]
  dsimp only
  rw[if_pos (by decide),if_neg (by simp)]
 obtain⟨hM,hu'⟩:=chQ_ok hf
 rw[if_pos rfl]
 cases hg:(wtAll ws).2
 ·rw[if_neg (by decide),Option.bind_some]
  dsimp only
  rw[if_pos (by decide),if_neg (by simp)]
 obtain⟨w1,w2,w3⟩:=wtAll_ok hg
 rw[if_pos rfl,Option.bind_some,w3,List.length_map,mp_len,hu']
 dsimp only
 by_cases hl:(rdAll ws).1.length=u.length
 case neg=>
  rw[if_pos (by simp;omega),if_neg (by simp [hl])]
 rw[if_neg (by simp [hl])]
 unfold S.i_in P.i_in
 dsimp only
 by_cases h0:0≤s
 case neg=>
  have a:¬s≥0:=by omega
  simp only[a,decide_false,Bool.false_eq_true,if_false,Option.bind_some,Bool.not_false,if_true]
  rw[if_neg (by simp)]
 by_cases h1:s≤40
 case neg=>
  have a:s≥0:=by omega
  simp only[a,h1,decide_true,decide_false,if_true,Option.bind_some,Bool.not_false]
  rw[if_neg (by simp)]
 have hc:(chQ u).2=true∧(wtAll ws).2=true∧(rdAll ws).1.length=u.length∧0≤s∧s≤40:=⟨hf,hg,hl,h0,h1⟩
 rw[if_pos hc]at hall
 obtain⟨q1,q2⟩:=hall rfl
 have a:s≥0:=h0
 rw[if_pos (show true=true∧true=true∧(rdAll ws).1.length=u.length∧0≤s∧s≤40 from⟨rfl,rfl,hl,h0,h1⟩),if_pos rfl]
 simp only[a,h1,decide_true,if_true,Option.bind_some,Bool.not_true,Bool.false_eq_true,if_false]
 have hst:=wOk_start hM (by rw[hl,hu']) (rdAll_ok w1).2.2 rfl
 have ea:S.i_after (mp B32 (chQ u).1,(rdAll ws).1.map (rp B32),s,())=some ((afterQ (chQ u).1 s.toNat (rdAll ws).1).map (rp B32),()):=by
  unfold S.i_after
  dsimp only
  rw[if_pos ⟨_,_,hM,rfl,rfl,hst,h0,h1⟩,mv_mp (by decide),map_rv B32_le]
 have eg:S.i_toldList ((afterQ (chQ u).1 s.toNat (rdAll ws).1).map (rp B32),())=some (giveL (afterQ (chQ u).1 s.toNat (rdAll ws).1),()):=by
  unfold S.i_toldList
  dsimp only
  dsimp only at q1 q2
  rw[if_pos ⟨all_rok (by decide) (by decide) q1,by rw[List.length_map];omega⟩,map_rv B32_le]
 rw[ea,Option.bind_some,eg,Option.bind_some]
theorem AfterSteps_true (x:PTy [PK.bo (Kd.st (Kd.sl (Kd.sl Kd.str))),PK.bo (Kd.sl Kd.str),PK.ro (Kd.int IntKind.i64)]) (h:BdA _ x) (hz:SzA _ x):∃m,S.l_FnExactAfterSteps x=some (true,m):=by
 obtain⟨u,ws,s,q⟩:=x
 obtain⟨h1,h2,_⟩:=h
 have ht:=okTexts_of h2
 refine⟨(),?_⟩
 show P.l_FnExactAfterSteps 0 (u,ws,s,())=some (true,())
 unfold P.l_FnExactAfterSteps
 dsimp only
 obtain⟨r,e1,e2,e3⟩:=szChain_eq u 1000000 (okTT_of h1) (by omega) (by omega)
 rw[e1,Option.bind_some]
 by_cases hn:r<0
 ·simp [hn]
 rw[if_neg (by simpa using hn)]
 dsimp only
 rw[sz_eq ht (by omega) e2,Option.bind_some]
 by_cases hn2:szS ws r<0
 ·rw[if_pos (decide_eq_true hn2)]
 rw[if_neg (by simpa using hn2)]
 obtain⟨hu,ku,km⟩:=e3 (by omega)
 obtain⟨hk,hl,_⟩:=szS_okT (l:=r) e2 (by omega:0≤szS ws r)
 obtain⟨⟨k,km2,kq⟩,k1,k2,k3⟩:=markChain_eq2 u km hu
 dsimp only at k2 k3
 have hy:=law_len u ws s
 have t2:∀b,List.map (fun(y:List ByteArray×Nat)=>List.map (fun z=>z) (y.1.take y.2)) (seen (tos2 b u).1 0 (tos2 b u).2)=u:=fun b=>tos2_take b u
 have hwl:ws.length≤1000000:=by omega
 simp only[toChaino_eq u _ hu,toStringSo_eq ws _ hwl,Option.bind_some,t2,tos_seen,s_law u ws s ku hk,i_law u ws s ku hk,eqS_refl _ hy,intactChain_eq u hu,intactStringS_eq ws hwl,Bool.false_eq_true,if_false,hd0_take,hd0_dup,nrm_hd0,nrm_take,List.drop_zero,k1,mkS ws k (by omega) (by omega) hwl,mkS _ 101 (by omega) (by omega) hy,splice_own _ _ (marks_len _ _),hdS _ 101 (by omega) (by omega) hy,Bool.not_true,beq_self_eq_true]
 have e5:¬(k+(ws.length:Int)<0):=by omega
 have e6:¬(101+((lawT u ws s).1.length:Int)<0):=by omega
 simp [e5,e6]
end Go.Cm
