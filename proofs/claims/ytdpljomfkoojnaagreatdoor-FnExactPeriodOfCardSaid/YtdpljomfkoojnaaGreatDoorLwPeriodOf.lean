import Derived.Test.YtdpljomfkoojnaaGreatDoorPlPeriodOf
import Derived.Test.YtdpljomfkoojnaaGreatDoorCmZL
set_option linter.unusedVariables false
namespace Go.Cm
theorem okTT_of {xs:List (List ByteArray)} (h:Bd (.sl (.sl .str)) xs):okTT xs:=by
 obtain⟨h1,h2⟩:=h
 have e:maxLen=9223372036854775807:=rfl
 refine⟨by rw[←e];exact h1,fun x hx=> ?_⟩
 obtain⟨h3,h4⟩:=h2 x hx
 exact⟨by rw[←e];exact h3,fun y hy=>by rw[←e];exact h4 y hy⟩
theorem szGo_okT:∀(xs:List ByteArray) (l:Int),l≤1000000→0≤szGo xs l→okT xs=true
 | [],_,_,_=>rfl
 |x::xs,l,h0,h=>by
  unfold szGo at h
  split at h
  ·omega
  ·have:=szGo_okT xs (l - (x.size:Int)) (by omega) h
   unfold okT at*
   rw[List.all_cons,this,Bool.and_true]
   have h1:0≤l - (x.size:Int):=by omega
   exact decide_eq_true (by omega)
theorem szS_okT {xs:List ByteArray} {l:Int} (hl:l≤1000000) (h:0≤szS xs l):okT xs=true∧(xs.length:Int)≤l∧szS xs l≤l:=by
 unfold szS at*
 split at h
 ·omega
 ·rename_i hn
  rw[if_neg hn]
  have hs:=szGo_le xs (l - (xs.length:Int)) (by omega)
  exact⟨szGo_okT xs _ (by omega) h,by omega,by omega⟩
theorem sz2Go_okT:∀(xs:List (List ByteArray)) (l:Int),0≤l→l≤1000000→0≤sz2Go xs l→xs.all okT=true
 | [],_,_,_,_=>rfl
 |x::xs,l,h0,h1,h=>by
  simp only[sz2Go]at h
  split at h
  ·omega
  ·rename_i hn
   obtain⟨k1,k2,k3⟩:=szS_okT (xs:=x) h1 (by omega)
   rw[List.all_cons,k1,Bool.true_and]
   exact sz2Go_okT xs (szS x l) (by omega) (by omega) h
theorem szChain_eq (u:List (List ByteArray)) (l:Int) (hu:okTT u) (h0:0≤l) (h1:l≤1000000):∃r,S.l_szChain (u,l,())=some (r,())∧r≤l∧(0≤r→okRS u∧u.all okT=true):=by
 unfold S.l_szChain P.l_szChain
 dsimp only
 have e:S.l_szStringSS (u,l,())=some (sz2 u l,()):=by
  unfold S.l_szStringSS
  rw[if_pos ⟨hu,h0,h1⟩]
 obtain⟨a,b,c⟩:=sz2_le u l h0
 rw[e,Option.bind_some]
 by_cases hn:sz2 u l<0
 ·exact⟨-1,by simp [hn],by omega,by omega⟩
 ·refine⟨sz2 u l,by simp [hn],by omega,fun h=> ?_⟩
  obtain⟨c1,c2⟩:=c h
  refine⟨⟨by omega,fun x hx=>by have:=c2 x hx;omega⟩,?_⟩
  unfold sz2 at h
  split at h
  ·omega
  ·exact sz2Go_okT u _ (by omega) (by omega) h
theorem intactChain_eq (u:List (List ByteArray)) (hu:okRS u):S.l_intactChain (((tos2 false u).1,(tos2 false u).2),((tos2 false u).1,(tos2 false u).2),())=some (true,()):=by
 unfold S.l_intactChain P.l_intactChain
 dsimp only
 have e:S.l_intactStringSS (((tos2 false u).1,(tos2 false u).2),((tos2 false u).1,(tos2 false u).2),())=some (true,()):=by
  unfold S.l_intactStringSS
  rw[if_pos ⟨u,hu,rfl⟩]
 rw[e]
 rfl
theorem toChain_eq (u:List (List ByteArray)) (b:Bool) (hu:okRS u):S.l_toChain (u,b,())=some (tos2 b u,()):=by
 unfold S.l_toChain P.l_toChain S.l_toStringSS
 dsimp only
 rw[if_pos hu,Option.bind_some]
theorem parse_s (u:List (List ByteArray)) (hu:u.all okT=true):S.s_l03Parse (u,())=some ((mp B10 (chQ u).1,(chQ u).2),()):=by
 unfold S.s_l03Parse
 exact if_pos hu
theorem s_law (u:List (List ByteArray)) (s:Int) (hu:u.all okT=true):S.s_PeriodOf (u,s,())=some (perT u s,()):=by
 unfold S.s_PeriodOf P.s_PeriodOf perT
 dsimp only
 rw[parse_s u hu,Option.bind_some]
 dsimp only
 cases hc:(chQ u).2
 ·rw[if_pos (by decide),if_neg (by simp)]
 obtain⟨h1,h2⟩:=chQ_ok hc
 have hM:=h1.2.1
 have hn:=hM.1
 rw[if_neg (by decide)]
 unfold S.s_l03State P.s_l03State S.s_l00In P.s_l00In
 dsimp only
 rw[mp_len,wr (by omega) (by omega),←h2]
 by_cases h0:0≤s
 case neg=>
  rw[if_neg (by simpa using h0),if_neg (fun e=>h0 e.2.1)]
  rfl
 rw[if_pos (by simpa using h0)]
 by_cases h3:s<((chQ u).1.length:Int)
 case neg=>
  rw[if_neg (fun e=>h3 e.2.2)]
  rw[decide_eq_false (by omega)]
  rfl
 rw[decide_eq_true (show s≤((chQ u).1.length:Int) - 1 by omega),if_pos ⟨rfl,h0,h3⟩]
 simp only[Option.bind_some,Bool.not_true,Bool.false_eq_true,if_false]
 unfold S.s_l03Period
 dsimp only
 rw[if_pos ⟨⟨_,hM,rfl⟩,h0,by rw[mp_len];exact h3⟩,mv_mp (by decide),Option.bind_some]
theorem i_law (u:List (List ByteArray)) (s:Int) (hu:u.all okT=true):S.i_PeriodOf (u,s,())=some (perT u s,()):=by
 unfold S.i_PeriodOf
 exact if_pos hu
theorem PeriodOf_true (x:PTy [PK.bo (Kd.st (Kd.sl (Kd.sl Kd.str))),PK.ro (Kd.int IntKind.i64)]) (h:BdA _ x) (hz:SzA _ x):∃m,S.l_FnExactPeriodOf x=some (true,m):=by
 obtain⟨u,s,q⟩:=x
 obtain⟨h1,_⟩:=h
 refine⟨(),?_⟩
 show P.l_FnExactPeriodOf 0 (u,s,())=some (true,())
 unfold P.l_FnExactPeriodOf
 dsimp only
 obtain⟨r,e1,e2,e3⟩:=szChain_eq u 1000000 (okTT_of h1) (by omega) (by omega)
 rw[e1,Option.bind_some]
 by_cases hn:r<0
 ·simp [hn]
 obtain⟨hu,ku⟩:=e3 (by omega)
 have t2:∀b,List.map (fun(y:List ByteArray×Nat)=>List.map (fun z=>z) (y.1.take y.2)) ((tos2 b u).1.take (tos2 b u).2)=u:=fun b=>tos2_take b u
 simp only[toChain_eq u _ hu,Option.bind_some,t2,s_law u s ku,i_law u s ku,intactChain_eq u hu,hn,decide_false,Bool.false_eq_true,if_false,Bool.not_true,beq_self_eq_true,bne_self_eq_false]
end Go.Cm
