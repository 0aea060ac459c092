import Derived.Test.YtdpljomfkoojnaaGreatDoorPlClosedClasses
import Derived.Test.YtdpljomfkoojnaaGreatDoorCmZL
set_option linter.unusedVariables false
namespace Go.Cm
theorem okTT_of {xs:List (List ByteArray)} (h:Bd (.sl (.sl .str)) xs):okTT xs:=by
 obtain⟨h1,h2⟩:=h
 have e:maxLen=9223372036854775807:=rfl
 refine⟨by rw[←e];exact h1,fun x hx=> ?_⟩
 obtain⟨h3,h4⟩:=h2 x hx
 exact⟨by rw[←e];exact h3,fun y hy=>by rw[←e];exact h4 y hy⟩
theorem szGo_okT:∀(xs:List ByteArray) (l:Int),l≤1000000→0≤szGo xs l→okT xs=true
 | [],_,_,_=>rfl
 |x::xs,l,h0,h=>by
  unfold szGo at h
  split at h
  ·omega
  ·have:=szGo_okT xs (l - (x.size:Int)) (by omega) h
   unfold okT at*
   rw[List.all_cons,this,Bool.and_true]
   have h1:0≤l - (x.size:Int):=by omega
   exact decide_eq_true (by omega)
theorem szS_okT {xs:List ByteArray} {l:Int} (hl:l≤1000000) (h:0≤szS xs l):okT xs=true∧(xs.length:Int)≤l∧szS xs l≤l:=by
 unfold szS at*
 split at h
 ·omega
 ·rename_i hn
  rw[if_neg hn]
  have hs:=szGo_le xs (l - (xs.length:Int)) (by omega)
  exact⟨szGo_okT xs _ (by omega) h,by omega,by omega⟩
theorem sz2Go_okT:∀(xs:List (List ByteArray)) (l:Int),0≤l→l≤1000000→0≤sz2Go xs l→xs.all okT=true
 | [],_,_,_,_=>rfl
 |x::xs,l,h0,h1,h=>by
  simp only[sz2Go]at h
  split at h
  ·omega
  ·rename_i hn
   obtain⟨k1,k2,k3⟩:=szS_okT (xs:=x) h1 (by omega)
   rw[List.all_cons,k1,Bool.true_and]
   exact sz2Go_okT xs (szS x l) (by omega) (by omega) h
theorem mk2n_le:∀(u:List (List ByteArray)) (l:Int),0≤l→l≤1000000→0≤sz2Go u l→(mk2n (u.map (tos spare false)):Int)≤l
 | [],_,h0,_,_=>h0
 |x::xs,l,h0,h1,h=>by
  simp only[sz2Go]at h
  split at h
  ·omega
  ·rename_i hn
   have:=mk2n_le xs (szS x l) (by omega) (by have:=szS_le x l h0;omega) h
   have a:szS x l≤l - (x.length:Int):=by
    unfold szS at hn ⊢
    split at hn
    ·omega
    ·rename_i hq
     rw[if_neg hq]
     exact(szGo_le x _ (by omega)).1
   rw[List.map_cons,mk2n]
   have e:seen (tos spare false x).1 0 (tos spare false x).2=x:=tos_take spare false x
   rw[e]
   omega
theorem szChain_eq (u:List (List ByteArray)) (l:Int) (hu:okTT u) (h0:0≤l) (h1:l≤1000000):∃r,S.l_szChain (u,l,())=some (r,())∧r≤l∧(0≤r→okRS u∧u.all okT=true∧mk2n (u.map (tos spare false))≤1000000):=by
 unfold S.l_szChain P.l_szChain
 dsimp only
 have e:S.l_szStringSS (u,l,())=some (sz2 u l,()):=by
  unfold S.l_szStringSS
  rw[if_pos ⟨hu,h0,h1⟩]
 obtain⟨a,b,c⟩:=sz2_le u l h0
 rw[e,Option.bind_some]
 by_cases hn:sz2 u l<0
 ·exact⟨-1,by simp [hn],by omega,by omega⟩
 ·refine⟨sz2 u l,by simp [hn],by omega,fun h=> ?_⟩
  obtain⟨c1,c2⟩:=c h
  refine⟨⟨by omega,fun x hx=>by have:=c2 x hx;omega⟩,?_⟩
  unfold sz2 at h
  split at h
  ·omega
  ·have:=mk2n_le u _ (by omega) (by omega) h
   exact⟨sz2Go_okT u _ (by omega) (by omega) h,by omega⟩
theorem intactChain_eq (u:List (List ByteArray)) (hu:okRS u):S.l_intactChain (((tos2 false u).1,(tos2 false u).2),((tos2 false u).1,(tos2 false u).2),())=some (true,()):=by
 unfold S.l_intactChain P.l_intactChain
 dsimp only
 have e:S.l_intactStringSS (((tos2 false u).1,(tos2 false u).2),((tos2 false u).1,(tos2 false u).2),())=some (true,()):=by
  unfold S.l_intactStringSS
  rw[if_pos ⟨u,hu,rfl⟩]
 rw[e]
 rfl
theorem toChaino_eq (u:List (List ByteArray)) (b:Bool) (hu:okRS u):S.l_toChaino (u,b,())=some (tos2 b u,()):=by
 unfold S.l_toChaino P.l_toChaino S.l_toStringSSo S.l_toStringSS
 dsimp only
 rw[if_pos hu,Option.bind_some]
 simp only[hd0_dup,nrm_hd0,Bool.false_eq_true,if_false]
theorem markChain_eq (u:List (List ByteArray)) (hm:mk2n (u.map (tos spare false))≤1000000) (hu:okRS u):∃r,S.l_markChain ((tos2 false u).1.take (tos2 false u).2,101,())=some r∧0≤r.1:=by
 have e:(tos2 false u).1.take (tos2 false u).2=u.map (tos spare false):=by
  rw[tos2_false]
  simp
 rw[e]
 unfold S.l_markChain P.l_markChain S.l_markStringSS
 dsimp only
 simp only[hd0_dup,nrm_hd0,Bool.false_eq_true,if_false]
 rw[if_pos ⟨by decide,by decide,by omega,by rw[List.length_map];exact Nat.le_trans hu.1 (by decide)⟩,Option.bind_some]
 refine⟨_,rfl,?_⟩
 show(0:Int)≤101+_
 omega
theorem eqI (y:List Int) (h:y.length≤1000):S.l_eqInt64S (y,y,())=some (true,()):=by
 unfold S.l_eqInt64S
 dsimp only
 rw[if_pos (by omega),beq_self_eq_true]
theorem markI (y:List Int) (h:y.length≤1000):S.l_markInt64S (y,101,())=some (101+(y.length:Int),(ramp y.length,())):=by
 unfold S.l_markInt64S
 dsimp only
 rw[if_pos ⟨rfl,by omega⟩]
theorem heldI (n:Nat) (h:n≤1000):S.l_heldInt64S (ramp n,101,())=some (101+(n:Int),()):=by
 unfold S.l_heldInt64S
 dsimp only
 rw[ramp_len,if_pos ⟨rfl,by omega,rfl⟩]
theorem parse_s (u:List (List ByteArray)) (hu:u.all okT=true):S.s_l03Parse (u,())=some ((mp B10 (chQ u).1,(chQ u).2),()):=by
 unfold S.s_l03Parse
 exact if_pos hu
theorem parse_i (u:List (List ByteArray)) (hu:u.all okT=true):S.i_chainOf (u,())=some ((mp B32 (chQ u).1,(chQ u).2),()):=by
 unfold S.i_chainOf
 exact if_pos hu
def lawT (u:List (List ByteArray)):List Int×Bool:=if(chQ u).2=true then(posF 0 (clsM (chQ u).1).2,true)else([],false)
theorem law_len (u:List (List ByteArray)):(lawT u).1.length≤1000:=by
 unfold lawT
 split
 ·rename_i h
  have h2:=(chQ_ok h).1.2.1.1
  obtain⟨l1,l2⟩:=clsF_len (rcB (chQ u).1) (chQ u).1.length (chQ u).1.length
  have e:clsM (chQ u).1=(List.range (chQ u).1.length).foldl (clsStep (rcB (chQ u).1) (chQ u).1.length) (List.replicate (chQ u).1.length (-1),[]):=rfl
  rw[←e]at l1 l2
  dsimp only
  have:=posF_len 0 (clsM (chQ u).1).2
  omega
 ·simp
theorem s_law (u:List (List ByteArray)) (hu:u.all okT=true):S.s_ClosedClasses (u,())=some (lawT u,()):=by
 unfold S.s_ClosedClasses P.s_ClosedClasses lawT
 dsimp only
 rw[parse_s u hu,Option.bind_some]
 dsimp only
 cases hc:(chQ u).2
 ·rw[if_pos (by decide),if_neg (by simp)]
 obtain⟨h1,h2⟩:=chQ_ok hc
 rw[if_neg (by decide),if_pos rfl]
 unfold S.s_l03Classes
 dsimp only
 rw[if_pos ⟨_,h1.2.1,rfl⟩,mv_mp (by decide),Option.bind_some]
theorem i_law (u:List (List ByteArray)) (hu:u.all okT=true):S.i_ClosedClasses (u,())=some (lawT u,()):=by
 unfold S.i_ClosedClasses P.i_ClosedClasses lawT
 dsimp only
 rw[parse_i u hu,Option.bind_some]
 dsimp only
 cases hc:(chQ u).2
 ·rw[if_pos (by decide),if_neg (by simp)]
 obtain⟨h1,h2⟩:=chQ_ok hc
 have hl:=h1.2.1.1
 rw[if_neg (by decide),if_pos rfl]
 unfold S.i_classes
 dsimp only
 rw[if_pos ⟨_,h1.2.1,rfl⟩,mv_mp (by decide),Option.bind_some]
 unfold S.i_setOf
 dsimp only
 have l2:=(clsF_len (rcB (chQ u).1) (chQ u).1.length (chQ u).1.length).2
 have e:clsM (chQ u).1=(List.range (chQ u).1.length).foldl (clsStep (rcB (chQ u).1) (chQ u).1.length) (List.replicate (chQ u).1.length (-1),[]):=rfl
 rw[←e]at l2
 rw[if_pos (by omega),Option.bind_some]
theorem ClosedClasses_true (x:PTy [PK.bo (Kd.st (Kd.sl (Kd.sl Kd.str)))]) (h:BdA _ x) (hz:SzA _ x):∃m,S.l_FnExactClosedClasses x=some (true,m):=by
 obtain⟨u,q⟩:=x
 obtain⟨h1,_⟩:=h
 refine⟨(),?_⟩
 show P.l_FnExactClosedClasses 0 (u,())=some (true,())
 unfold P.l_FnExactClosedClasses
 dsimp only
 obtain⟨r,e1,e2,e3⟩:=szChain_eq u 1000000 (okTT_of h1) (by omega) (by omega)
 rw[e1,Option.bind_some]
 by_cases hn:r<0
 ·simp [hn]
 obtain⟨hu,ku,km⟩:=e3 (by omega)
 obtain⟨k,k1,k2⟩:=markChain_eq u km hu
 have hy:=law_len u
 have t2:∀b,List.map (fun(y:List ByteArray×Nat)=>List.map (fun z=>z) (y.1.take y.2)) (seen (tos2 b u).1 0 (tos2 b u).2)=u:=fun b=>tos2_take b u
 have hsp:splice (lawT u).1 (ramp (lawT u).1.length) 0=ramp (lawT u).1.length:=splice_all (ramp_len _).symm
 simp only[toChaino_eq u _ hu,Option.bind_some,t2,s_law u ku,i_law u ku,eqI _ hy,intactChain_eq u hu,hn,decide_false,Bool.false_eq_true,if_false,hd0_take,hd0_dup,nrm_hd0,nrm_take,List.drop_zero,k1,markI _ hy,hsp,heldI _ hy,Bool.not_true,beq_self_eq_true]
 rw[if_neg (by simpa using k2),if_neg (by simp;omega),if_neg (by simp),if_neg (by simp;omega),if_neg (by simp)]
end Go.Cm
