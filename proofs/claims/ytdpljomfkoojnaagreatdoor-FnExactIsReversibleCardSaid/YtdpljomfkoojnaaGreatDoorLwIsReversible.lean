import Derived.Test.YtdpljomfkoojnaaGreatDoorPlIsReversible
import Derived.Test.YtdpljomfkoojnaaGreatDoorCmZL
set_option linter.unusedVariables false
namespace Go.Cm
theorem okTT_of {xs:List (List ByteArray)} (h:Bd (.sl (.sl .str)) xs):okTT xs:=by
 obtain⟨h1,h2⟩:=h;have e:maxLen=9223372036854775807:=rfl;refine⟨by rw[<-e];exact h1,fun x hx=> ?_⟩;obtain⟨h3,h4⟩:=h2 x hx;exact⟨by rw[<-e];exact h3,fun y hy=>by rw[<-e];exact h4 y hy⟩
theorem szGo_okT:∀(xs:List ByteArray) (l:Int),l<=1000000->0<=szGo xs l->okT xs=true
 | [],_,_,_=>rfl
 |x::xs,l,h0,h=>by
  unfold szGo at h;split at h
  ·omega
  ·have:=szGo_okT xs (l - (x.size:Int)) (by omega) h;unfold okT at*;rw[List.all_cons,this,Bool.and_true];have h1:0<=l - (x.size:Int):=by omega
   exact decide_eq_true (by omega)
theorem szS_okT {xs:List ByteArray} {l:Int} (hl:l<=1000000) (h:0<=szS xs l):okT xs=true/\(xs.length:Int)<=l/\szS xs l<=l:=by
 unfold szS at*;split at h
 ·omega
 ·rename_i hn;rw[if_neg hn];have hs:=szGo_le xs (l - (xs.length:Int)) (by omega);exact⟨szGo_okT xs _ (by omega) h,by omega,by omega⟩
theorem sz2Go_okT:∀(xs:List (List ByteArray)) (l:Int),0<=l->l<=1000000->0<=sz2Go xs l->xs.all okT=true
 | [],_,_,_,_=>rfl
 |x::xs,l,h0,h1,h=>by
  simp only[sz2Go]at h;split at h
  ·omega
  ·rename_i hn;obtain⟨k1,k2,k3⟩:=szS_okT (xs:=x) h1 (by omega);rw[List.all_cons,k1,Bool.true_and];exact sz2Go_okT xs (szS x l) (by omega) (by omega) h
theorem szChain_eq (u:List (List ByteArray)) (l:Int) (hu:okTT u) (h0:0<=l) (h1:l<=1000000):∃r,S.l_szChain (u,l,())=some (r,())/\r<=l/\(0<=r->okRS u/\u.all okT=true):=by
 unfold S.l_szChain P.l_szChain;dsimp only;have e:S.l_szStringSS (u,l,())=some (sz2 u l,()):=by
  unfold S.l_szStringSS;rw[if_pos ⟨hu,h1, .inl h0⟩]
 obtain⟨a,b,c⟩:=sz2_le u l h0;rw[e,Option.bind_some]
 by_cases hn:sz2 u l<0
 ·exact⟨-1,by simp [hn],by omega,by omega⟩
 ·refine⟨sz2 u l,by simp [hn],by omega,fun h=> ?_⟩;obtain⟨c1,c2⟩:=c h;refine⟨⟨by omega,fun x hx=>by have:=c2 x hx;omega⟩,?_⟩;unfold sz2 at h;split at h
  ·omega
  ·exact sz2Go_okT u _ (by omega) (by omega) h
theorem intactChain_eq (u:List (List ByteArray)) (hu:okRS u):S.l_intactChain (((tos2 false u).1,(tos2 false u).2),((tos2 false u).1,(tos2 false u).2),())=some (true,()):=by
 unfold S.l_intactChain P.l_intactChain;dsimp only;have e:S.l_intactStringSS (((tos2 false u).1,(tos2 false u).2),((tos2 false u).1,(tos2 false u).2),())=some (true,()):=by
  unfold S.l_intactStringSS;rw[if_pos ⟨u,hu,rfl⟩]
 rw[e];rfl
theorem toChain_eq (u:List (List ByteArray)) (b:Bool) (hu:okRS u):S.l_toChain (u,b,())=some (tos2 b u,()):=by
 unfold S.l_toChain P.l_toChain S.l_toStringSS;dsimp only;rw[if_pos hu,Option.bind_some]
theorem parse_i (u:List (List ByteArray)) (hu:u.all okT=true):S.i_chainOf (u,())=some ((mp B32 (chQ u).1,(chQ u).2),()):=by
 unfold S.i_chainOf;exact if_pos hu
theorem s_law (u:List (List ByteArray)) (hu:u.all okT=true):S.s_IsReversible (u,())=some (irT u,()):=by
 unfold S.s_IsReversible;exact if_pos hu
theorem i_law (u:List (List ByteArray)) (hu:u.all okT=true):S.i_IsReversible (u,())=some (irT u,()):=by
 unfold S.i_IsReversible P.i_IsReversible irT;dsimp only;rw[parse_i u hu,Option.bind_some];dsimp only;cases hf:(chQ u).2
 ·rw[if_neg (by decide)];rfl
 obtain⟨hM,_⟩:=chQ_ok hf;generalize (chQ u).1=M at*;have hI:=hM.2.1;have ec:S.i_oneClass (mp B32 M,())=some (oneK M,()):=by
  unfold S.i_oneClass P.i_oneClass S.i_classes oneK;dsimp only;rw[if_pos ⟨M,hI,rfl⟩,mv_mp (by decide),Option.bind_some];congr 2;dsimp only;generalize (clsM M).2.length=n;rw[Bool.eq_iff_iff,beq_iff_eq,decide_eq_true_eq];omega
 rw[if_pos rfl,ec,Option.bind_some];dsimp only;cases h1:oneK M
 ·rw[if_neg (by decide)];rfl
 have er:S.i_reversed (mp B32 M,())=some ((om B32 M.length M.length (revQ M),M.length),()):=by
  unfold S.i_reversed;dsimp only;rw[if_pos ⟨M,hM,h1,rfl⟩,mv_mp (by decide),mp_len]
 have hs:seen (om B32 M.length M.length (revQ M)) 0 M.length=om B32 M.length M.length (revQ M):=by
  unfold seen;rw[List.drop_zero,List.take_of_length_le (by rw[om_len];exact Nat.le_refl _)]
 have eq:S.i_sameRows (mp B32 M,mp B32 (mat M.length (revQ M)),())=some (decide (M=mat M.length (revQ M)),()):=by
  unfold S.i_sameRows P.i_sameRows S.slices_EqualFunc___i_rat___i_rat__i_rat__i_rat;dsimp only;rw[if_pos ⟨_,_,ch_okM hM,okM_mat hI.1 fun i hi j hj=>((rev_ok hM h1).2 i hi j hj).2,rfl,rfl⟩,mv_mp (by decide),mv_mp (by decide),Option.bind_some]
 rw[if_pos rfl,er,Option.bind_some];dsimp only;rw[nrm_hd0,hs,om_view,eq,Option.bind_some];rfl
theorem IsReversible_true (x:PTy [PK.bo (Kd.st (Kd.sl (Kd.sl Kd.str)))]) (h:BdA _ x) (hz:SzA _ x):∃m,S.l_FnExactIsReversible x=some (true,m):=by
 obtain⟨u,q⟩:=x;obtain⟨h1,_⟩:=h;refine⟨(),?_⟩;show P.l_FnExactIsReversible 0 (u,())=some (true,());unfold P.l_FnExactIsReversible;dsimp only;obtain⟨r,e1,e2,e3⟩:=szChain_eq u 1000000 (okTT_of h1) (by omega) (by omega);rw[e1,Option.bind_some]
 by_cases hn:r<0
 ·simp [hn]
 obtain⟨hu,ku⟩:=e3 (by omega);have t2:∀b,List.map (fun(y:List ByteArray×Nat)=>List.map (fun z=>z) (y.1.take y.2)) ((tos2 b u).1.take (tos2 b u).2)=u:=fun b=>tos2_take b u
 simp only[toChain_eq u _ hu,Option.bind_some,t2,s_law u ku,i_law u ku,intactChain_eq u hu,hn,decide_false,Bool.false_eq_true,if_false,Bool.not_true,beq_self_eq_true]
end Go.Cm
