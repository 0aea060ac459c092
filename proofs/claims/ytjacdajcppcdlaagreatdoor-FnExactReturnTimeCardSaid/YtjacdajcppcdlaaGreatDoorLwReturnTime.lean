import Derived.Test.YtjacdajcppcdlaaGreatDoorPlReturnTime
import Derived.Test.YtjacdajcppcdlaaGreatDoorCmXz
import Derived.Test.YtjacdajcppcdlaaGreatDoorCmZL
set_option linter.unusedVariables false
namespace Go.Cm
theorem okTT_of {xs:List (List ByteArray)} (h:Bd (.sl (.sl .str)) xs):okTT xs:=by
 obtain⟨h1,h2⟩:=h;have e:maxLen=9223372036854775807:=rfl;refine⟨by rw[<-e];exact h1,fun x hx=> ?_⟩;obtain⟨h3,h4⟩:=h2 x hx;exact⟨by rw[<-e];exact h3,fun y hy=>by rw[<-e];exact h4 y hy⟩
theorem szGo_okT:∀(xs:List ByteArray) (l:Int),l<=1000000->0<=szGo xs l->okT xs=true
 | [],_,_,_=>rfl
 |x::xs,l,h0,h=>by
  unfold szGo at h;split at h
  ·omega
  ·have:=szGo_okT xs (l - (x.size:Int)) (by omega) h;unfold okT at*;rw[List.all_cons,this,Bool.and_true];have h1:0<=l - (x.size:Int):=by omega
   exact decide_eq_true (by omega)
theorem szS_okT {xs:List ByteArray} {l:Int} (hl:l<=1000000) (h:0<=szS xs l):okT xs=true/\(xs.length:Int)<=l/\szS xs l<=l:=by
 unfold szS at*;split at h
 ·omega
 ·rename_i hn;rw[if_neg hn];have hs:=szGo_le xs (l - (xs.length:Int)) (by omega);exact⟨szGo_okT xs _ (by omega) h,by omega,by omega⟩
theorem sz2Go_okT:∀(xs:List (List ByteArray)) (l:Int),0<=l->l<=1000000->0<=sz2Go xs l->xs.all okT=true
 | [],_,_,_,_=>rfl
 |x::xs,l,h0,h1,h=>by
  simp only[sz2Go]at h;split at h
  ·omega
  ·rename_i hn;obtain⟨k1,k2,k3⟩:=szS_okT (xs:=x) h1 (by omega);rw[List.all_cons,k1,Bool.true_and];exact sz2Go_okT xs (szS x l) (by omega) (by omega) h
theorem szChain_eq (u:List (List ByteArray)) (l:Int) (hu:okTT u) (h0:0<=l) (h1:l<=1000000):∃r,S.l_szChain (u,l,())=some (r,())/\r<=l/\(0<=r->okRS u/\u.all okT=true):=by
 unfold S.l_szChain P.l_szChain;dsimp only;have e:S.l_szStringSS (u,l,())=some (sz2 u l,()):=by
  unfold S.l_szStringSS;rw[if_pos ⟨hu,h1, .inl h0⟩]
 obtain⟨a,b,c⟩:=sz2_le u l h0;rw[e,Option.bind_some]
 by_cases hn:sz2 u l<0
 ·exact⟨-1,by simp [hn],by omega,by omega⟩
 ·refine⟨sz2 u l,by simp [hn],by omega,fun h=> ?_⟩;obtain⟨c1,c2⟩:=c h;refine⟨⟨by omega,fun x hx=>by have:=c2 x hx;omega⟩,?_⟩;unfold sz2 at h;split at h
  ·omega
  ·exact sz2Go_okT u _ (by omega) (by omega) h
theorem intactChain_eq (u:List (List ByteArray)) (hu:okRS u):S.l_intactChain (((tos2 false u).1,(tos2 false u).2),((tos2 false u).1,(tos2 false u).2),())=some (true,()):=by
 unfold S.l_intactChain P.l_intactChain;dsimp only;have e:S.l_intactStringSS (((tos2 false u).1,(tos2 false u).2),((tos2 false u).1,(tos2 false u).2),())=some (true,()):=by
  unfold S.l_intactStringSS;rw[if_pos ⟨u,hu,rfl⟩]
 rw[e];rfl
theorem toChain_eq (u:List (List ByteArray)) (b:Bool) (hu:okRS u):S.l_toChain (u,b,())=some (tos2 b u,()):=by
 unfold S.l_toChain P.l_toChain S.l_toStringSS;dsimp only;rw[if_pos hu,Option.bind_some]
theorem s_law (u:List (List ByteArray)) (s:Int) (hu:u.all okT=true):S.s_ReturnTime (u,s,())=some (rtT u s,()):=by
 unfold S.s_ReturnTime;exact if_pos hu
theorem i_law (u:List (List ByteArray)) (s:Int) (hu:u.all okT=true):S.i_ReturnTime (u,s,())=some (rtT u s,()):=by
 unfold S.i_ReturnTime;exact if_pos hu
theorem ReturnTime_true (x:PTy [PK.bo (Kd.st (Kd.sl (Kd.sl Kd.str))),PK.ro (Kd.int IntKind.i64)]) (h:BdA _ x) (hz:SzA _ x):∃m,S.l_FnExactReturnTime x=some (true,m):=by
 obtain⟨u,s,q⟩:=x;obtain⟨h1,_⟩:=h;refine⟨(),?_⟩;show P.l_FnExactReturnTime 0 (u,s,())=some (true,());unfold P.l_FnExactReturnTime;dsimp only;obtain⟨r,e1,e2,e3⟩:=szChain_eq u 1000000 (okTT_of h1) (by omega) (by omega);rw[e1,Option.bind_some]
 by_cases hn:r<0
 ·simp [hn]
 obtain⟨hu,ku⟩:=e3 (by omega);have t2:∀b,List.map (fun(y:List ByteArray×Nat)=>List.map (fun z=>z) (y.1.take y.2)) ((tos2 b u).1.take (tos2 b u).2)=u:=fun b=>tos2_take b u
 simp only[toChain_eq u _ hu,Option.bind_some,t2,s_law u s ku,i_law u s ku,intactChain_eq u hu,hn,decide_false,Bool.false_eq_true,if_false,Bool.not_true,beq_self_eq_true]
end Go.Cm
