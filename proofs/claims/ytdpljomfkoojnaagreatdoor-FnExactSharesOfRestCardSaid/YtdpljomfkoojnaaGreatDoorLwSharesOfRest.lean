import Derived.Test.YtdpljomfkoojnaaGreatDoorPlSharesOfRest
import Derived.Test.YtdpljomfkoojnaaGreatDoorCmZL
set_option linter.unusedVariables false
namespace Go.Cm
theorem okTT_of {xs:List (List ByteArray)} (h:Bd (.sl (.sl .str)) xs):okTT xs:=by
 obtain⟨h1,h2⟩:=h;have e:maxLen=9223372036854775807:=rfl;refine⟨by rw[←e];exact h1,fun x hx=> ?_⟩;obtain⟨h3,h4⟩:=h2 x hx;exact⟨by rw[←e];exact h3,fun y hy=>by rw[←e];exact h4 y hy⟩
theorem szGo_okT:∀(xs:List ByteArray) (l:Int),l≤1000000→0≤szGo xs l→okT xs=true
 | [],_,_,_=>rfl
 |x::xs,l,h0,h=>by
  unfold szGo at h;split at h
  ·omega
  ·have:=szGo_okT xs (l - (x.size:Int)) (by omega) h;unfold okT at*;rw[List.all_cons,this,Bool.and_true];have h1:0≤l - (x.size:Int):=by omega
   exact decide_eq_true (by omega)
theorem szS_okT {xs:List ByteArray} {l:Int} (hl:l≤1000000) (h:0≤szS xs l):okT xs=true∧(xs.length:Int)≤l∧szS xs l≤l:=by
 unfold szS at*;split at h
 ·omega
 ·rename_i hn;rw[if_neg hn];have hs:=szGo_le xs (l - (xs.length:Int)) (by omega);exact⟨szGo_okT xs _ (by omega) h,by omega,by omega⟩
theorem sz2Go_okT:∀(xs:List (List ByteArray)) (l:Int),0≤l→l≤1000000→0≤c1y xs l→xs.all okT=true
 | [],_,_,_,_=>rfl
 |x::xs,l,h0,h1,h=>by
  simp only[c1y]at h;split at h
  ·omega
  ·rename_i hn;obtain⟨k1,k2,k3⟩:=szS_okT (xs:=x) h1 (by omega);rw[List.all_cons,k1,Bool.true_and];exact sz2Go_okT xs (szS x l) (by omega) (by omega) h
theorem mk2n_le:∀(u:List (List ByteArray)) (l:Int),0≤l→l≤1000000→0≤c1y u l→(b8g (u.map (tos a4d false)):Int)≤l
 | [],_,h0,_,_=>h0
 |x::xs,l,h0,h1,h=>by
  simp only[c1y]at h;split at h
  ·omega
  ·rename_i hn;have:=mk2n_le xs (szS x l) (by omega) (by have:=szS_le x l h0;omega) h;have a:szS x l≤l - (x.length:Int):=by
    unfold szS at hn ⊢;split at hn
    ·omega
    ·rename_i hq;rw[if_neg hq];exact(szGo_le x _ (by omega)).1
   rw[List.map_cons,b8g];have e:seen (tos a4d false x).1 0 (tos a4d false x).2=x:=tos_take a4d false x;rw[e];omega
theorem szChain_eq (u:List (List ByteArray)) (l:Int) (hu:okTT u) (h0:0≤l) (h1:l≤1000000):∃r,S.b8e (u,l,())=some (r,())∧r≤l∧(0≤r→okRS u∧u.all okT=true∧b8g (u.map (tos a4d false))≤1000000):=by
 unfold S.b8e P.c1z;dsimp only;have e:S.a8e (u,l,())=some (sz2 u l,()):=by
  unfold S.a8e;rw[if_pos ⟨hu,h0,h1⟩]
 obtain⟨a,b,c⟩:=sz2_le u l h0;rw[e,Option.bind_some]
 by_cases hn:sz2 u l<0
 ·exact⟨-1,by simp [hn],by omega,by omega⟩
 ·refine⟨sz2 u l,by simp [hn],by omega,fun h=> ?_⟩;obtain⟨c1,c2⟩:=c h;refine⟨⟨by omega,fun x hx=>by have:=c2 x hx;omega⟩,?_⟩;unfold sz2 at h;split at h
  ·omega
  ·have:=mk2n_le u _ (by omega) (by omega) h;exact⟨sz2Go_okT u _ (by omega) (by omega) h,by omega⟩
theorem intactChain_eq (u:List (List ByteArray)) (hu:okRS u):S.a8y (((c8r false u).1,(c8r false u).2),((c8r false u).1,(c8r false u).2),())=some (true,()):=by
 unfold S.a8y P.b2r;dsimp only;have e:S.a4e (((c8r false u).1,(c8r false u).2),((c8r false u).1,(c8r false u).2),())=some (true,()):=by
  unfold S.a4e;rw[if_pos ⟨u,hu,rfl⟩]
 rw[e];rfl
theorem toChaino_eq (u:List (List ByteArray)) (b:Bool) (hu:okRS u):S.a8g (u,b,())=some (c8r b u,()):=by
 unfold S.a8g P.b9t S.a8z S.b9i;dsimp only;rw[if_pos hu,Option.bind_some];simp only[a1p,a1z,Bool.false_eq_true,if_false]
theorem splice_own {α:Type} (xs ys:List α) (h:ys.length=xs.length):splice xs ys 0=ys:=by
 unfold splice;simp [h]
theorem eqS_refl (xs:List ByteArray) (h:xs.length≤1000000):S.a2l (xs,(xs,()))=some (true,()):=by
 unfold S.a2l;dsimp only;rw[if_pos (by omega),c6p]
theorem mkS (xs:List ByteArray) (q:Int) (h0:0≤q) (hq:q≤10000000) (h:xs.length≤1000000):S.a3n (xs,(q,()))=some (q+(xs.length:Int),(b5s q xs.length,())):=by
 unfold S.a3n;dsimp only;rw[if_pos ⟨by omega,by omega,by omega⟩]
theorem hdS (n:Nat) (q:Int) (h0:0≤q) (hq:q≤10000000) (h:n≤1000000):S.a5b (b5s q n,(q,()))=some (q+(n:Int),()):=by
 unfold S.a5b;dsimp only;rw[a7a,if_pos ⟨by omega,by omega,by omega,rfl⟩]
theorem parse_s (u:List (List ByteArray)) (hu:u.all okT=true):S.b3n (u,())=some ((mp B10 (chQ u).1,(chQ u).2),()):=by
 unfold S.b3n;exact if_pos hu
theorem parse_i (u:List (List ByteArray)) (hu:u.all okT=true):S.b5x (u,())=some ((mp B32 (chQ u).1,(chQ u).2),()):=by
 unfold S.b5x;exact if_pos hu
theorem markChain_eq2 (u:List (List ByteArray)) (hm:b8g (u.map (tos a4d false))≤1000000) (hu:okRS u):∃r,S.b3t ((c8r false u).1.take (c8r false u).2,101,())=some r∧101≤r.1∧r.1≤1000101:=by
 have e:(c8r false u).1.take (c8r false u).2=u.map (tos a4d false):=by
  rw[tos2_false];simp
 rw[e];unfold S.b3t P.b6o S.a7b;dsimp only;simp only[a1p,a1z,Bool.false_eq_true,if_false];rw[if_pos ⟨by decide,by decide,by omega,by rw[List.length_map];exact Nat.le_trans hu.1 (by decide)⟩,Option.bind_some];refine⟨_,rfl,?_⟩;constructor
 ·show(101:Int)≤101+_;omega
 ·show 101+((b8g (u.map (tos a4d false)):Nat):Int)≤1000101;omega
def lawT (u:List (List ByteArray)):List ByteArray×Bool:=if(chQ u).2=true∧(b4s (chQ u).1).2=true then giveL (b4s (chQ u).1).1 else([],false)
theorem rest_ok {u:List (List ByteArray)} (h:(chQ u).2=true):(∀q∈(b4s (chQ u).1).1,low q∧below 350000000 q)∧(b4s (chQ u).1).1.length≤12:=by
 obtain⟨hM,_⟩:=chQ_ok h;have hn:=hM.2.1.1
 by_cases h1:(a5o 0 (b5g (chQ u).1).2).length=1
 ·obtain⟨k,hk⟩:=len_one h1;rw[restT_one hk];refine⟨fun q hq=> ?_,by rw[a2c];exact hn⟩;obtain⟨j,hj,rfl⟩:=b9j.1 hq;obtain⟨y,hy⟩:∃y,y=120000000:=⟨_,rfl⟩
  have:=(restI_ok hM hk hy).1 j hj;exact⟨this.1,c0b (by omega) this.2⟩
 ·rw[c6h h1];exact⟨fun q hq=>(by cases hq),by simp⟩
theorem law_len (u:List (List ByteArray)):(lawT u).1.length≤1000000:=by
 unfold lawT;split
 ·rename_i h;have:=(rest_ok h.1).2;unfold giveL;split
  ·simp only[List.length_map];omega
  ·simp
 ·simp
theorem s_law (u:List (List ByteArray)) (hu:u.all okT=true):S.a7l (u,())=some (lawT u,()):=by
 unfold S.a7l P.b1n lawT;dsimp only;rw[parse_s u hu,Option.bind_some];dsimp only;cases hc:(chQ u).2
 ·rw[if_pos (by decide),if_neg (by simp)]
 obtain⟨hM,_⟩:=chQ_ok hc;obtain⟨h1,h2⟩:=rest_ok hc;have er:S.b6k (mp B10 (chQ u).1,())=some (((b4s (chQ u).1).1.map (rp B10),(b4s (chQ u).1).2),()):=by
  unfold S.b6k;dsimp only;rw[if_pos ⟨_,hM,rfl⟩,c3h (by decide)]
 have eg:S.a8h ((b4s (chQ u).1).1.map (rp B10),())=some (giveL (b4s (chQ u).1).1,()):=by
  unfold S.a8h;dsimp only;rw[if_pos ⟨all_rok (by decide) (by decide) h1,by rw[List.length_map];omega⟩,b2o a0d]
 rw[if_neg (by decide),er,Option.bind_some];dsimp only;cases hr:(b4s (chQ u).1).2
 ·rw[if_pos (by decide),if_neg (by simp)]
 ·rw[if_neg (by decide),eg,Option.bind_some,if_pos ⟨rfl,rfl⟩]
theorem i_law (u:List (List ByteArray)) (hu:u.all okT=true):S.a5r (u,())=some (lawT u,()):=by
 unfold S.a5r P.b1l S.b3e P.b3d lawT;dsimp only;rw[parse_i u hu,Option.bind_some];dsimp only;cases hc:(chQ u).2
 ·rw[if_pos (by decide),if_neg (by simp),Option.bind_some];rfl
 obtain⟨hM,_⟩:=chQ_ok hc;obtain⟨h1,h2⟩:=rest_ok hc;have er:S.i_rest (mp B32 (chQ u).1,())=some (((b4s (chQ u).1).1.map (rp B32),(b4s (chQ u).1).2),()):=by
  unfold S.i_rest;dsimp only;rw[if_pos ⟨_,hM,rfl⟩,c3h (by decide)]
 have eg:S.b3s ((b4s (chQ u).1).1.map (rp B32),())=some (giveL (b4s (chQ u).1).1,()):=by
  unfold S.b3s;dsimp only;rw[if_pos ⟨all_rok (by decide) (by decide) h1,by rw[List.length_map];omega⟩,b2o a0e]
 rw[if_neg (by decide),er,Option.bind_some,Option.bind_some];dsimp only;cases hr:(b4s (chQ u).1).2
 ·rw[if_pos (by decide),if_neg (by simp)]
 ·rw[if_neg (by decide),eg,Option.bind_some,if_pos ⟨rfl,rfl⟩]
theorem c6i (x:PTy [PK.bo (Kd.st (Kd.sl (Kd.sl Kd.str)))]) (h:BdA _ x) (hz:SzA _ x):∃m,S.a6l x=some (true,m):=by
 obtain⟨u,q⟩:=x;obtain⟨h1,_⟩:=h;refine⟨(),?_⟩;show P.a3c 0 (u,())=some (true,());unfold P.a3c;dsimp only;obtain⟨r,e1,e2,e3⟩:=szChain_eq u 1000000 (okTT_of h1) (by omega) (by omega);rw[e1,Option.bind_some]
 by_cases hn:r<0
 ·simp [hn]
 rw[if_neg (by simpa using hn)];obtain⟨hu,ku,km⟩:=e3 (by omega);obtain⟨⟨k,km2,kq⟩,k1,k2,k3⟩:=markChain_eq2 u (by omega) hu;dsimp only at k2 k3;have hy:=law_len u;have t2:∀b,List.map (fun(y:List ByteArray×Nat)=>List.map (fun z=>z) (y.1.take y.2)) (seen (c8r b u).1 0 (c8r b u).2)=u:=fun b=>tos2_take b u
 simp only[toChaino_eq u _ hu,Option.bind_some,t2,s_law u ku,i_law u ku,eqS_refl _ hy,intactChain_eq u hu,Bool.false_eq_true,if_false,hd0_take,a1p,a1z,nrm_take,List.drop_zero,k1,mkS _ 101 (by omega) (by omega) hy,splice_own _ _ (a7a _ _),hdS _ 101 (by omega) (by omega) hy,Bool.not_true,beq_self_eq_true];have e5:¬(k<0):=by omega
 have e6:¬(101+((lawT u).1.length:Int)<0):=by omega
 simp [e5,e6]
end Go.Cm
