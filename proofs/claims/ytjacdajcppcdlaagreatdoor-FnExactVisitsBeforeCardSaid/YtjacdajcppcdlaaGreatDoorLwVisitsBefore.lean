import Derived.Test.YtjacdajcppcdlaaGreatDoorPlVisitsBefore
import Derived.Test.YtjacdajcppcdlaaGreatDoorCmXz
import Derived.Test.YtjacdajcppcdlaaGreatDoorCmZL
set_option linter.unusedVariables false
namespace Go.Cm
theorem okTT_of {xs:List (List ByteArray)} (h:Bd (.sl (.sl .str)) xs):okTT xs:=by
 obtain⟨h1,h2⟩:=h;have e:maxLen=9223372036854775807:=rfl;refine⟨by rw[<-e];exact h1,fun x hx=> ?_⟩;obtain⟨h3,h4⟩:=h2 x hx;exact⟨by rw[<-e];exact h3,fun y hy=>by rw[<-e];exact h4 y hy⟩
theorem szGo_okT:∀(xs:List ByteArray) (l:Int),l<=1000000->0<=szGo xs l->okT xs=true
 | [],_,_,_=>rfl
 |x::xs,l,h0,h=>by
  unfold szGo at h;split at h
  ·omega
  ·have:=szGo_okT xs (l - (x.size:Int)) (by omega) h;unfold okT at*;rw[List.all_cons,this,Bool.and_true];have h1:0<=l - (x.size:Int):=by omega
   exact decide_eq_true (by omega)
theorem szS_okT {xs:List ByteArray} {l:Int} (hl:l<=1000000) (h:0<=szS xs l):okT xs=true/\(xs.length:Int)<=l/\szS xs l<=l:=by
 unfold szS at*;split at h
 ·omega
 ·rename_i hn;rw[if_neg hn];have hs:=d9a xs (l - (xs.length:Int)) (by omega);exact⟨szGo_okT xs _ (by omega) h,by omega,by omega⟩
theorem e3o:∀(xs:List (List ByteArray)) (l:Int),0<=l->l<=1000000->0<=c3s xs l->xs.all okT=true
 | [],_,_,_,_=>rfl
 |x::xs,l,h0,h1,h=>by
  simp only[c3s]at h;split at h
  ·omega
  ·rename_i hn;obtain⟨k1,k2,k3⟩:=szS_okT (xs:=x) h1 (by omega);rw[List.all_cons,k1,Bool.true_and];exact e3o xs (szS x l) (by omega) (by omega) h
theorem mk2n_le:∀(u:List (List ByteArray)) (l:Int),0<=l->l<=1000000->0<=c3s u l->(b9p (u.map (tos a4a false)):Int)<=l
 | [],_,h0,_,_=>h0
 |x::xs,l,h0,h1,h=>by
  simp only[c3s]at h;split at h
  ·omega
  ·rename_i hn;have:=mk2n_le xs (szS x l) (by omega) (by have:=szS_le x l h0;omega) h;have a:szS x l<=l - (x.length:Int):=by
    unfold szS at hn ⊢;split at hn
    ·omega
    ·rename_i hq;rw[if_neg hq];exact(d9a x _ (by omega)).1
   rw[List.map_cons,b9p];have e:seen (tos a4a false x).1 0 (tos a4a false x).2=x:=d9q a4a false x;rw[e];omega
theorem szChain_eq (u:List (List ByteArray)) (l:Int) (hu:okTT u) (h0:0<=l) (h1:l<=1000000):∃r,S.b4r (u,l,())=some (r,())/\r<=l/\(0<=r->okRS u/\u.all okT=true/\b9p (u.map (tos a4a false))<=1000000):=by
 unfold S.b4r P.b9m;dsimp only;have e:S.a5d (u,l,())=some (sz2 u l,()):=by
  unfold S.a5d;rw[if_pos ⟨hu,h1, .inl h0⟩]
 obtain⟨a,b,c⟩:=sz2_le u l h0;rw[e,Option.bind_some]
 by_cases hn:sz2 u l<0
 ·exact⟨-1,by simp [hn],by omega,by omega⟩
 ·refine⟨sz2 u l,by simp [hn],by omega,fun h=> ?_⟩;obtain⟨c1,c2⟩:=c h;refine⟨⟨by omega,fun x hx=>by have:=c2 x hx;omega⟩,?_⟩;unfold sz2 at h;split at h
  ·omega
  ·have:=mk2n_le u _ (by omega) (by omega) h;exact⟨e3o u _ (by omega) (by omega) h,by omega⟩
theorem d4x (u:List (List ByteArray)) (hu:okRS u):S.a9w (((d0h false u).1,(d0h false u).2),((d0h false u).1,(d0h false u).2),())=some (true,()):=by
 unfold S.a9w P.b3h;dsimp only;have e:S.a4b (((d0h false u).1,(d0h false u).2),((d0h false u).1,(d0h false u).2),())=some (true,()):=by
  unfold S.a4b;rw[if_pos ⟨u,hu,rfl⟩]
 rw[e];rfl
theorem toChaino_eq (u:List (List ByteArray)) (b:Bool) (hu:okRS u):S.a8y (u,b,())=some (d0h b u,()):=by
 unfold S.a8y P.c0v S.a9x S.c0p;dsimp only;rw[if_pos hu,Option.bind_some];simp only[a1d,a1t,Bool.false_eq_true,if_false]
theorem splice_own {α:Type} (xs ys:List α) (h:ys.length=xs.length):splice xs ys 0=ys:=by
 unfold splice;simp [h]
theorem eqS_refl (xs:List ByteArray) (h:xs.length<=1000000):S.a2j (xs,(xs,()))=some (true,()):=by
 unfold S.a2j;dsimp only;rw[if_pos (by omega),c8a]
theorem mkS (xs:List ByteArray) (q:Int) (h0:0<=q) (hq:q<=10000000) (h:xs.length<=1000000):S.a3k (xs,(q,()))=some (q+(xs.length:Int),(b6m q xs.length,())):=by
 unfold S.a3k;dsimp only;rw[if_pos ⟨by omega,by omega,by omega⟩]
theorem hdS (n:Nat) (q:Int) (h0:0<=q) (hq:q<=10000000) (h:n<=1000000):S.a5n (b6m q n,(q,()))=some (q+(n:Int),()):=by
 unfold S.a5n;dsimp only;rw[a7r,if_pos ⟨by omega,by omega,by omega,rfl⟩]
theorem d8l (u:List (List ByteArray)) (hm:b9p (u.map (tos a4a false))<=1000000) (hu:okRS u):∃r,S.b4s ((d0h false u).1.take (d0h false u).2,101,())=some r/\101<=r.1/\r.1<=1000101:=by
 have e:(d0h false u).1.take (d0h false u).2=u.map (tos a4a false):=by
  rw[d7k];simp
 rw[e];unfold S.b4s P.b7o S.a7u;dsimp only;simp only[a1d,a1t,Bool.false_eq_true,if_false];rw[if_pos ⟨by decide,by decide,by omega,by rw[List.length_map];exact Nat.le_trans hu.1 (by decide)⟩,Option.bind_some];refine⟨_,rfl,?_⟩;constructor
 ·show(101:Int)<=101+_;omega
 ·show 101+((b9p (u.map (tos a4a false)):Nat):Int)<=1000101;omega
theorem szChain_neg (u:List (List ByteArray)) (l:Int) (hu:okTT u) (h0:l<0) (h1: -1000000000000000<=l) (hl:u.length<=1000000000000000):S.b4r (u,l,())=some (-1,()):=by
 unfold S.b4r P.b9m;dsimp only;have e:S.a5d (u,l,())=some (sz2 u l,()):=by
  unfold S.a5d;rw[if_pos ⟨hu,(show l<=1000000 by omega), .inr ⟨h1,hl⟩⟩]
 have e2:sz2 u l= -1:=by
  unfold sz2;rw[if_pos (by omega)]
 rw[e,Option.bind_some,e2];rfl
theorem tosI_seen {xs:List Int} (b:Bool):seen (tos c2i b xs).1 0 (tos c2i b xs).2=xs:=by
 unfold seen;rw[List.drop_zero,d9q]
theorem toInt_eq (xs:List Int) (b:Bool) (h:xs.length<=1000000):S.a5o (xs,b,())=some (tos c2i b xs,()):=by
 unfold S.a5o;exact if_pos h
theorem mkI (xs:List Int) (q:Int) (h0:0<=q) (hq:q<=10000000) (h:xs.length<=1000000):S.a8x (xs,(q,()))=some (q+(xs.length:Int),(c3t q xs.length,())):=by
 unfold S.a8x;dsimp only;rw[if_pos ⟨⟨by omega,by omega⟩,by omega⟩]
theorem law_len (u:List (List ByteArray)) (s:Int) (ts:List Int):(vbT u s ts).1.length<=1000000:=by
 unfold vbT;split
 ·rename_i h;rw[Bool.and_eq_true]at h;have hn:=(chQ_ok h.1).1.2.1.1;unfold c9u;split
  ·simp only[List.length_map,a0s];omega
  ·simp
 ·simp
theorem s_law (u:List (List ByteArray)) (hu:u.all okT=true) (s:Int) (ts:List Int) (ht:ts.length<=1000000):S.a5y (u,s,ts,())=some (vbT u s ts,()):=by
 unfold S.a5y;exact if_pos ⟨hu,ht⟩
theorem i_law (u:List (List ByteArray)) (hu:u.all okT=true) (s:Int) (ts:List Int) (ht:ts.length<=1000000):S.a4q (u,s,ts,())=some (vbT u s ts,()):=by
 unfold S.a4q;exact if_pos ⟨hu,ht⟩
theorem c5h (x:PTy [PK.bo (Kd.st (Kd.sl (Kd.sl Kd.str))),PK.ro (Kd.int IntKind.i64),PK.bo (Kd.sl (Kd.int IntKind.i64))]) (h:BdA _ x) (hz:SzA _ x) (hl:x.1.length<=1000000000000000) (hl2:x.2.2.1.length<=1000000000000000):∃m,S.a6v x=some (true,m):=by
 obtain⟨u,s,ts,q⟩:=x;obtain⟨h1,_⟩:=h;refine⟨(),?_⟩;show P.a2w 0 (u,s,ts,())=some (true,());unfold P.a2w;dsimp only at hl hl2 ⊢;rw[wr (by omega) (by omega)]
 by_cases hneg:1000000 - (ts.length:Int)<0
 ·rw[szChain_neg u _ (okTT_of h1) hneg (by omega) hl];rfl
 have ht:ts.length<=1000000:=by omega
 obtain⟨r,e1,e2,e3⟩:=szChain_eq u (1000000 - (ts.length:Int)) (okTT_of h1) (by omega) (by omega);rw[e1,Option.bind_some]
 by_cases hn:r<0
 ·simp [hn]
 rw[if_neg (by simpa using hn)];obtain⟨hu,ku,km⟩:=e3 (by omega);obtain⟨⟨k,km2,kq⟩,k1,k2,k3⟩:=d8l u (by omega) hu;dsimp only at k2 k3;have hy:=law_len u s ts;have t2:∀b,List.map (fun(y:List ByteArray×Nat)=>List.map (fun z=>z) (y.1.take y.2)) (seen (d0h b u).1 0 (d0h b u).2)=u:=fun b=>tos2_take b u
 simp only[toChaino_eq u _ hu,toInt_eq ts _ ht,tosI_seen,Option.bind_some,t2,s_law u ku s ts ht,i_law u ku s ts ht,eqS_refl _ hy,d4x u hu,d1e ts c2i ht,Bool.false_eq_true,if_false,e2k,a1d,a1t,e2l,List.drop_zero,k1,mkI ts k (by omega) (by omega) ht,mkS _ 101 (by omega) (by omega) hy,splice_own _ _ (a7r _ _),hdS _ 101 (by omega) (by omega) hy,Bool.not_true,beq_self_eq_true];have e5:¬(k+(ts.length:Int)<0):=by omega
 have e6:¬(101+((vbT u s ts).1.length:Int)<0):=by omega
 simp [e5,e6]
end Go.Cm
