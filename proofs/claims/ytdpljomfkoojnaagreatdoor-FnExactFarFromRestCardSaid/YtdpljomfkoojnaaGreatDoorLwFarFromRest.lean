import Derived.Test.YtdpljomfkoojnaaGreatDoorPlFarFromRest
import Derived.Test.YtdpljomfkoojnaaGreatDoorCmZL
set_option linter.unusedVariables false
namespace Go.Cm
theorem okTT_of {xs:List (List ByteArray)} (h:Bd (.sl (.sl .str)) xs):okTT xs:=by
 obtain⟨h1,h2⟩:=h;have e:maxLen=9223372036854775807:=rfl;refine⟨by rw[<-e];exact h1,fun x hx=> ?_⟩;obtain⟨h3,h4⟩:=h2 x hx;exact⟨by rw[<-e];exact h3,fun y hy=>by rw[<-e];exact h4 y hy⟩
theorem f2d:∀(xs:List ByteArray) (l:Int),l<=1000000->0<=f5x xs l->okT xs=true
 | [],_,_,_=>rfl
 |x::xs,l,h0,h=>by
  unfold f5x at h;split at h
  ·omega
  ·have:=f2d xs (l - (x.size:Int)) (by omega) h;unfold okT at*;rw[List.all_cons,this,Bool.and_true];have h1:0<=l - (x.size:Int):=by omega
   exact decide_eq_true (by omega)
theorem f8l {xs:List ByteArray} {l:Int} (hl:l<=1000000) (h:0<=szS xs l):okT xs=true/\(xs.length:Int)<=l/\szS xs l<=l:=by
 unfold szS at*;split at h
 ·omega
 ·rename_i hn;rw[if_neg hn];have hs:=e7k xs (l - (xs.length:Int)) (by omega);exact⟨f2d xs _ (by omega) h,by omega,by omega⟩
theorem e4d:∀(xs:List (List ByteArray)) (l:Int),0<=l->l<=1000000->0<=c7x xs l->xs.all okT=true
 | [],_,_,_,_=>rfl
 |x::xs,l,h0,h1,h=>by
  simp only[c7x]at h;split at h
  ·omega
  ·rename_i hn;obtain⟨k1,k2,k3⟩:=f8l (xs:=x) h1 (by omega);rw[List.all_cons,k1,Bool.true_and];exact e4d xs (szS x l) (by omega) (by omega) h
theorem f4g (u:List (List ByteArray)) (l:Int) (hu:okTT u) (h0:0<=l) (h1:l<=1000000):∃r,S.b9e (u,l,())=some (r,())/\r<=l/\(0<=r->okRS u/\u.all okT=true):=by
 unfold S.b9e P.c3f;dsimp only;have e:S.a8u (u,l,())=some (sz2 u l,()):=by
  unfold S.a8u;rw[if_pos ⟨hu,h1, .inl h0⟩]
 obtain⟨a,b,c⟩:=sz2_le u l h0;rw[e,Option.bind_some]
 by_cases hn:sz2 u l<0
 ·exact⟨-1,by simp [hn],by omega,by omega⟩
 ·refine⟨sz2 u l,by simp [hn],by omega,fun h=> ?_⟩;obtain⟨c1,c2⟩:=c h;refine⟨⟨by omega,fun x hx=>by have:=c2 x hx;omega⟩,?_⟩;unfold sz2 at h;split at h
  ·omega
  ·exact e4d u _ (by omega) (by omega) h
theorem d4x (u:List (List ByteArray)) (hu:okRS u):S.a9j (((d4t false u).1,(d4t false u).2),((d4t false u).1,(d4t false u).2),())=some (true,()):=by
 unfold S.a9j P.b3b;dsimp only;have e:S.a4n (((d4t false u).1,(d4t false u).2),((d4t false u).1,(d4t false u).2),())=some (true,()):=by
  unfold S.a4n;rw[if_pos ⟨u,hu,rfl⟩]
 rw[e];rfl
theorem f4h (u:List (List ByteArray)) (b:Bool) (hu:okRS u):S.b1w (u,b,())=some (d4t b u,()):=by
 unfold S.b1w P.c3h S.a6u;dsimp only;rw[if_pos hu,Option.bind_some]
theorem f4i {xs:List ByteArray} (h:Bd (.sl .str) xs):d7w xs:=by
 obtain⟨h1,h2⟩:=h;have e:maxLen=9223372036854775807:=rfl;exact⟨by rw[<-e];exact h1,fun x hx=>by rw[<-e];exact h2 x hx⟩
theorem sz_eq {xs:List ByteArray} {l:Int} (h:d7w xs) (h0:0<=l) (h1:l<=1000000):S.a5m (xs,(l,()))=some (szS xs l,()):=by
 unfold S.a5m;exact if_pos ⟨h,h0,h1⟩
theorem f8m {xs:List ByteArray} (b:Bool):List.take (tos a2k b xs).2 (tos a2k b xs).1=xs:=
 f1f a2k b xs
theorem parse_i (u:List (List ByteArray)) (hu:u.all okT=true):S.b6s (u,())=some ((mp B32 (chQ u).1,(chQ u).2),()):=by
 unfold S.b6s;exact if_pos hu
def lawT (u:List (List ByteArray)) (ws:List ByteArray) (s:Int):ByteArray×Bool:=if(afT u ws s).2=true/\(b2m (chQ u).1).2=true then e8i (c4b (afT u ws s).1.2 (b2m (chQ u).1).1)else(bs [],false)
theorem af_ok {u:List (List ByteArray)} {ws:List ByteArray} {s:Int} (h:(afT u ws s).2=true):b9b (chQ u).1/\(afT u ws s).1.1=(chQ u).1/\(∃t,t<=42/\wOk (chQ u).1 (afT u ws s).1.2 t):=by
 unfold afT at*;split at h
 case isFalse=>cases h
 rename_i hc;rw[if_pos hc];obtain⟨h1,h2,h3,h4,h5⟩:=hc;obtain⟨hM,hu⟩:=f7x h1;rw[d0q,Bool.and_eq_true]at h2;have hst:=d3o hM (by rw[h3,hu]) (b7s h2.1).2.2 rfl;have hk:=c5f hM s.toNat _ 0 hst;exact⟨hM,rfl,_,by omega,hk⟩
theorem far_d {u:List (List ByteArray)} {ws:List ByteArray} {s:Int} (h:(afT u ws s).2=true) (hr:(b2m (chQ u).1).2=true):distOk (afT u ws s).1.2 (b2m (chQ u).1).1:=by
 obtain⟨hM,_,t,ht,hw⟩:=af_ok h
 by_cases h1:(a5w 0 (b4x (chQ u).1).2).length=1
 ·obtain⟨k,hk⟩:=f0p h1;rw[d3t hk];exact far_ok hM hk ht hw
 ·rw[c7e h1]at hr;cases hr
theorem f2e {B:Nat} (hB:10^9<=B) {as bs':List Q3} (h:distOk as bs'):rok B 40000000 (rp B (c4b as bs'))=true:=by
 have:=h.s (dfs as bs').length;rw[List.take_length]at this;exact c6a hB (e8k this.2 (b9w (n:=1) (by decide) (by decide))) (by decide)
theorem s_law (u:List (List ByteArray)) (ws:List ByteArray) (s:Int) (hu:u.all okT=true) (hw:okT ws=true):S.a9r (u,ws,s,())=some (lawT u ws s,()):=by
 unfold S.a9r P.b3h S.b7b lawT;dsimp only;rw[if_pos ⟨hu,hw⟩,Option.bind_some];dsimp only;cases hf:(afT u ws s).2
 ·rw[if_pos (by decide),if_neg (by simp)]
 obtain⟨hM,hMe,_⟩:=af_ok hf;have er:S.b6n (mp B10 (chQ u).1,())=some (((b2m (chQ u).1).1.map (rp B10),(b2m (chQ u).1).2),()):=by
  unfold S.b6n;dsimp only;rw[if_pos ⟨_,hM,rfl⟩,b6m (by decide)]
 rw[if_neg (by decide),hMe,er,Option.bind_some];dsimp only;cases hr:(b2m (chQ u).1).2
 ·rw[if_pos (by decide),if_neg (by simp)]
 have hd:=far_d hf hr;have ed:S.a7n ((afT u ws s).1.2.map (rp B10),(b2m (chQ u).1).1.map (rp B10),())=some (rp B10 (c4b (afT u ws s).1.2 (b2m (chQ u).1).1),()):=by
  unfold S.a7n;dsimp only;rw[if_pos ⟨_,_,rfl,rfl,hd⟩,a5b a0e,a5b a0e]
 have eg:S.b4c (rp B10 (c4b (afT u ws s).1.2 (b2m (chQ u).1).1),())=some (e8i (c4b (afT u ws s).1.2 (b2m (chQ u).1).1),()):=by
  unfold S.b4c;dsimp only;rw[if_pos (f2e (by decide) hd),a2p a0e]
 rw[if_neg (by decide),ed,Option.bind_some,if_pos ⟨rfl,rfl⟩];show Option.bind (S.b4c (rp B10 _,())) _=_;rw[eg,Option.bind_some]
theorem i_law (u:List (List ByteArray)) (ws:List ByteArray) (s:Int) (hu:u.all okT=true) (hw:okT ws=true):S.a7l (u,ws,s,())=some (lawT u ws s,()):=by
 unfold S.a7l P.b3o S.a7k P.a7j lawT;dsimp only;have ew:S.a5u (ws,())=some (((b5z ws).1.map (rp B32),(b5z ws).2),()):=by
  unfold S.a5u;exact if_pos hw
 rw[parse_i u hu,Option.bind_some,ew,Option.bind_some];dsimp only;have hall:= @af_ok u ws s;have hfar:= @far_d u ws s;unfold afT at*;cases hf:(chQ u).2
 ·rw[if_neg (by decide),Option.bind_some];dsimp only;rw[if_pos (by decide),if_neg (by simp)]
 obtain⟨hM,hu'⟩:=f7x hf;rw[if_pos rfl];cases hg:(b5z ws).2
 ·rw[if_neg (by decide),Option.bind_some];dsimp only;rw[if_pos (by decide),if_neg (by simp)]
 obtain⟨w1,w2,w3⟩:=d8y hg;rw[if_pos rfl,Option.bind_some,w3,List.length_map,a8a,hu'];dsimp only
 by_cases hl:(a1u ws).1.length=u.length
 case neg=>
  rw[if_pos (by simp;omega),if_neg (by simp [hl])]
 rw[if_neg (by simp [hl])];unfold S.i_in P.i_in;dsimp only
 by_cases h0:0<=s
 case neg=>
  have a:¬s>=0:=by omega
  simp only[a,decide_false,Bool.false_eq_true,if_false,Option.bind_some,Bool.not_false,if_true];rw[if_neg (by simp)]
 by_cases h1:s<=40
 case neg=>
  have a:s>=0:=by omega
  simp only[a,h1,decide_true,decide_false,if_true,Option.bind_some,Bool.not_false];rw[if_neg (by simp)]
 have hc:(chQ u).2=true/\(b5z ws).2=true/\(a1u ws).1.length=u.length/\0<=s/\s<=40:=⟨hf,hg,hl,h0,h1⟩
 rw[if_pos hc]at hall hfar;have a:s>=0:=h0;rw[if_pos (show true=true/\true=true/\(a1u ws).1.length=u.length/\0<=s/\s<=40 from⟨rfl,rfl,hl,h0,h1⟩)];simp only[a,h1,decide_true,if_true,Option.bind_some,Bool.not_true,Bool.false_eq_true,if_false,true_and];have hst:=d3o hM (by rw[hl,hu']) (b7s w1).2.2 rfl;have er:S.d7l (mp B32 (chQ u).1,())=some (((b2m (chQ u).1).1.map (rp B32),(b2m (chQ u).1).2),()):=by
  unfold S.d7l;dsimp only;rw[if_pos ⟨_,hM,rfl⟩,b6m (by decide)]
 rw[er,Option.bind_some];dsimp only;cases hr:(b2m (chQ u).1).2
 ·rw[if_pos (by decide),if_neg (by decide)]
 have hd:=hfar rfl hr;dsimp only at hd;have ea:S.c6w (mp B32 (chQ u).1,(a1u ws).1.map (rp B32),s,())=some ((a7q (chQ u).1 s.toNat (a1u ws).1).map (rp B32),()):=by
  unfold S.c6w;dsimp only;rw[if_pos ⟨_,_,hM,rfl,rfl,hst,h0,h1⟩,b6m (by decide),a5b a0d]
 have ed:S.b3z ((a7q (chQ u).1 s.toNat (a1u ws).1).map (rp B32),(b2m (chQ u).1).1.map (rp B32),())=some (rp B32 (c4b (a7q (chQ u).1 s.toNat (a1u ws).1) (b2m (chQ u).1).1),()):=by
  unfold S.b3z;dsimp only;rw[if_pos ⟨_,_,rfl,rfl,hd⟩,a5b a0d,a5b a0d]
 have eg:S.d1h (rp B32 (c4b (a7q (chQ u).1 s.toNat (a1u ws).1) (b2m (chQ u).1).1),())=some (e8i (c4b (a7q (chQ u).1 s.toNat (a1u ws).1) (b2m (chQ u).1).1),()):=by
  unfold S.d1h;dsimp only;rw[if_pos (f2e (by decide) hd),a2p a0d]
 rw[if_neg (by decide),ea,Option.bind_some,ed,Option.bind_some,if_pos rfl];show Option.bind (S.d1h (rp B32 _,())) _=_;rw[eg,Option.bind_some]
theorem c8h (x:PTy [PK.bo (Kd.st (Kd.sl (Kd.sl Kd.str))),PK.bo (Kd.sl Kd.str),PK.ro (Kd.int IntKind.i64)]) (h:BdA _ x) (hz:SzA _ x):∃m,S.a7s x=some (true,m):=by
 obtain⟨u,ws,s,q⟩:=x;obtain⟨h1,h2,_⟩:=h;have ht:=f4i h2;refine⟨(),?_⟩;show P.a3t 0 (u,ws,s,())=some (true,());unfold P.a3t;dsimp only;obtain⟨r,e1,e2,e3⟩:=f4g u 1000000 (okTT_of h1) (by omega) (by omega);rw[e1,Option.bind_some]
 by_cases hn:r<0
 ·simp [hn]
 rw[if_neg (by simpa using hn)];dsimp only;rw[sz_eq ht (by omega) e2,Option.bind_some]
 by_cases hn2:szS ws r<0
 ·rw[if_pos (decide_eq_true hn2)]
 rw[if_neg (by simpa using hn2)];obtain⟨hu,ku⟩:=e3 (by omega);obtain⟨hk,hl,_⟩:=f8l (l:=r) e2 (by omega:0<=szS ws r);have hwl:ws.length<=1000000:=by omega
 have t2:∀b,List.map (fun(y:List ByteArray×Nat)=>List.map (fun z=>z) (y.1.take y.2)) ((d4t b u).1.take (d4t b u).2)=u:=fun b=>f7w b u
 simp only[f4h u _ hu,e1v ws _ hwl,Option.bind_some,t2,f8m,s_law u ws s ku hk,i_law u ws s ku hk,d4x u hu,b8u ws hwl,Bool.false_eq_true,if_false,Bool.not_true,beq_self_eq_true]
end Go.Cm
