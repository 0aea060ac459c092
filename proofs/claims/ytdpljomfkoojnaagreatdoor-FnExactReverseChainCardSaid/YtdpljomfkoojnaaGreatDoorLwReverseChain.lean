import Derived.Test.YtdpljomfkoojnaaGreatDoorPlReverseChain
import Derived.Test.YtdpljomfkoojnaaGreatDoorCmZL
set_option linter.unusedVariables false
namespace Go.Cm
theorem h0o {xs:List (List ByteArray)} (h:Bd (.sl (.sl .str)) xs):h4w xs:=by
 obtain⟨h1,h2⟩:=h;have e:maxLen=9223372036854775807:=rfl;refine⟨by rw[<-e];exact h1,fun x hx=> ?_⟩;obtain⟨h3,h4⟩:=h2 x hx;exact⟨by rw[<-e];exact h3,fun y hy=>by rw[<-e];exact h4 y hy⟩
theorem f3f:∀(xs:List ByteArray) (l:Int),l<=1000000->0<=f7e xs l->okT xs=true
 | [],_,_,_=>rfl
 |x::xs,l,h0,h=>by
  unfold f7e at h;split at h
  ·omega
  ·have:=f3f xs (l - (x.size:Int)) (by omega) h;unfold okT at*;rw[List.all_cons,this,Bool.and_true];have h1:0<=l - (x.size:Int):=by omega
   exact decide_eq_true (by omega)
theorem h0p {xs:List ByteArray} {l:Int} (hl:l<=1000000) (h:0<=szS xs l):okT xs=true/\(xs.length:Int)<=l/\szS xs l<=l:=by
 unfold szS at*;split at h
 ·omega
 ·rename_i hn;rw[if_neg hn];have hs:=d8q xs (l - (xs.length:Int)) (by omega);exact⟨f3f xs _ (by omega) h,by omega,by omega⟩
theorem e4u:∀(xs:List (List ByteArray)) (l:Int),0<=l->l<=1000000->0<=c3i xs l->xs.all okT=true
 | [],_,_,_,_=>rfl
 |x::xs,l,h0,h1,h=>by
  simp only[c3i]at h;split at h
  ·omega
  ·rename_i hn;obtain⟨k1,k2,k3⟩:=h0p (xs:=x) h1 (by omega);rw[List.all_cons,k1,Bool.true_and];exact e4u xs (szS x l) (by omega) (by omega) h
theorem f9v:∀(u:List (List ByteArray)) (l:Int),0<=l->l<=1000000->0<=c3i u l->(b9a (u.map (tos a4g false)):Int)<=l
 | [],_,h0,_,_=>h0
 |x::xs,l,h0,h1,h=>by
  simp only[c3i]at h;split at h
  ·omega
  ·rename_i hn;have:=f9v xs (szS x l) (by omega) (by have:=f7f x l h0;omega) h;have a:szS x l<=l - (x.length:Int):=by
    unfold szS at hn ⊢;split at hn
    ·omega
    ·rename_i hq;rw[if_neg hq];exact(d8q x _ (by omega)).1
   rw[List.map_cons,b9a];have e:seen (tos a4g false x).1 0 (tos a4g false x).2=x:=f2l a4g false x;rw[e];omega
theorem f5i (u:List (List ByteArray)) (l:Int) (hu:h4w u) (h0:0<=l) (h1:l<=1000000):∃r,S.b9f (u,l,())=some (r,())/\r<=l/\(0<=r->h0k u/\u.all okT=true/\b9a (u.map (tos a4g false))<=1000000):=by
 unfold S.b9f P.c3j;dsimp only;have e:S.a8r (u,l,())=some (sz2 u l,()):=by
  unfold S.a8r;rw[if_pos ⟨hu,h1, .inl h0⟩]
 obtain⟨a,b,c⟩:=h2t u l h0;rw[e,Option.bind_some]
 by_cases hn:sz2 u l<0
 ·exact⟨-1,by simp [hn],by omega,by omega⟩
 ·refine⟨sz2 u l,by simp [hn],by omega,fun h=> ?_⟩;obtain⟨c1,c2⟩:=c h;refine⟨⟨by omega,fun x hx=>by have:=c2 x hx;omega⟩,?_⟩;unfold sz2 at h;split at h
  ·omega
  ·have:=f9v u _ (by omega) (by omega) h;exact⟨e4u u _ (by omega) (by omega) h,by omega⟩
theorem d5m (u:List (List ByteArray)) (hu:h0k u):S.a9l (((d0a false u).1,(d0a false u).2),((d0a false u).1,(d0a false u).2),())=some (true,()):=by
 unfold S.a9l P.b3k;dsimp only;have e:S.a4h (((d0a false u).1,(d0a false u).2),((d0a false u).1,(d0a false u).2),())=some (true,()):=by
  unfold S.a4h;rw[if_pos ⟨u,hu,rfl⟩]
 rw[e];rfl
theorem e9u (u:List (List ByteArray)) (b:Bool) (hu:h0k u):S.a8t (u,b,())=some (d0a b u,()):=by
 unfold S.a8t P.c0u S.a9m S.b9y;dsimp only;rw[if_pos hu,Option.bind_some];simp only[a0r,a0w,Bool.false_eq_true,if_false]
theorem h0q (u:List (List ByteArray)) (hu:u.all okT=true):S.b4l (u,())=some ((mp B10 (chQ u).1,(chQ u).2),()):=by
 unfold S.b4l;exact if_pos hu
theorem h0r (u:List (List ByteArray)) (hu:u.all okT=true):S.b6o (u,())=some ((mp B32 (chQ u).1,(chQ u).2),()):=by
 unfold S.b6o;exact if_pos hu
theorem e0c (u:List (List ByteArray)) (hm:b9a (u.map (tos a4g false))<=1000000) (hu:h0k u):∃r,S.a5i ((d0a false u).1.take (d0a false u).2,101,())=some r/\101<=r.1/\r.1<=1000101:=by
 have e:(d0a false u).1.take (d0a false u).2=u.map (tos a4g false):=by
  rw[d7a];simp
 rw[e];unfold S.a5i P.b4p S.a5u;dsimp only;simp only[a0r,a0w,Bool.false_eq_true,if_false];rw[if_pos ⟨by decide,by decide,by omega,by rw[List.length_map];exact Nat.le_trans hu.1 (by decide)⟩,Option.bind_some];refine⟨_,rfl,?_⟩;constructor
 ·show(101:Int)<=101+_;omega
 ·show 101+((b9a (u.map (tos a4g false)):Nat):Int)<=1000101;omega
def e4v (c:List (List ByteArray)):List (List ByteArray×Nat):=c.map fun r=>(r,r.length)
theorem c4l (c:List (List ByteArray)):(e4v c).length=c.length:=by simp [e4v]
theorem h3j (c:List (List ByteArray)×Bool):(g2h c).1.1=e4v c.1:=rfl
theorem h3k (c:List (List ByteArray)×Bool):(g2h c).1.2=c.1.length:=rfl
theorem h5w (c:List (List ByteArray)×Bool):(g2h c).2=c.2:=rfl
theorem c4m {α:Type} (m:List α) (n:Nat) (h:n=m.length):seen m 0 n=m:=by
 subst h;unfold seen;rw[List.drop_zero,List.take_length]
theorem h3l (c:List (List ByteArray)):(e4v c).map (fun y=>(y.1.take y.2).map (fun z=>z))=c:=by
 unfold e4v;rw[List.map_map];have:((fun y:List ByteArray×Nat=>(y.1.take y.2).map (fun z=>z)) ∘ fun r=>(r,r.length))=id:=by
  funext r;simp
 rw[this,List.map_id]
theorem g4s (c:List (List ByteArray)):b9a (e4v c)=(c.map List.length).sum:=by
 induction c with
 |nil=>rfl
 |cons r c ih=>
  show(seen r 0 r.length).length+b9a (e4v c)=_;rw[ih,c4m r _ rfl];simp
theorem h0s (q:Int) (c:List (List ByteArray)):(mk2 q (e4v c)).map (fun y=>(y.1.take y.2).map (fun z=>z))=mkV q (c.map List.length):=by
 induction c generalizing q with
 |nil=>rfl
 |cons r c ih=>
  show((fun y:List ByteArray×Nat=>(y.1.take y.2).map (fun z=>z)) (splice r (b2z q (seen r 0 r.length).length) 0,r.length))::(mk2 (q+((seen r 0 r.length).length:Int)) (e4v c)).map _=_;rw[ih,c4m r _ rfl];show _=b2z q r.length::mkV (q+(r.length:Int)) _;congr 1;dsimp only;have:splice r (b2z q r.length) 0=b2z q r.length:=by
   unfold splice;simp [a5p]
  rw[this,List.take_of_length_le (by rw[a5p];exact Nat.le_refl _),List.map_id']
def h0t (c:List (List ByteArray)):Prop:=c.length<=12/\∀r∈c,r.length<=12
theorem f3g {c:List (List ByteArray)} (h:h0t c):(c.map List.length).sum<=1000:=by
 obtain⟨h1,h2⟩:=h;have:∀l:List (List ByteArray),(∀r∈l,r.length<=12)->(l.map List.length).sum<=12*l.length:=by
  intro l
  induction l with
  |nil=>intro _;simp
  |cons r l ih=>
   intro hl;have a:=hl r (List.mem_cons_self ..);have b:=ih fun x hx=>hl x (List.mem_cons_of_mem _ hx)
   simp only[List.map_cons,List.sum_cons,List.length_cons];omega
 have:=this c h2;omega
theorem eqC (c:List (List ByteArray)) (h:h0t c):S.b4o (c,c,())=some (true,()):=by
 unfold S.b4o P.c3k S.a6e;dsimp only;rw[if_pos ⟨Nat.le_trans h.1 (by decide),fun r hr=>Nat.le_trans (h.2 r hr) (by decide)⟩,e3d];rfl
theorem mkC (c:List (List ByteArray)) (h:h0t c):S.a5i (e4v c,101,())=some (101+((c.map List.length).sum:Int),(mk2 101 (e4v c),())):=by
 have hs:=f3g h;have h1:=h.1;unfold S.a5i P.b4p S.a5u;dsimp only;simp only[a0r,a0w,Bool.false_eq_true,if_false];rw[g4s,if_pos ⟨by decide,by decide,by omega,by rw[c4l];omega⟩,Option.bind_some]
theorem hdC (c:List (List ByteArray)) (h:h0t c):S.b0y (mkV 101 (c.map List.length),101,())=some (101+((c.map List.length).sum:Int),()):=by
 have hs:=f3g h;have h1:=h.1;unfold S.b0y P.b7l S.a7n;dsimp only;rw[g3j,d0r,if_pos ⟨by decide,by decide,by omega,by rw[List.length_map];omega,rfl⟩,Option.bind_some,if_neg (by simp;omega)]
theorem g4t {M:List (List Q3)} (h:okM M):h0t (e2q M).1:=by
 unfold e2q;split
 ·refine⟨by rw[List.length_map];exact h.1,fun r hr=> ?_⟩;obtain⟨q,hq,rfl⟩:=List.mem_map.1 hr;unfold a9f;split
  ·rw[List.length_map];exact(h.2 q hq).1
  ·simp
 ·exact⟨by simp,by simp⟩
theorem g4u:h0t []:=⟨by simp,by simp⟩
def rvT (u:List (List ByteArray)):List (List ByteArray)×Bool:=if(chQ u).2=true/\d6u (chQ u).1=true then e2q (mat (chQ u).1.length (c7v (chQ u).1))else([],false)
theorem e9v {M:List (List Q3)} (h:c2o M) (h1:d6u M=true):okM (mat M.length (c7v M)):=h2a h.2.1.1 fun i hi j hj=>((g2k h h1).2 i hi j hj).2
theorem h5d (u:List (List ByteArray)):h0t (rvT u).1:=by
 unfold rvT;split
 ·rename_i h;obtain⟨hM,_⟩:=f9s h.1;exact g4t (e9v hM h.2)
 ·exact g4u
theorem h5e (u:List (List ByteArray)) (hu:u.all okT=true):S.a7u (u,())=some (g2h (rvT u),()):=by
 unfold S.a7u P.b2d rvT;dsimp only;rw[h0q u hu,Option.bind_some];dsimp only;cases hf:(chQ u).2
 ·rw[if_pos (by decide),if_neg (by simp)];rfl
 obtain⟨hM,_⟩:=f9s hf;generalize (chQ u).1=M at*;have er:S.a8y (mp B10 M,())=some ((if d6u M=true then(mp B10 (mat M.length (c7v M)),true)else([],false)),()):=by
  unfold S.a8y;dsimp only;rw[if_pos ⟨M,hM,rfl⟩,b3r (by decide)]
 rw[if_neg (by decide)];cases h1:d6u M
 ·rw[h1,if_neg (by decide)]at er;rw[er,Option.bind_some,if_neg (show ¬(true=true/\false=true) by simp)];rfl
 ·rw[h1,if_pos rfl]at er;rw[er,Option.bind_some,if_pos (show true=true/\true=true from⟨rfl,rfl⟩)];dsimp only;rw[if_neg (by decide),e7p (e9v hM h1),Option.bind_some];dsimp only;rw[a0r,a0w,if_neg (by decide)]
theorem h5f (u:List (List ByteArray)) (hu:u.all okT=true):S.a5v (u,())=some (g2h (rvT u),()):=by
 unfold S.a5v P.b1x rvT;dsimp only;rw[h0r u hu,Option.bind_some];dsimp only;cases hf:(chQ u).2
 ·rw[if_pos (by decide),if_neg (by simp)];rfl
 obtain⟨hM,_⟩:=f9s hf;generalize (chQ u).1=M at*;have hI:=hM.2.1;have ec:S.b6r (mp B32 M,())=some (d6u M,()):=by
  unfold S.b6r P.c0y S.b2l d6u;dsimp only;rw[if_pos ⟨M,hI,rfl⟩,b3r (by decide),Option.bind_some];congr 2;dsimp only;generalize (a9u M).2.length=n;rw[Bool.eq_iff_iff,beq_iff_eq,decide_eq_true_eq];omega
 rw[if_neg (by decide),ec,Option.bind_some];dsimp only;cases h1:d6u M
 ·rw[if_pos (by decide),if_neg (by simp)];rfl
 have er:S.b4g (mp B32 M,())=some ((om B32 M.length M.length (c7v M),M.length),()):=by
  unfold S.b4g;dsimp only;rw[if_pos ⟨M,hM,h1,rfl⟩,b3r (by decide),a4b]
 have hs:seen (om B32 M.length M.length (c7v M)) 0 M.length=om B32 M.length M.length (c7v M):=c4m _ _ (a3t _ _ _ _).symm;rw[if_neg (by decide),if_pos ⟨rfl,rfl⟩,er,Option.bind_some];dsimp only;rw[a0w,hs,h1z,d5i (e9v hM h1),Option.bind_some];dsimp only;rw[a0r,a0w,if_neg (by decide)]
theorem c6r (x:PTy [PK.bo (Kd.st (Kd.sl (Kd.sl Kd.str)))]) (h:BdA _ x) (hz:SzA _ x):∃m,S.a6m x=some (true,m):=by
 obtain⟨u,q⟩:=x;obtain⟨h1,_⟩:=h;refine⟨(),?_⟩;show P.a3b 0 (u,())=some (true,());unfold P.a3b;dsimp only;obtain⟨r,e1,e2,e3⟩:=f5i u 1000000 (h0o h1) (by omega) (by omega);rw[e1,Option.bind_some]
 by_cases hn:r<0
 ·simp [hn]
 rw[if_neg (by simpa using hn)];obtain⟨hu,ku,km⟩:=e3 (by omega);obtain⟨⟨k,km2,kq⟩,k1,k2,k3⟩:=e0c u (by omega) hu;dsimp only at k2 k3;have hc:=h5d u;have t2:∀b,List.map (fun(y:List ByteArray×Nat)=>List.map (fun z=>z) (y.1.take y.2)) (seen (d0a b u).1 0 (d0a b u).2)=u:=fun b=>f9r b u
 have t3:seen (e4v (rvT u).1) 0 (rvT u).1.length=e4v (rvT u).1:=c4m _ _ (c4l _).symm;have t4:(e4v (rvT u).1).take (rvT u).1.length=e4v (rvT u).1:=by rw[<-c4l,List.take_length]
 have t5:seen (mk2 101 (e4v (rvT u).1)) 0 (rvT u).1.length=mk2 101 (e4v (rvT u).1):=c4m _ _ (by rw[e8q,c4l]);simp only[e9u u _ hu,Option.bind_some,t2,h5e u ku,h5f u ku,h3j,h3k,h5w,a0w,t3,h3l,eqC _ hc,d5m u hu,Bool.false_eq_true,if_false,g4n,a0r,a0k,c4l,g4o,t4,t5,h0s,List.drop_zero,k1,mkC _ hc,hdC _ hc,Bool.not_true,beq_self_eq_true,decide_true,if_true];have e5:¬(k<0):=by omega
 have e6:¬(101+(((rvT u).1.map List.length).sum:Int)<0):=by omega
 simp [e5,e6]
end Go.Cm
