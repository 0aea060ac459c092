import Derived.Test.YtdpljomfkoojnaaGreatDoorPlLumpChain
import Derived.Test.YtdpljomfkoojnaaGreatDoorCmZL
set_option linter.unusedVariables false
namespace Go.Cm
theorem okTT_of {xs:List (List ByteArray)} (h:Bd (.sl (.sl .str)) xs):okTT xs:=by
 obtain⟨h1,h2⟩:=h;have e:maxLen=9223372036854775807:=rfl;refine⟨by rw[<-e];exact h1,fun x hx=> ?_⟩;obtain⟨h3,h4⟩:=h2 x hx;exact⟨by rw[<-e];exact h3,fun y hy=>by rw[<-e];exact h4 y hy⟩
theorem szGo_okT:∀(xs:List ByteArray) (l:Int),l<=1000000->0<=szGo xs l->okT xs=true
 | [],_,_,_=>rfl
 |x::xs,l,h0,h=>by
  unfold szGo at h;split at h
  ·omega
  ·have:=szGo_okT xs (l - (x.size:Int)) (by omega) h;unfold okT at*;rw[List.all_cons,this,Bool.and_true];have h1:0<=l - (x.size:Int):=by omega
   exact decide_eq_true (by omega)
theorem szS_okT {xs:List ByteArray} {l:Int} (hl:l<=1000000) (h:0<=szS xs l):okT xs=true/\(xs.length:Int)<=l/\szS xs l<=l:=by
 unfold szS at*;split at h
 ·omega
 ·rename_i hn;rw[if_neg hn];have hs:=szGo_le xs (l - (xs.length:Int)) (by omega);exact⟨szGo_okT xs _ (by omega) h,by omega,by omega⟩
theorem sz2Go_okT:∀(xs:List (List ByteArray)) (l:Int),0<=l->l<=1000000->0<=sz2Go xs l->xs.all okT=true
 | [],_,_,_,_=>rfl
 |x::xs,l,h0,h1,h=>by
  simp only[sz2Go]at h;split at h
  ·omega
  ·rename_i hn;obtain⟨k1,k2,k3⟩:=szS_okT (xs:=x) h1 (by omega);rw[List.all_cons,k1,Bool.true_and];exact sz2Go_okT xs (szS x l) (by omega) (by omega) h
theorem mk2n_le:∀(u:List (List ByteArray)) (l:Int),0<=l->l<=1000000->0<=sz2Go u l->(mk2n (u.map (tos spare false)):Int)<=l
 | [],_,h0,_,_=>h0
 |x::xs,l,h0,h1,h=>by
  simp only[sz2Go]at h;split at h
  ·omega
  ·rename_i hn;have:=mk2n_le xs (szS x l) (by omega) (by have:=szS_le x l h0;omega) h;have a:szS x l<=l - (x.length:Int):=by
    unfold szS at hn ⊢;split at hn
    ·omega
    ·rename_i hq;rw[if_neg hq];exact(szGo_le x _ (by omega)).1
   rw[List.map_cons,mk2n];have e:seen (tos spare false x).1 0 (tos spare false x).2=x:=tos_take spare false x;rw[e];omega
theorem szChain_eq (u:List (List ByteArray)) (l:Int) (hu:okTT u) (h0:0<=l) (h1:l<=1000000):∃r,S.l_szChain (u,l,())=some (r,())/\r<=l/\(0<=r->okRS u/\u.all okT=true/\mk2n (u.map (tos spare false))<=1000000):=by
 unfold S.l_szChain P.l_szChain;dsimp only;have e:S.l_szStringSS (u,l,())=some (sz2 u l,()):=by
  unfold S.l_szStringSS;rw[if_pos ⟨hu,h1, .inl h0⟩]
 obtain⟨a,b,c⟩:=sz2_le u l h0;rw[e,Option.bind_some]
 by_cases hn:sz2 u l<0
 ·exact⟨-1,by simp [hn],by omega,by omega⟩
 ·refine⟨sz2 u l,by simp [hn],by omega,fun h=> ?_⟩;obtain⟨c1,c2⟩:=c h;refine⟨⟨by omega,fun x hx=>by have:=c2 x hx;omega⟩,?_⟩;unfold sz2 at h;split at h
  ·omega
  ·have:=mk2n_le u _ (by omega) (by omega) h;exact⟨sz2Go_okT u _ (by omega) (by omega) h,by omega⟩
theorem intactChain_eq (u:List (List ByteArray)) (hu:okRS u):S.l_intactChain (((tos2 false u).1,(tos2 false u).2),((tos2 false u).1,(tos2 false u).2),())=some (true,()):=by
 unfold S.l_intactChain P.l_intactChain;dsimp only;have e:S.l_intactStringSS (((tos2 false u).1,(tos2 false u).2),((tos2 false u).1,(tos2 false u).2),())=some (true,()):=by
  unfold S.l_intactStringSS;rw[if_pos ⟨u,hu,rfl⟩]
 rw[e];rfl
theorem toChaino_eq (u:List (List ByteArray)) (b:Bool) (hu:okRS u):S.l_toChaino (u,b,())=some (tos2 b u,()):=by
 unfold S.l_toChaino P.l_toChaino S.l_toStringSSo S.l_toStringSS;dsimp only;rw[if_pos hu,Option.bind_some];simp only[hd0_dup,nrm_hd0,Bool.false_eq_true,if_false]
theorem markChain_eq2 (u:List (List ByteArray)) (hm:mk2n (u.map (tos spare false))<=1000000) (hu:okRS u):∃r,S.l_markChain ((tos2 false u).1.take (tos2 false u).2,101,())=some r/\101<=r.1/\r.1<=1000101:=by
 have e:(tos2 false u).1.take (tos2 false u).2=u.map (tos spare false):=by
  rw[tos2_false];simp
 rw[e];unfold S.l_markChain P.l_markChain S.l_markStringSS;dsimp only;simp only[hd0_dup,nrm_hd0,Bool.false_eq_true,if_false];rw[if_pos ⟨by decide,by decide,by omega,by rw[List.length_map];exact Nat.le_trans hu.1 (by decide)⟩,Option.bind_some];refine⟨_,rfl,?_⟩;constructor
 ·show(101:Int)<=101+_;omega
 ·show 101+((mk2n (u.map (tos spare false)):Nat):Int)<=1000101;omega
theorem szChain_neg (u:List (List ByteArray)) (l:Int) (hu:okTT u) (h0:l<0) (h1: -1000000000000000<=l) (hl:u.length<=1000000000000000):S.l_szChain (u,l,())=some (-1,()):=by
 unfold S.l_szChain P.l_szChain;dsimp only;have e:S.l_szStringSS (u,l,())=some (sz2 u l,()):=by
  unfold S.l_szStringSS;rw[if_pos ⟨hu,(show l<=1000000 by omega), .inr ⟨h1,hl⟩⟩]
 have e2:sz2 u l= -1:=by
  unfold sz2;rw[if_pos (by omega)]
 rw[e,Option.bind_some,e2];rfl
def ownM (c:List (List ByteArray)):List (List ByteArray×Nat):=c.map fun r=>(r,r.length)
theorem ownM_len (c:List (List ByteArray)):(ownM c).length=c.length:=by simp [ownM]
theorem own1 (c:List (List ByteArray)×Bool):(ownW c).1.1=ownM c.1:=rfl
theorem own2 (c:List (List ByteArray)×Bool):(ownW c).1.2=c.1.length:=rfl
theorem own3 (c:List (List ByteArray)×Bool):(ownW c).2=c.2:=rfl
theorem seen_all {α:Type} (m:List α) (n:Nat) (h:n=m.length):seen m 0 n=m:=by
 subst h;unfold seen;rw[List.drop_zero,List.take_length]
theorem own_vw (c:List (List ByteArray)):(ownM c).map (fun y=>(y.1.take y.2).map (fun z=>z))=c:=by
 unfold ownM;rw[List.map_map];have:((fun y:List ByteArray×Nat=>(y.1.take y.2).map (fun z=>z)) ∘ fun r=>(r,r.length))=id:=by
  funext r;simp
 rw[this,List.map_id]
theorem mk2n_own (c:List (List ByteArray)):mk2n (ownM c)=(c.map List.length).sum:=by
 induction c with
 |nil=>rfl
 |cons r c ih=>
  show(seen r 0 r.length).length+mk2n (ownM c)=_;rw[ih,seen_all r _ rfl];simp
theorem mk2_own (q:Int) (c:List (List ByteArray)):(mk2 q (ownM c)).map (fun y=>(y.1.take y.2).map (fun z=>z))=mkV q (c.map List.length):=by
 induction c generalizing q with
 |nil=>rfl
 |cons r c ih=>
  show((fun y:List ByteArray×Nat=>(y.1.take y.2).map (fun z=>z)) (splice r (marks q (seen r 0 r.length).length) 0,r.length))::(mk2 (q+((seen r 0 r.length).length:Int)) (ownM c)).map _=_;rw[ih,seen_all r _ rfl];show _=marks q r.length::mkV (q+(r.length:Int)) _;congr 1;dsimp only;have:splice r (marks q r.length) 0=marks q r.length:=by
   unfold splice;simp [marks_len]
  rw[this,List.take_of_length_le (by rw[marks_len];exact Nat.le_refl _),List.map_id']
def okRC (c:List (List ByteArray)):Prop:=c.length<=12/\∀r∈c,r.length<=12
theorem okRC_sum {c:List (List ByteArray)} (h:okRC c):(c.map List.length).sum<=1000:=by
 obtain⟨h1,h2⟩:=h;have:∀l:List (List ByteArray),(∀r∈l,r.length<=12)->(l.map List.length).sum<=12*l.length:=by
  intro l
  induction l with
  |nil=>intro _;simp
  |cons r l ih=>
   intro hl;have a:=hl r (List.mem_cons_self ..);have b:=ih fun x hx=>hl x (List.mem_cons_of_mem _ hx)
   simp only[List.map_cons,List.sum_cons,List.length_cons];omega
 have:=this c h2;omega
theorem eqC (c:List (List ByteArray)) (h:okRC c):S.l_eqChain (c,c,())=some (true,()):=by
 unfold S.l_eqChain P.l_eqChain S.l_eqStringSS;dsimp only;rw[if_pos ⟨Nat.le_trans h.1 (by decide),fun r hr=>Nat.le_trans (h.2 r hr) (by decide)⟩,eqTT_refl];rfl
theorem mkC (c:List (List ByteArray)) (h:okRC c):S.l_markChain (ownM c,101,())=some (101+((c.map List.length).sum:Int),(mk2 101 (ownM c),())):=by
 have hs:=okRC_sum h;have h1:=h.1;unfold S.l_markChain P.l_markChain S.l_markStringSS;dsimp only;simp only[hd0_dup,nrm_hd0,Bool.false_eq_true,if_false];rw[mk2n_own,if_pos ⟨by decide,by decide,by omega,by rw[ownM_len];omega⟩,Option.bind_some]
theorem hdC (c:List (List ByteArray)) (h:okRC c):S.l_heldChain (mkV 101 (c.map List.length),101,())=some (101+((c.map List.length).sum:Int),()):=by
 have hs:=okRC_sum h;have h1:=h.1;unfold S.l_heldChain P.l_heldChain S.l_heldStringSS;dsimp only;rw[mkV_lens,mkV_len,if_pos ⟨by decide,by decide,by omega,by rw[List.length_map];omega,rfl⟩,Option.bind_some,if_neg (by simp;omega)]
theorem giveM_ok {M:List (List Q3)} (h:okM M):okRC (giveM M).1:=by
 unfold giveM;split
 ·refine⟨by rw[List.length_map];exact h.1,fun r hr=> ?_⟩;obtain⟨q,hq,rfl⟩:=List.mem_map.1 hr;unfold giveL;split
  ·rw[List.length_map];exact(h.2 q hq).1
  ·simp
 ·exact⟨by simp,by simp⟩
theorem okRC_nil:okRC []:=⟨by simp,by simp⟩
theorem toInt_eq (xs:List Int) (b:Bool) (h:xs.length<=1000000):S.l_toInt64So (xs,b,())=some (tos fillJ b xs,()):=by
 unfold S.l_toInt64So;exact if_pos h
theorem tosI_seen {xs:List Int} (b:Bool):seen (tos fillJ b xs).1 0 (tos fillJ b xs).2=xs:=by
 unfold seen;rw[List.drop_zero,tos_take]
theorem mkI (xs:List Int) (q:Int) (h0:0<=q) (hq:q<=10000000) (h:xs.length<=1000000):S.l_markInt64S (xs,(q,()))=some (q+(xs.length:Int),(rampQ q xs.length,())):=by
 unfold S.l_markInt64S;dsimp only;rw[if_pos ⟨⟨by omega,by omega⟩,by omega⟩]
theorem lm_ok (u:List (List ByteArray)) (ps:List Int):okRC (lmT u ps).1:=by
 unfold lmT;split
 ·rename_i h;unfold lmB at h;rw[Bool.and_eq_true]at h;obtain⟨hM,_⟩:=chQ_ok h.1;exact giveM_ok (lmM_ok hM ps (pkN_le _ _))
 ·exact okRC_nil
theorem s_law (u:List (List ByteArray)) (ps:List Int) (hu:u.all okT=true) (hs:ps.length<=1000000):S.s_LumpChain (u,ps,())=some (ownW (lmT u ps),()):=by
 unfold S.s_LumpChain;exact if_pos ⟨hu,hs⟩
theorem i_law (u:List (List ByteArray)) (ps:List Int) (hu:u.all okT=true) (hs:ps.length<=1000000):S.i_LumpChain (u,ps,())=some (ownW (lmT u ps),()):=by
 unfold S.i_LumpChain;exact if_pos ⟨hu,hs⟩
theorem LumpChain_true (x:PTy [PK.bo (Kd.st (Kd.sl (Kd.sl Kd.str))),PK.bo (Kd.sl (Kd.int IntKind.i64))]) (h:BdA _ x) (hz:SzA _ x) (hl:x.1.length<=1000000000000000) (hl2:x.2.1.length<=1000000000000000):∃m,S.l_FnExactLumpChain x=some (true,m):=by
 obtain⟨u,ts,q⟩:=x;obtain⟨h1,_⟩:=h;refine⟨(),?_⟩;show P.l_FnExactLumpChain 0 (u,ts,())=some (true,());unfold P.l_FnExactLumpChain;dsimp only at hl hl2 ⊢;rw[wr (by omega) (by omega)]
 by_cases hneg:1000000 - (ts.length:Int)<0
 ·rw[szChain_neg u _ (okTT_of h1) hneg (by omega) hl];rfl
 have ht:ts.length<=1000000:=by omega
 obtain⟨r,e1,e2,e3⟩:=szChain_eq u (1000000 - (ts.length:Int)) (okTT_of h1) (by omega) (by omega);rw[e1,Option.bind_some]
 by_cases hn:r<0
 ·simp [hn]
 rw[if_neg (by simpa using hn)];obtain⟨hu,ku,km⟩:=e3 (by omega);obtain⟨⟨k,km2,kq⟩,k1,k2,k3⟩:=markChain_eq2 u (by omega) hu;dsimp only at k2 k3;have hc:=lm_ok u ts;have t2:∀b,List.map (fun(y:List ByteArray×Nat)=>List.map (fun z=>z) (y.1.take y.2)) (seen (tos2 b u).1 0 (tos2 b u).2)=u:=fun b=>tos2_take b u
 have t3:seen (ownM (lmT u ts).1) 0 (lmT u ts).1.length=ownM (lmT u ts).1:=seen_all _ _ (ownM_len _).symm;have t4:(ownM (lmT u ts).1).take (lmT u ts).1.length=ownM (lmT u ts).1:=by rw[<-ownM_len,List.take_length]
 have t5:seen (mk2 101 (ownM (lmT u ts).1)) 0 (lmT u ts).1.length=mk2 101 (ownM (lmT u ts).1):=seen_all _ _ (by rw[mk2_len,ownM_len]);simp only[toChaino_eq u _ hu,toInt_eq ts _ ht,tosI_seen,Option.bind_some,t2,s_law u ts ku ht,i_law u ts ku ht,own1,own2,own3,nrm_hd0,t3,own_vw,eqC _ hc,intactChain_eq u hu,intactInt64S_eq ts fillJ ht,Bool.false_eq_true,if_false,hd0_take,hd0_dup,hd0_length,ownM_len,nrm_take,t4,t5,mk2_own,List.drop_zero,k1,mkI ts k (by omega) (by omega) ht,mkC _ hc,hdC _ hc,Bool.not_true,beq_self_eq_true,decide_true,if_true];have e5:¬(k+(ts.length:Int)<0):=by omega
 have e6:¬(101+(((lmT u ts).1.map List.length).sum:Int)<0):=by omega
 simp [e5,e6]
end Go.Cm
