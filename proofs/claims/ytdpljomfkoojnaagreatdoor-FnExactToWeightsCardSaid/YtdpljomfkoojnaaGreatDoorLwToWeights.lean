import Derived.Test.YtdpljomfkoojnaaGreatDoorPlToWeights
import Derived.Test.YtdpljomfkoojnaaGreatDoorCmZL
set_option linter.unusedVariables false
namespace Go.Cm
theorem splice_own {α:Type} (xs ys:List α) (h:ys.length=xs.length):splice xs ys 0=ys:=by
 unfold splice
 simp [h]
theorem eqS_refl (xs:List ByteArray) (h:xs.length≤1000000):S.l_eqStringS (xs,(xs,()))=some (true,()):=by
 unfold S.l_eqStringS
 dsimp only
 rw[if_pos (by omega),eqTexts_refl]
theorem mkS (xs:List ByteArray) (q:Int) (h0:0≤q) (hq:q≤10000000) (h:xs.length≤1000000):S.l_markStringS (xs,(q,()))=some (q+(xs.length:Int),(marks q xs.length,())):=by
 unfold S.l_markStringS
 dsimp only
 rw[if_pos ⟨by omega,by omega,by omega⟩]
theorem hdS (n:Nat) (q:Int) (h0:0≤q) (hq:q≤10000000) (h:n≤1000000):S.l_heldStringS (marks q n,(q,()))=some (q+(n:Int),()):=by
 unfold S.l_heldStringS
 dsimp only
 rw[marks_len,if_pos ⟨by omega,by omega,by omega,rfl⟩]
theorem okTexts_of {xs:List ByteArray} (h:Bd (.sl .str) xs):okTexts xs:=by
 obtain⟨h1,h2⟩:=h
 have e:maxLen=9223372036854775807:=rfl
 exact⟨by rw[←e];exact h1,fun x hx=>by rw[←e];exact h2 x hx⟩
theorem szGo_okT:∀(xs:List ByteArray) (l:Int),l≤1000000→0≤szGo xs l→okT xs=true
 | [],_,_,_=>rfl
 |x::xs,l,h0,h=>by
  unfold szGo at h
  split at h
  ·omega
  ·have:=szGo_okT xs (l - (x.size:Int)) (by omega) h
   unfold okT at*
   rw[List.all_cons,this,Bool.and_true]
   have h1:0≤l - (x.size:Int):=by omega
   exact decide_eq_true (by omega)
theorem szS_okT {xs:List ByteArray} {l:Int} (hl:l≤1000000) (h:0≤szS xs l):okT xs=true∧(xs.length:Int)≤l∧szS xs l≤l:=by
 unfold szS at*
 split at h
 ·omega
 ·rename_i hn
  rw[if_neg hn]
  have hs:=szGo_le xs (l - (xs.length:Int)) (by omega)
  exact⟨szGo_okT xs _ (by omega) h,by omega,by omega⟩
theorem sz_eq {xs:List ByteArray} {l:Int} (h:okTexts xs) (h0:0≤l) (h1:l≤1000000):S.l_szStringS (xs,(l,()))=some (szS xs l,()):=by
 unfold S.l_szStringS
 exact if_pos ⟨h,h0,h1⟩
theorem tos_take' {xs:List ByteArray} (b:Bool):List.take (tos spare b xs).2 (tos spare b xs).1=xs:=tos_take spare b xs
theorem tos_seen {xs:List ByteArray} (b:Bool):seen (tos spare b xs).1 0 (tos spare b xs).2=xs:=by
 unfold seen
 rw[List.drop_zero,tos_take']
theorem toStringSo_eq (xs:List ByteArray) (b:Bool) (h:xs.length≤1000000):S.l_toStringSo (xs,b,())=some (tos spare b xs,()):=by
 unfold S.l_toStringSo
 exact toStringS_eq xs b h
def lawT (xs:List ByteArray):List ByteArray×Bool:=if(rdAll xs).2=true∧((rdAll xs).1.any fun r=>r.1)=false∧(sumQ (rdAll xs).1).2.1≠0 then giveL ((rdAll xs).1.map fun r=>overQ r (sumQ (rdAll xs).1))else([],false)
theorem low350 {qs:List Q3} (h:goodQ 200 qs):(∀r∈qs,low r∧below 350000000 r)∧low (sumQ qs)∧below 350000000 (sumQ qs):=⟨fun r hr=>⟨(h.1 r hr).1,below_mono (by decide) (h.1 r hr).2⟩,good_sum h⟩
theorem over_ok {qs:List Q3} (hl:qs.length≤300) (h:goodQ 200 qs) (h0:(sumQ qs).2.1≠0) (B:Nat) (hB:10^9≤B):((qs.map fun r=>overQ r (sumQ qs)).map (rp B)).all (rok B 40000000)=true:=by
 have hs:=sumQ_below 200 qs.length qs rfl fun r hr=>(h.1 r hr).2
 have hl2:low (sumQ qs):=(good_sum h).1
 apply all_rok hB (n:=70000) (by decide)
 intro q hq
 obtain⟨r,hr,rfl⟩:=List.mem_map.1 hq
 obtain⟨a,b⟩:=h.1 r hr
 refine⟨overQ_low _ _ a hl2 h0,?_⟩
 exact below_mono (by omega) (overQ_below b hs)
theorem s_law (xs:List ByteArray) (h:okT xs=true):S.s_ToWeights (xs,())=some (lawT xs,()):=by
 unfold S.s_ToWeights P.s_ToWeights S.s_l01List lawT
 dsimp only
 rw[if_pos h,Option.bind_some]
 dsimp only
 cases hf:(rdAll xs).2
 ·rw[if_pos (by decide),if_neg (by simp)]
 have hg:=rdAll_good hf
 obtain⟨l1,l2,_⟩:=rdAll_ok hf
 rw[if_neg (by decide)]
 unfold S.s_l01Positive
 dsimp only
 rw[if_pos (by rw[List.length_map];omega),any_rp,Option.bind_some]
 dsimp only
 cases ha:(rdAll xs).1.any fun r=>r.1
 case true=>rw[if_pos (by decide),if_neg (by simp)]
 rw[if_neg (by decide)]
 have et:S.s_l01Total ((rdAll xs).1.map (rp B10),())=some (rp B10 (sumQ (rdAll xs).1),()):=by
  unfold S.s_l01Total
  dsimp only
  rw[if_pos (goodL_S (rdAll_goodL hf)),map_rv B10_le]
 rw[et,Option.bind_some]
 have ez:S.s_l01Zero (((rp B10 (sumQ (rdAll xs).1)).1,(rp B10 (sumQ (rdAll xs).1)).2.1,(rp B10 (sumQ (rdAll xs).1)).2.2),())=some (decide ((sumQ (rdAll xs).1).2.1=0),()):=by
  unfold S.s_l01Zero P.s_l01Zero rp
  dsimp only
  congr 2
  rw[Bool.eq_iff_iff,beq_iff_eq,decide_eq_true_iff,←nd_zero_iff (B:=B10) (by decide),←List.length_eq_zero_iff]
  omega
 rw[ez,Option.bind_some]
 dsimp only
 by_cases h0:(sumQ (rdAll xs).1).2.1=0
 ·rw[if_pos (decide_eq_true h0),if_neg (fun q=>q.2.2 h0)]
 ·rw[if_neg (by simpa using h0),if_pos ⟨rfl,rfl,h0⟩]
  have en:S.s_l01Norm ((rdAll xs).1.map (rp B10),())=some ((normS (rdAll xs).1 (sumQ (rdAll xs).1)).map (rp B10),()):=by
   unfold S.s_l01Norm
   dsimp only
   rw[if_pos ⟨goodL_S (rdAll_goodL hf),by rw[List.length_map];omega,by rw[map_rv B10_le];exact h0⟩,map_rv B10_le]
  have eg:S.s_l01GiveAll ((normS (rdAll xs).1 (sumQ (rdAll xs).1)).map (rp B10),())=some (giveL (normS (rdAll xs).1 (sumQ (rdAll xs).1)),()):=by
   unfold S.s_l01GiveAll
   dsimp only
   rw[if_pos ⟨over_ok (by omega) hg h0 B10 (by decide),by unfold normS;rw[List.length_map,List.length_map];omega⟩,map_rv B10_le]
  rw[en,Option.bind_some,eg,Option.bind_some]
  rfl
theorem i_law (xs:List ByteArray) (h:okT xs=true):S.i_ToWeights (xs,())=some (lawT xs,()):=by
 unfold S.i_ToWeights P.i_ToWeights S.i_rats lawT
 dsimp only
 rw[if_pos h,Option.bind_some]
 dsimp only
 cases hf:(rdAll xs).2
 ·rw[if_pos (by decide),if_neg (by simp)]
 have hg:=rdAll_good hf
 obtain⟨l1,l2,_⟩:=rdAll_ok hf
 rw[if_neg (by decide)]
 have ec:S.slices_ContainsFunc__i_rat_i_rat ((rdAll xs).1.map (rp B32),(),())=some ((rdAll xs).1.any fun r=>r.1,()):=by
  unfold S.slices_ContainsFunc__i_rat_i_rat
  dsimp only
  rw[if_pos (rdAll_goodL hf),any_rp]
 rw[ec,Option.bind_some]
 dsimp only
 cases ha:(rdAll xs).1.any fun r=>r.1
 case true=>rw[if_pos rfl,if_neg (by simp)]
 rw[if_neg (by decide)]
 have et:S.i_sum ((rdAll xs).1.map (rp B32),())=some (rp B32 (sumQ (rdAll xs).1),()):=by
  unfold S.i_sum
  dsimp only
  rw[if_pos (goodL_S (rdAll_goodL hf)),map_rv B32_le]
 have ez:S.i_rat_sign (((rp B32 (sumQ (rdAll xs).1)).1,(rp B32 (sumQ (rdAll xs).1)).2.1,(rp B32 (sumQ (rdAll xs).1)).2.2),())=some (sgnQ (sumQ (rdAll xs).1).1 (sumQ (rdAll xs).1).2.1,()):=by
  unfold S.i_rat_sign rp
  dsimp only
  rw[if_pos (canon_nd (by decide) _),dval_nd (by decide)]
 rw[et,Option.bind_some,ez,Option.bind_some,Option.bind_some]
 dsimp only
 by_cases h0:(sumQ (rdAll xs).1).2.1=0
 ·rw[if_pos (by rw[beq_iff_eq];exact sgnQ_zero.2 h0),if_neg (fun q=>q.2.2 h0)]
 ·rw[if_neg (by rw[beq_iff_eq];exact fun q=>h0 (sgnQ_zero.1 q)),if_pos ⟨rfl,rfl,h0⟩]
  obtain⟨b1,b2,b3⟩:=low350 hg
  have en:S.i_scaled ((rdAll xs).1.map (rp B32),rp B32 (sumQ (rdAll xs).1),())=some ((normQ (rdAll xs).1 (sumQ (rdAll xs).1)).map (rp B32),()):=by
   unfold S.i_scaled
   dsimp only
   rw[if_pos ⟨_,_,rfl,rfl,by omega,b1,b2,b3,h0⟩,map_rv B32_le,rv_rp B32_le]
  have eg:S.i_toldList ((normQ (rdAll xs).1 (sumQ (rdAll xs).1)).map (rp B32),())=some (giveL (normQ (rdAll xs).1 (sumQ (rdAll xs).1)),()):=by
   unfold S.i_toldList
   dsimp only
   rw[if_pos ⟨over_ok (by omega) hg h0 B32 (by decide),by unfold normQ;rw[List.length_map,List.length_map];omega⟩,map_rv B32_le]
  have en':S.i_scaled ((rdAll xs).1.map (rp B32),((rp B32 (sumQ (rdAll xs).1)).1,(rp B32 (sumQ (rdAll xs).1)).2.1,(rp B32 (sumQ (rdAll xs).1)).2.2),())=some ((normQ (rdAll xs).1 (sumQ (rdAll xs).1)).map (rp B32),()):=en
  rw[en',Option.bind_some,eg,Option.bind_some]
  rfl
theorem law_len (xs:List ByteArray):(lawT xs).1.length≤1000000:=by
 unfold lawT
 split
 ·rename_i h
  have l:=(rdAll_ok h.1).2.1
  have l0:=(rdAll_ok h.1).1
  unfold giveL
  split
  ·simp only[List.length_map]
   omega
  ·simp
 ·simp
theorem ToWeights_true (x:PTy [PK.bo (Kd.sl Kd.str)]) (h:BdA _ x) (hz:SzA _ x):∃m,S.l_FnExactToWeights x=some (true,m):=by
 obtain⟨xs,q⟩:=x
 have ht:=okTexts_of h.1
 refine⟨(),?_⟩
 show P.l_FnExactToWeights 0 (xs,())=some (true,())
 unfold P.l_FnExactToWeights
 dsimp only
 rw[sz_eq ht (by decide) (by decide),Option.bind_some]
 by_cases hn:szS xs 1000000<0
 ·rw[if_pos (decide_eq_true hn)]
 rw[if_neg (by simpa using hn)]
 obtain⟨hk,hl,_⟩:=szS_okT (l:=1000000) (by decide) (by omega:0≤szS xs 1000000)
 have hy:=law_len xs
 simp only[toStringSo_eq xs _ (show xs.length≤1000000 by omega),Option.bind_some,tos_seen,s_law xs hk,i_law xs hk,List.drop_zero,intactStringS_eq xs (show xs.length≤1000000 by omega)]
 generalize lawT xs=y at hy ⊢
 obtain⟨g,f⟩:=y
 dsimp only at hy ⊢
 rw[eqS_refl g hy,mkS xs 101 (by omega) (by omega) (by omega),mkS g 101 (by omega) (by omega) hy]
 simp only[Option.bind_some]
 rw[splice_own _ _ (marks_len _ _),hdS g.length 101 (by omega) (by omega) hy]
 simp only[Option.bind_some]
 have e5:¬(101+(xs.length:Int)<0):=by omega
 have e6:¬(101+(g.length:Int)<0):=by omega
 simp [e5,e6]
end Go.Cm
