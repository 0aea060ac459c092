import Derived.Test.YtdpljomfkoojnaaGreatDoorPlJumpChain
import Derived.Test.YtdpljomfkoojnaaGreatDoorCmZL
set_option linter.unusedVariables false
namespace Go.Cm
theorem splice_own {α:Type} (xs ys:List α) (h:ys.length=xs.length):splice xs ys 0=ys:=by
 unfold splice;simp [h]
theorem mkS (xs:List ByteArray) (q:Int) (h0:0<=q) (hq:q<=10000000) (h:xs.length<=1000000):S.l_markStringS (xs,(q,()))=some (q+(xs.length:Int),(marks q xs.length,())):=by
 unfold S.l_markStringS;dsimp only;rw[if_pos ⟨by omega,by omega,by omega⟩]
theorem mkL (a b:List ByteArray) (ha:a.length<=1000000) (hb:b.length<=1000000):S.l_markLine (a,(b,(101,())))=some (101+(a.length:Int)+(b.length:Int),(marks 101 a.length,(marks (101+(a.length:Int)) b.length,()))):=by
 unfold S.l_markLine P.l_markLine;dsimp only;rw[mkS a 101 (by omega) (by omega) ha,Option.bind_some];dsimp only;rw[mkS b _ (by omega) (by omega) hb,Option.bind_some];dsimp only;rw[splice_own _ _ (marks_len _ _),splice_own _ _ (marks_len _ _)]
theorem okTexts_of {xs:List ByteArray} (h:Bd (.sl .str) xs):okTexts xs:=by
 obtain⟨h1,h2⟩:=h;have e:maxLen=9223372036854775807:=rfl;exact⟨by rw[<-e];exact h1,fun x hx=>by rw[<-e];exact h2 x hx⟩
theorem szGo_okT:∀(xs:List ByteArray) (l:Int),l<=1000000->0<=szGo xs l->okT xs=true
 | [],_,_,_=>rfl
 |x::xs,l,h0,h=>by
  unfold szGo at h;split at h
  ·omega
  ·have:=szGo_okT xs (l - (x.size:Int)) (by omega) h;unfold okT at*;rw[List.all_cons,this,Bool.and_true];have h1:0<=l - (x.size:Int):=by omega
   exact decide_eq_true (by omega)
theorem szS_okT {xs:List ByteArray} {l:Int} (hl:l<=1000000) (h:0<=szS xs l):okT xs=true/\(xs.length:Int)<=l/\szS xs l<=l:=by
 unfold szS at*;split at h
 ·omega
 ·rename_i hn;rw[if_neg hn];have hs:=szGo_le xs (l - (xs.length:Int)) (by omega);exact⟨szGo_okT xs _ (by omega) h,by omega,by omega⟩
theorem szStringS_eq (xs:List ByteArray) (l:Int) (h:okTexts xs) (h0:0<=l) (h1:l<=1000000):S.l_szStringS (xs,l,())=some (szS xs l,()):=by
 unfold S.l_szStringS;rw[if_pos ⟨h,h0,h1⟩]
theorem szLine_eq (u d:List ByteArray) (l:Int) (hu:okTexts u) (hd:okTexts d) (h0:0<=l) (h1:l<=1000000):∃r,S.l_szLine ((u,d),l,())=some (r,())/\r<=l/\(0<=r->(okT u=true/\okT d=true)/\u.length<=1000000/\d.length<=1000000):=by
 unfold S.l_szLine P.l_szLine;dsimp only;rw[szStringS_eq u l hu h0 h1,Option.bind_some];have a:=szS_le u l h0
 by_cases hn:szS u l<0
 ·refine⟨-1,by simp [hn],by omega,by omega⟩
 ·obtain⟨u1,u2,u3⟩:=szS_okT h1 (show 0<=szS u l by omega);simp only[hn,decide_false,Bool.false_eq_true,if_false];rw[szStringS_eq d _ hd (by omega) (by omega),Option.bind_some];have b:=szS_le d (szS u l) (by omega)
  by_cases hm:szS d (szS u l)<0
  ·refine⟨-1,by simp [hm],by omega,by omega⟩
  ·obtain⟨d1,d2,d3⟩:=szS_okT (l:=szS u l) (by omega) (show 0<=szS d (szS u l) by omega);exact⟨szS d (szS u l),by simp [hm],by omega,fun _=>⟨⟨u1,d1⟩,by omega,by omega⟩⟩
theorem tos_take' {xs:List ByteArray} (b:Bool):List.take (tos spare b xs).2 (tos spare b xs).1=xs:=tos_take spare b xs
theorem intactLine_eq (u d:List ByteArray) (hu:u.length<=1000000) (hd:d.length<=1000000):S.l_intactLine ((((tos spare false u).1,(tos spare false u).2),((tos spare false d).1,(tos spare false d).2)),(((tos spare false u).1,(tos spare false u).2),((tos spare false d).1,(tos spare false d).2)),())=some (true,()):=by
 unfold S.l_intactLine P.l_intactLine;dsimp only;rw[intactStringS_eq u hu,Option.bind_some,intactStringS_eq d hd];rfl
theorem tos_seen {xs:List ByteArray} (b:Bool):seen (tos spare b xs).1 0 (tos spare b xs).2=xs:=by
 unfold seen;rw[List.drop_zero,tos_take']
theorem toStringSo_eq (xs:List ByteArray) (b:Bool) (h:xs.length<=1000000):S.l_toStringSo (xs,b,())=some (tos spare b xs,()):=by
 unfold S.l_toStringSo;exact toStringS_eq xs b h
theorem toLine_eq (u d:List ByteArray) (b:Bool) (hu:u.length<=1000000) (hd:d.length<=1000000):S.l_toLineo ((u,d),b,())=some ((tos spare b u,tos spare b d),()):=by
 unfold S.l_toLineo P.l_toLineo;dsimp only;rw[toStringSo_eq u b hu,Option.bind_some,toStringSo_eq d b hd,Option.bind_some]
def ownM (c:List (List ByteArray)):List (List ByteArray×Nat):=c.map fun r=>(r,r.length)
theorem ownM_len (c:List (List ByteArray)):(ownM c).length=c.length:=by simp [ownM]
theorem own1 (c:List (List ByteArray)×Bool):(ownW c).1.1=ownM c.1:=rfl
theorem own2 (c:List (List ByteArray)×Bool):(ownW c).1.2=c.1.length:=rfl
theorem own3 (c:List (List ByteArray)×Bool):(ownW c).2=c.2:=rfl
theorem seen_all {α:Type} (m:List α) (n:Nat) (h:n=m.length):seen m 0 n=m:=by
 subst h;unfold seen;rw[List.drop_zero,List.take_length]
theorem own_vw (c:List (List ByteArray)):(ownM c).map (fun y=>(y.1.take y.2).map (fun z=>z))=c:=by
 unfold ownM;rw[List.map_map];have:((fun y:List ByteArray×Nat=>(y.1.take y.2).map (fun z=>z)) ∘ fun r=>(r,r.length))=id:=by
  funext r;simp
 rw[this,List.map_id]
theorem mk2n_own (c:List (List ByteArray)):mk2n (ownM c)=(c.map List.length).sum:=by
 induction c with
 |nil=>rfl
 |cons r c ih=>
  show(seen r 0 r.length).length+mk2n (ownM c)=_;rw[ih,seen_all r _ rfl];simp
theorem mk2_own (q:Int) (c:List (List ByteArray)):(mk2 q (ownM c)).map (fun y=>(y.1.take y.2).map (fun z=>z))=mkV q (c.map List.length):=by
 induction c generalizing q with
 |nil=>rfl
 |cons r c ih=>
  show((fun y:List ByteArray×Nat=>(y.1.take y.2).map (fun z=>z)) (splice r (marks q (seen r 0 r.length).length) 0,r.length))::(mk2 (q+((seen r 0 r.length).length:Int)) (ownM c)).map _=_;rw[ih,seen_all r _ rfl];show _=marks q r.length::mkV (q+(r.length:Int)) _;congr 1;dsimp only;have:splice r (marks q r.length) 0=marks q r.length:=by
   unfold splice;simp [marks_len]
  rw[this,List.take_of_length_le (by rw[marks_len];exact Nat.le_refl _),List.map_id']
def okRC (c:List (List ByteArray)):Prop:=c.length<=12/\∀r∈c,r.length<=12
theorem okRC_sum {c:List (List ByteArray)} (h:okRC c):(c.map List.length).sum<=1000:=by
 obtain⟨h1,h2⟩:=h;have:∀l:List (List ByteArray),(∀r∈l,r.length<=12)->(l.map List.length).sum<=12*l.length:=by
  intro l
  induction l with
  |nil=>intro _;simp
  |cons r l ih=>
   intro hl;have a:=hl r (List.mem_cons_self ..);have b:=ih fun x hx=>hl x (List.mem_cons_of_mem _ hx)
   simp only[List.map_cons,List.sum_cons,List.length_cons];omega
 have:=this c h2;omega
theorem eqC (c:List (List ByteArray)) (h:okRC c):S.l_eqChain (c,c,())=some (true,()):=by
 unfold S.l_eqChain P.l_eqChain S.l_eqStringSS;dsimp only;rw[if_pos ⟨Nat.le_trans h.1 (by decide),fun r hr=>Nat.le_trans (h.2 r hr) (by decide)⟩,eqTT_refl];rfl
theorem mkC (c:List (List ByteArray)) (h:okRC c):S.l_markChain (ownM c,101,())=some (101+((c.map List.length).sum:Int),(mk2 101 (ownM c),())):=by
 have hs:=okRC_sum h;have h1:=h.1;unfold S.l_markChain P.l_markChain S.l_markStringSS;dsimp only;simp only[hd0_dup,nrm_hd0,Bool.false_eq_true,if_false];rw[mk2n_own,if_pos ⟨by decide,by decide,by omega,by rw[ownM_len];omega⟩,Option.bind_some]
theorem hdC (c:List (List ByteArray)) (h:okRC c):S.l_heldChain (mkV 101 (c.map List.length),101,())=some (101+((c.map List.length).sum:Int),()):=by
 have hs:=okRC_sum h;have h1:=h.1;unfold S.l_heldChain P.l_heldChain S.l_heldStringSS;dsimp only;rw[mkV_lens,mkV_len,if_pos ⟨by decide,by decide,by omega,by rw[List.length_map];omega,rfl⟩,Option.bind_some,if_neg (by simp;omega)]
theorem giveM_ok {M:List (List Q3)} (h:okM M):okRC (giveM M).1:=by
 unfold giveM;split
 ·refine⟨by rw[List.length_map];exact h.1,fun r hr=> ?_⟩;obtain⟨q,hq,rfl⟩:=List.mem_map.1 hr;unfold giveL;split
  ·rw[List.length_map];exact(h.2 q hq).1
  ·simp
 ·exact⟨by simp,by simp⟩
theorem okRC_nil:okRC []:=⟨by simp,by simp⟩
def jcT (us ds:List ByteArray):List (List ByteArray)×Bool:=if jmB us ds=true then giveM (mat ((lineQ us ds).1.1.length+1) (jA (fQ (lineQ us ds).1.1) (fQ (lineQ us ds).1.2) (lineQ us ds).1.1.length))else([],false)
theorem jm_own (us ds:List ByteArray):jmT us ds=ownW (jcT us ds):=by
 unfold jmT jcT;split
 ·rfl
 ·rfl
theorem jc_ok (us ds:List ByteArray):okRC (jcT us ds).1:=by
 unfold jcT;split
 ·rename_i h;unfold jmB at h;rw[Bool.and_eq_true]at h;obtain⟨hL,h12⟩:=h;have h12:=of_decide_eq_true h12;obtain⟨l1,l2,l3,l4,l5,l6,l7⟩:=lineQ_ok hL;exact giveM_ok (jm_okM (by rw[l1];exact l2) (by rw[l1];exact l3) (by rw[l1];show(rdAll us).1.length=(rdAll ds).1.length;omega) (by rw[l1];show 0<(rdAll us).1.length;omega) h12)
 ·exact okRC_nil
theorem s_law (us ds:List ByteArray) (hu:okT us=true) (hd:okT ds=true):S.s_JumpChain ((us,ds),())=some (ownW (jcT us ds),()):=by
 unfold S.s_JumpChain;dsimp only;rw[if_pos ⟨hu,hd⟩,jm_own]
theorem i_law (us ds:List ByteArray) (hu:okT us=true) (hd:okT ds=true):S.i_JumpChain ((us,ds),())=some (ownW (jcT us ds),()):=by
 unfold S.i_JumpChain;dsimp only;rw[if_pos ⟨hu,hd⟩,jm_own]
theorem JumpChain_true (x:PTy [PK.bo (Kd.st (Kd.pair (Kd.sl Kd.str) (Kd.sl Kd.str)))]) (h:BdA _ x) (hz:SzA _ x):∃m,S.l_FnExactJumpChain x=some (true,m):=by
 obtain⟨⟨u,d⟩,q⟩:=x;obtain⟨⟨h1,h2⟩,_⟩:=h;refine⟨(),?_⟩;show P.l_FnExactJumpChain 0 ((u,d),())=some (true,());unfold P.l_FnExactJumpChain;dsimp only;obtain⟨r,e1,e2,e3⟩:=szLine_eq u d 1000000 (okTexts_of h1) (okTexts_of h2) (by omega) (by omega);rw[e1,Option.bind_some]
 by_cases hn:r<0
 ·simp [hn]
 rw[if_neg (by simpa using hn)];obtain⟨⟨ku,kd⟩,hu,hd⟩:=e3 (by omega);have hc:=jc_ok u d;have t3:seen (ownM (jcT u d).1) 0 (jcT u d).1.length=ownM (jcT u d).1:=seen_all _ _ (ownM_len _).symm;have t4:(ownM (jcT u d).1).take (jcT u d).1.length=ownM (jcT u d).1:=by rw[<-ownM_len,List.take_length]
 have t5:seen (mk2 101 (ownM (jcT u d).1)) 0 (jcT u d).1.length=mk2 101 (ownM (jcT u d).1):=seen_all _ _ (by rw[mk2_len,ownM_len]);simp only[toLine_eq u d _ hu hd,Option.bind_some,tos_seen,s_law u d ku kd,i_law u d ku kd,own1,own2,own3,nrm_hd0,t3,own_vw,eqC _ hc,intactLine_eq u d hu hd,mkL u d hu hd,Bool.false_eq_true,if_false,hd0_take,hd0_dup,hd0_length,ownM_len,nrm_take,t4,t5,mk2_own,List.drop_zero,mkC _ hc,hdC _ hc,Bool.not_true,beq_self_eq_true,decide_true,if_true];have e5:¬(101+(u.length:Int)+(d.length:Int)<0):=by omega
 have e6:¬(101+(((jcT u d).1.map List.length).sum:Int)<0):=by omega
 simp [e5,e6]
end Go.Cm
