import Derived.Test.YtdpljomfkoojnaaGreatDoorPlPeriodOfa
set_option linter.unusedVariables false
set_option maxRecDepth 100000
noncomputable section
namespace Go.Cm
abbrev P.s_l01Gcd_b0 (x1:List Int×List Int×Unit) (g2:List Int×List Int×Unit→Option (List Int×Unit)):Option (List Int×Unit):=
 if decide ((x1.1.length:Int)>(0:Int))then(S.s_l01NatDiv (x1.2.1,x1.1,())).bind fun y3=>g2 (y3.1.2,x1.1,())else some (x1.2.1,())
def P.s_l01Gcd (k:Nat) (x:List Int×List Int×Unit):Option (List Int×Unit):=
 loopP P.s_l01Gcd_b0 k (x.2.1,x.1,())
theorem canon_pos {B:Nat} (hB:2≤B) {xs:List Int} (h:canon B xs=true) (hn:xs≠ []):dval B xs≠0:=by
 intro q
 have:=canon_eq h
 rw[q,nd_zero hB]at this
 exact hn this.symm
theorem nd_shorter {B:Nat} (hB:2≤B) {m n:Nat} (h:m≤n):(nd B m).length≤(nd B n).length:=by
 rw[nd_len hB]
 exact Nat.lt_of_le_of_lt h ((nd_len hB n _).1 (Nat.le_refl _))
theorem sg_loop (n:Nat):∀(as bs:List Int) (k:Nat),canon B10 as=true→canon B10 bs=true→as.length≤10000000000→bs.length≤10000000000→dval B10 bs≤n→n<k→loopP P.s_l01Gcd_b0 k (bs,(as,()))=some (nd B10 (Nat.gcd (dval B10 as) (dval B10 bs)),()):=by
 induction n using Nat.strongRecOn with
 |ind n ih=>
  intro as bs k ca cb la lb hn hk
  obtain⟨k,rfl⟩:∃j,k=j+1:=⟨k - 1,by omega⟩
  rw[loopP_succ]
  unfold P.s_l01Gcd_b0
  dsimp only
  by_cases hb:bs=[]
  ·subst hb
   rw[if_neg (by simp),show dval B10 []=0 from rfl,Nat.gcd_zero_right,canon_eq ca]
  ·have hpos:0<bs.length:=List.length_pos_iff.2 hb
   have hb0:=canon_pos B10_le cb hb
   have hm:=Nat.mod_lt (dval B10 as) (show 0<dval B10 bs by omega)
   have hc:(bs.length:Int)>0:=by omega
   rw[if_pos (decide_eq_true hc)]
   show Option.bind (S.s_l01NatDiv (as,(bs,()))) (fun y3=>loopP P.s_l01Gcd_b0 k (y3.1.2,(bs,())))=_
   unfold S.s_l01NatDiv
   dsimp only
   rw[if_pos ⟨ca,cb,hb,la,lb⟩,Option.bind_some]
   dsimp only
   have hl:(nd B10 (dval B10 as%dval B10 bs)).length≤bs.length:=by
    have:=nd_shorter B10_le (Nat.le_of_lt hm)
    rwa [canon_eq cb]at this
   have hd:dval B10 (nd B10 (dval B10 as%dval B10 bs))=dval B10 as%dval B10 bs:=dval_nd B10_le _
   rw[ih (dval B10 as%dval B10 bs) (by omega) bs (nd B10 (dval B10 as%dval B10 bs)) k cb (canon_nd B10_le _) lb (by omega) (by rw[hd];exact Nat.le_refl _) (by omega),hd,gcd_step]
def S.s_l01Gcd (x:((List Int)×((List Int)×Unit))):(Option ((List Int)×Unit)):=if canon B10 x.1=true∧canon B10 x.2.1=true∧x.1.length≤10000000000∧x.2.1.length≤10000000000 then some (nd B10 (Nat.gcd (dval B10 x.1) (dval B10 x.2.1)),())else none
theorem S.s_l01Gcd_ok (x:((List Int)×((List Int)×Unit))) (r:_) (h:S.s_l01Gcd x=some r):∃k,P.s_l01Gcd k x=some r:=by
 obtain⟨as,bs,u⟩:=x
 unfold S.s_l01Gcd at h
 dsimp only at h
 split at h
 case isFalse=>cases h
 rename_i hc
 obtain⟨ca,cb,la,lb⟩:=hc
 cases h
 refine⟨dval B10 bs+1,?_⟩
 unfold P.s_l01Gcd
 exact sg_loop (dval B10 bs) as bs _ ca cb la lb (Nat.le_refl _) (by omega)
abbrev P.s_l01NatRead_b3 (g2:Int×ByteArray×List Int×Unit→Option (List Int×Unit)) (x4:Int×Int×Int×ByteArray×List Int×Unit) (g5:Int×Int×Int×ByteArray×List Int×Unit→Option (List Int×Unit)):Option (List Int×Unit):=
 if decide (x4.1<x4.2.1)then if decide ((0:Int)≤x4.1)then if decide (x4.1<(x4.2.2.2.1.size:Int))then g5 (IntKind.wrap .i64 (x4.1+(1:Int)),x4.2.1,IntKind.wrap .i64 ((IntKind.wrap .i64 ((10:Int)*x4.2.2.1))+(IntKind.wrap .i64 (IntKind.wrap .u8 ((byteAt x4.2.2.2.1 x4.1) - (48:Int))))),x4.2.2.2.1,x4.2.2.2.2.1,())else none else none else if decide (((x4.2.2.2.2.1.length+(List.length [x4.2.2.1]))*(8:Nat))≤(140737488355328:Nat))then g2 (IntKind.wrap .i64 (x4.2.1 - (9:Int)),x4.2.2.2.1,x4.2.2.2.2.1++[x4.2.2.1],())else none
abbrev P.s_l01NatRead_b6 (g2:Int×ByteArray×List Int×Unit→Option (List Int×Unit)) (x7:Int×Int×Int×ByteArray×List Int×Unit) (g8:Int×Int×Int×ByteArray×List Int×Unit→Option (List Int×Unit)):Option (List Int×Unit):=
 if decide (x7.1<x7.2.1)then if decide ((0:Int)≤x7.1)then if decide (x7.1<(x7.2.2.2.1.size:Int))then g8 (IntKind.wrap .i64 (x7.1+(1:Int)),x7.2.1,IntKind.wrap .i64 ((IntKind.wrap .i64 ((10:Int)*x7.2.2.1))+(IntKind.wrap .i64 (IntKind.wrap .u8 ((byteAt x7.2.2.2.1 x7.1) - (48:Int))))),x7.2.2.2.1,x7.2.2.2.2.1,())else none else none else if decide (((x7.2.2.2.2.1.length+(List.length [x7.2.2.1]))*(8:Nat))≤(140737488355328:Nat))then g2 (IntKind.wrap .i64 (x7.2.1 - (9:Int)),x7.2.2.2.1,x7.2.2.2.2.1++[x7.2.2.1],())else none
abbrev P.s_l01NatRead_b0 (k:Nat) (x1:Int×ByteArray×List Int×Unit) (g2:Int×ByteArray×List Int×Unit→Option (List Int×Unit)):Option (List Int×Unit):=
 if decide (x1.1>(0:Int))then if decide (x1.1>(9:Int))then loopP (P.s_l01NatRead_b3 g2) k (IntKind.wrap .i64 (x1.1 - (9:Int)),x1.1,(0:Int),x1.2.1,x1.2.2.1,())else loopP (P.s_l01NatRead_b6 g2) k ((0:Int),x1.1,(0:Int),x1.2.1,x1.2.2.1,())else(S.s_l01Trim (x1.2.2.1,())).bind fun y9=>some (y9.1,())
def P.s_l01NatRead (k:Nat) (x:ByteArray×Unit):Option (List Int×Unit):=
 loopP (P.s_l01NatRead_b0 k) k ((x.1.size:Int),x.1,([]:List Int),())
theorem sr_inner (g:((Int×(ByteArray×((List Int)×Unit)))→(Option ((List Int)×Unit)))) (s:ByteArray) (l:List UInt8) (hL:s.data.toList=l) (hd:allD l=true) (a n:Nat) (hn:n≤9) (han:a+n≤l.length) (hl:l.length≤1000000000) (out:List Int) (ho:out.length≤1000000000) (k:Nat) (hk:n<k):
  loopP (P.s_l01NatRead_b3 g) k ((a:Int),(((a+n:Nat):Int),((0:Int),(s,(out,())))))=g (((a+n:Nat):Int) - 9,(s,(out++[((dv ((l.drop a).take n):Nat):Int)],()))):=by
 have hs:s.size=l.length:=by rw[←hL,Array.length_toList];rfl
 have key:=loop_up0 (k:=k) (b:=P.s_l01NatRead_b3 g) (n:=n) (st:=fun i=>(((a+i:Nat):Int),((a+n:Nat):Int),((dv ((l.drop a).take i):Nat):Int),s,out,())) (F:=fun i=>g (((a+n:Nat):Int) - 9,(s,(out++[((dv ((l.drop a).take n):Nat):Int)],())))) (fun i g' hi hg'=>by
  unfold P.s_l01NatRead_b3
  dsimp only at hg' ⊢
  refine Eq.trans ?_ hg'
  have hi2:i<(l.drop a).length:=by rw[List.length_drop];omega
  have e1:((a+i:Nat):Int)<((a+n:Nat):Int):=by omega
  have e2:(0:Int)≤((a+i:Nat):Int):=by omega
  have e3:((a+i:Nat):Int)<(l.length:Int):=by omega
  have hb:byteAt s ((a+i:Nat):Int)=(((l.drop a)[i]).toNat:Int):=by
   unfold byteAt
   rw[hL,getD_cast l (a+i) _ (by omega),List.getElem_drop]
  have hc:=allD_get (allD_drop hd a) hi2
  have hv:=dv_lt (allD_take (allD_drop hd a) i)
  have hp:10^((l.drop a).take i).length≤10^9:=Nat.pow_le_pow_right (by decide) (by simp;omega)
  have hp9:(10:Nat)^9=1000000000:=by decide
  rw[hs,hb,wr (x:=((a+i:Nat):Int)+1) (by omega) (by omega)]
  simp only[e1,e2,e3,decide_true,if_true]
  rw[←List.take_append_getElem hi2,dv_snoc]
  generalize (l.drop a)[i].toNat=c at*
  generalize dv ((l.drop a).take i)=v at*
  have h8:IntKind.wrap .u8 ((c:Int) - 48)=(c:Int) - 48:=IntWalk.u8_in _ (by omega)
  rw[h8,wr (x:=(c:Int) - 48) (by omega) (by omega),wr (x:=10*(v:Int)) (by omega) (by omega),wr (x:=10*(v:Int)+((c:Int) - 48)) (by omega) (by omega),show 10*(v:Int)+((c:Int) - 48)=((10*v+(c - 48):Nat):Int) by omega]
  rfl) (fun g'=>by
  unfold P.s_l01NatRead_b3
  dsimp only
  have hcap:(out.length+ [((dv ((l.drop a).take n):Nat):Int)].length)*8≤140737488355328:=by
   rw[List.length_singleton]
   omega
  rw[if_neg (by simp),if_pos (decide_eq_true hcap),wr (by omega) (by omega)]) hk
 exact key
theorem sr_outer (s:ByteArray) (l:List UInt8) (hL:s.data.toList=l) (hd:allD l=true) (hl:l.length≤1000000000) (K:Nat) (hK:9<K) (n:Nat):∀(to:Int) (out:List Int) (k:Nat),to≤(n:Int)→ -9≤to→to≤(l.length:Int)→n<k→dig B10 out=true→out.length+n≤l.length→dval B10 out+B10^out.length*dv (l.take to.toNat)=dv l→
  loopP (P.s_l01NatRead_b0 K) k (to,(s,(out,())))=some (nd B10 (dv l),()):=by
 induction n using Nat.strongRecOn with
 |ind n ih=>
  intro to out k hto hlo htl hk hdo hol hv
  obtain⟨k,rfl⟩:∃j,k=j+1:=⟨k - 1,by omega⟩
  rw[loopP_succ]
  unfold P.s_l01NatRead_b0
  dsimp only
  by_cases h0:to>0
  ·rw[if_pos (decide_eq_true h0)]
   obtain⟨m,rfl⟩:∃m:Nat,to=(m:Int):=⟨to.toNat,by omega⟩
   rw[Int.toNat_natCast]at hv
   have hB9:B10=10^9:=by decide
   have hstep:∀a c:Nat,c≤9→a+c=m→(c=9∨a=0)→loopP (P.s_l01NatRead_b3 (loopP (P.s_l01NatRead_b0 K) k)) K ((a:Int),((m:Int),((0:Int),(s,(out,())))))=some (nd B10 (dv l),()):=by
    intro a c hc9 hm hor
    have hin:=sr_inner (loopP (P.s_l01NatRead_b0 K) k) s l hL hd a c hc9 (by omega) hl out (by omega) K (by omega)
    rw[hm]at hin
    rw[hin]
    have htk:l.take m=l.take a++(l.drop a).take c:=by rw[←hm,List.take_add]
    have hpc:((l.drop a).take c).length=c:=by simp;omega
    have hpd:=dv_lt (allD_take (allD_drop hd a) c)
    rw[hpc]at hpd
    have hp9:10^c≤10^9:=Nat.pow_le_pow_right (by decide) hc9
    have hpB:dv ((l.drop a).take c)<B10:=by rw[hB9];omega
    have hta:l.take ((m:Int) - 9).toNat=l.take a:=by
     rcases hor with g|g
     ·rw[show((m:Int) - 9).toNat=a by omega]
     ·subst g
      rw[show((m:Int) - 9).toNat=0 by omega]
    refine ih (n - 1) (by omega) _ _ k (by omega) (by omega) (by omega) (by omega) ?_ (by rw[List.length_append,List.length_singleton];omega) ?_
    ·rw[dig_append,hdo,Bool.true_and,dig_cons]
     exact⟨⟨by omega,by omega⟩,rfl⟩
    ·rw[hta,dval_append,List.length_append,List.length_singleton,Nat.pow_succ,←hv,htk,dv_append,hpc]
     have e1:dval B10 [((dv ((l.drop a).take c):Nat):Int)]=dv ((l.drop a).take c):=by rw[dval,Int.toNat_natCast];rfl
     rw[e1]
     rcases hor with g|g
     ·rw[g,←hB9,Nat.mul_assoc,Nat.mul_add,Nat.mul_comm B10]
      omega
     ·subst g
      have:dv (l.take 0)=0:=by rw[List.take_zero];rfl
      rw[this,Nat.mul_zero,Nat.zero_mul,Nat.zero_add]
      omega
   by_cases h9:(m:Int)>9
   ·rw[if_pos (decide_eq_true h9),wr (by omega) (by omega),show(m:Int) - 9=((m - 9:Nat):Int) by omega]
    exact hstep (m - 9) 9 (Nat.le_refl _) (by omega) (.inl rfl)
   ·rw[if_neg (by simpa using h9)]
    exact hstep 0 m (by omega) (by omega) (.inr rfl)
  ·rw[if_neg (by simpa using h0)]
   have h00:to.toNat=0:=by omega
   rw[h00,List.take_zero,show dv []=0 from rfl,Nat.mul_zero,Nat.add_zero]at hv
   unfold S.s_l01Trim
   dsimp only
   rw[if_pos ⟨hdo,by omega⟩,Option.bind_some,hv]
def S.s_l01NatRead (x:(ByteArray×Unit)):(Option ((List Int)×Unit)):=if allD x.1.data.toList=true∧x.1.data.toList.length≤1000000000 then some (nd B10 (dv x.1.data.toList),())else none
theorem S.s_l01NatRead_ok (x:(ByteArray×Unit)) (r:_) (h:S.s_l01NatRead x=some r):∃k,P.s_l01NatRead k x=some r:=by
 obtain⟨s,u⟩:=x
 unfold S.s_l01NatRead at h
 dsimp only at h
 split at h
 case isFalse=>cases h
 rename_i hc
 obtain⟨hd,hl⟩:=hc
 cases h
 have hs:s.size=s.data.toList.length:=by rw[Array.length_toList];rfl
 refine⟨s.data.toList.length+10,?_⟩
 unfold P.s_l01NatRead
 dsimp only
 rw[hs]
 exact sr_outer s _ rfl hd hl _ (by omega) s.data.toList.length _ [] _ (Int.le_refl _) (by omega) (Int.le_refl _) (by omega) rfl (by simp) (by rw[Int.toNat_natCast,List.take_length];simp [dval])
abbrev P.s_l01Digits_b0 (x1:Int×ByteArray×Unit) (g2:Int×ByteArray×Unit→Option (Bool×Unit)):Option (Bool×Unit):=
 if decide (x1.1<(x1.2.1.size:Int))then if decide ((0:Int)≤x1.1)then if decide (x1.1<(x1.2.1.size:Int))then if decide ((byteAt x1.2.1 x1.1)<(48:Int))then some (false,())else if decide ((0:Int)≤x1.1)then if decide (x1.1<(x1.2.1.size:Int))then if decide ((byteAt x1.2.1 x1.1)>(57:Int))then some (false,())else g2 (IntKind.wrap .i64 (x1.1+(1:Int)),x1.2.1,())else none else none else none else none else if decide ((x1.2.1.size:Int)≥(1:Int))then if decide ((x1.2.1.size:Int)≤(200:Int))then if(x1.2.1.size:Int)==(1:Int)then some (true,())else if decide ((0:Int)<(x1.2.1.size:Int))then some ((byteAt x1.2.1 (0:Int)) != (48:Int),())else none else some (false,())else some (false,())
def P.s_l01Digits (k:Nat) (x:ByteArray×Unit):Option (Bool×Unit):=
 loopP P.s_l01Digits_b0 k ((0:Int),x.1,())
def S.s_l01Digits (x:(ByteArray×Unit)):(Option (Bool×Unit)):=if x.1.size≤281474976710656 then some (okN x.1.data.toList,())else none
theorem S.s_l01Digits_ok (x:(ByteArray×Unit)) (r:_) (h:S.s_l01Digits x=some r):∃k,P.s_l01Digits k x=some r:=by
 obtain⟨s,u⟩:=x
 unfold S.s_l01Digits at h
 dsimp only at h
 split at h
 case isFalse=>cases h
 rename_i hsz
 cases h
 have hs:s.size=s.data.toList.length:=by rw[Array.length_toList];rfl
 rw[hs]at hsz
 refine⟨s.data.toList.length+1,?_⟩
 unfold P.s_l01Digits
 dsimp only
 generalize hL:s.data.toList=l at*
 have key:=loop_up0 (k:=l.length+1) (b:=P.s_l01Digits_b0) (n:=l.length) (st:=fun i=>((i:Int),s,())) (F:=fun i=>some (allD (l.drop i)&&okR l,())) (fun i g hi hg=>by
  unfold P.s_l01Digits_b0
  dsimp only at hg ⊢
  have e1:(i:Int)<(l.length:Int):=by omega
  have e2:(0:Int)≤(i:Int):=by omega
  have hb:byteAt s (i:Int)=(l[i].toNat:Int):=by
   unfold byteAt
   rw[hL,getD_cast l i _ hi]
  have ha:allD (l.drop i)=(isD l[i]&&allD (l.drop (i+1))):=by
   rw[List.drop_eq_getElem_cons hi]
   rfl
  rw[hs,hb,wr (x:=(i:Int)+1) (by omega) (by omega),ha]
  simp only[e1,e2,decide_true,if_true]
  unfold isD
  by_cases c1:48≤l[i].toNat
  ·rw[if_neg (by simp;omega)]
   by_cases c2:l[i].toNat≤57
   ·rw[if_neg (by simp;omega),decide_eq_true ⟨c1,c2⟩,Bool.true_and]
    exact hg
   ·rw[if_pos (decide_eq_true (by omega)),decide_eq_false (fun q=>c2 q.2)]
    rfl
  ·rw[if_pos (decide_eq_true (by omega)),decide_eq_false (fun q=>c1 q.1)]
   rfl) (fun g=>by
  unfold P.s_l01Digits_b0
  dsimp only
  rw[hs,if_neg (by simp),List.drop_length,show allD []=true from rfl,Bool.true_and]
  unfold okR
  by_cases h1:l=[]
  ·subst h1
   rfl
  ·have hpos:0<l.length:=List.length_pos_iff.2 h1
   have d1:(l.length:Int)≥1:=by omega
   rw[if_pos (decide_eq_true d1),decide_eq_true h1,Bool.true_and]
   by_cases h2:l.length≤200
   ·have d2:(l.length:Int)≤200:=by omega
    rw[if_pos (decide_eq_true d2),decide_eq_true h2,Bool.true_and]
    by_cases h3:l.length=1
    ·have d3:(((l.length:Nat):Int)==(1:Int))=true:=by simp [h3]
     rw[if_pos d3,decide_eq_true h3,Bool.true_or]
    ·have d3:¬(((l.length:Nat):Int)==(1:Int))=true:=by simp;omega
     have d4:(0:Int)<(l.length:Int):=by omega
     rw[if_neg d3,if_pos (decide_eq_true d4),decide_eq_false h3,Bool.false_or]
     have hb:byteAt s 0=(l[0].toNat:Int):=by
      unfold byteAt
      rw[hL]
      simp [hpos]
     have hh:l.head? =some l[0]:=by
      cases l with
      |nil=>simp at h1
      |cons c r=>rfl
     rw[hb,hh]
     by_cases c1:l[0]=48
     ·rw[c1]
      rfl
     ·have:¬((l[0].toNat:Int)=48):=by
       intro q
       apply c1
       apply UInt8.toNat_inj.1
       show _=48
       omega
      rw[decide_eq_true (by simpa using c1)]
      simpa [bne]using this
   ·have d2:¬(l.length:Int)≤200:=by omega
    rw[if_neg (by simpa using d2),decide_eq_false h2,Bool.false_and]) (by omega)
 rw[List.drop_zero]at key
 exact key
def P.s_l01Parse (k:Nat) (x:ByteArray×Unit):Option (((Bool×List Int×List Int)×Bool)×Unit):=
 if decide ((x.1.size:Int)>(0:Int))then if decide ((0:Int)<(x.1.size:Int))then if(byteAt x.1 (0:Int))==(45:Int)then if decide ((0:Int)≤(x.1.size:Int))then if decide ((x.1.size:Int)≤(x.1.size:Int))then if decide ((1:Int)≤(x.1.size:Int))then(S.s_l01Cut (ByteArray.extract x.1 (1:Nat) (Int.toNat (x.1.size:Int)),(47:Int),())).bind fun y0=>if decide ((y0.1.length:Int)>(2:Int))then some (((false,([]:List Int),([]:List Int)),false),())else if decide ((0:Int)<(y0.1.length:Int))then(S.s_l01Digits (y0.1.getD (0:Nat) (bs []),())).bind fun y1=>if !y1.1 then some (((false,([]:List Int),([]:List Int)),false),())else if decide ((0:Int)<(y0.1.length:Int))then(S.s_l01NatRead (y0.1.getD (0:Nat) (bs []),())).bind fun y2=>if(byteAt x.1 (0:Int))==(45:Int)then if(y2.1.length:Int)==(0:Int)then some (((false,([]:List Int),([]:List Int)),false),())else if(y0.1.length:Int)==(1:Int)then some ((((byteAt x.1 (0:Int))==(45:Int),y2.1,[(1:Int)]),true),())else if decide ((1:Int)<(y0.1.length:Int))then(S.s_l01Digits (y0.1.getD (1:Nat) (bs []),())).bind fun y3=>if !y3.1 then some (((false,([]:List Int),([]:List Int)),false),())else if decide ((1:Int)<(y0.1.length:Int))then(S.s_l01NatRead (y0.1.getD (1:Nat) (bs []),())).bind fun y4=>(S.s_l01Cmp (y4.1,[(1:Int)],())).bind fun y5=>if decide (y5.1≤(0:Int))then some (((false,([]:List Int),([]:List Int)),false),())else(S.s_l01Gcd (y2.1,y4.1,())).bind fun y6=>(S.s_l01Cmp (y6.1,[(1:Int)],())).bind fun y7=>if y7.1 != (0:Int)then some (((false,([]:List Int),([]:List Int)),false),())else some ((((byteAt x.1 (0:Int))==(45:Int),y2.1,y4.1),true),())else none else none else if(y0.1.length:Int)==(1:Int)then some ((((byteAt x.1 (0:Int))==(45:Int),y2.1,[(1:Int)]),true),())else if decide ((1:Int)<(y0.1.length:Int))then(S.s_l01Digits (y0.1.getD (1:Nat) (bs []),())).bind fun y8=>if !y8.1 then some (((false,([]:List Int),([]:List Int)),false),())else if decide ((1:Int)<(y0.1.length:Int))then(S.s_l01NatRead (y0.1.getD (1:Nat) (bs []),())).bind fun y9=>(S.s_l01Cmp (y9.1,[(1:Int)],())).bind fun y10=>if decide (y10.1≤(0:Int))then some (((false,([]:List Int),([]:List Int)),false),())else(S.s_l01Gcd (y2.1,y9.1,())).bind fun y11=>(S.s_l01Cmp (y11.1,[(1:Int)],())).bind fun y12=>if y12.1 != (0:Int)then some (((false,([]:List Int),([]:List Int)),false),())else some ((((byteAt x.1 (0:Int))==(45:Int),y2.1,y9.1),true),())else none else none else none else none else none else none else none else(S.s_l01Cut (x.1,(47:Int),())).bind fun y13=>if decide ((y13.1.length:Int)>(2:Int))then some (((false,([]:List Int),([]:List Int)),false),())else if decide ((0:Int)<(y13.1.length:Int))then(S.s_l01Digits (y13.1.getD (0:Nat) (bs []),())).bind fun y14=>if !y14.1 then some (((false,([]:List Int),([]:List Int)),false),())else if decide ((0:Int)<(y13.1.length:Int))then(S.s_l01NatRead (y13.1.getD (0:Nat) (bs []),())).bind fun y15=>if(byteAt x.1 (0:Int))==(45:Int)then if(y15.1.length:Int)==(0:Int)then some (((false,([]:List Int),([]:List Int)),false),())else if(y13.1.length:Int)==(1:Int)then some ((((byteAt x.1 (0:Int))==(45:Int),y15.1,[(1:Int)]),true),())else if decide ((1:Int)<(y13.1.length:Int))then(S.s_l01Digits (y13.1.getD (1:Nat) (bs []),())).bind fun y16=>if !y16.1 then some (((false,([]:List Int),([]:List Int)),false),())else if decide ((1:Int)<(y13.1.length:Int))then(S.s_l01NatRead (y13.1.getD (1:Nat) (bs []),())).bind fun y17=>(S.s_l01Cmp (y17.1,[(1:Int)],())).bind fun y18=>if decide (y18.1≤(0:Int))then some (((false,([]:List Int),([]:List Int)),false),())else(S.s_l01Gcd (y15.1,y17.1,())).bind fun y19=>(S.s_l01Cmp (y19.1,[(1:Int)],())).bind fun y20=>if y20.1 != (0:Int)then some (((false,([]:List Int),([]:List Int)),false),())else some ((((byteAt x.1 (0:Int))==(45:Int),y15.1,y17.1),true),())else none else none else if(y13.1.length:Int)==(1:Int)then some ((((byteAt x.1 (0:Int))==(45:Int),y15.1,[(1:Int)]),true),())else if decide ((1:Int)<(y13.1.length:Int))then(S.s_l01Digits (y13.1.getD (1:Nat) (bs []),())).bind fun y21=>if !y21.1 then some (((false,([]:List Int),([]:List Int)),false),())else if decide ((1:Int)<(y13.1.length:Int))then(S.s_l01NatRead (y13.1.getD (1:Nat) (bs []),())).bind fun y22=>(S.s_l01Cmp (y22.1,[(1:Int)],())).bind fun y23=>if decide (y23.1≤(0:Int))then some (((false,([]:List Int),([]:List Int)),false),())else(S.s_l01Gcd (y15.1,y22.1,())).bind fun y24=>(S.s_l01Cmp (y24.1,[(1:Int)],())).bind fun y25=>if y25.1 != (0:Int)then some (((false,([]:List Int),([]:List Int)),false),())else some ((((byteAt x.1 (0:Int))==(45:Int),y15.1,y22.1),true),())else none else none else none else none else none else(S.s_l01Cut (x.1,(47:Int),())).bind fun y26=>if decide ((y26.1.length:Int)>(2:Int))then some (((false,([]:List Int),([]:List Int)),false),())else if decide ((0:Int)<(y26.1.length:Int))then(S.s_l01Digits (y26.1.getD (0:Nat) (bs []),())).bind fun y27=>if !y27.1 then some (((false,([]:List Int),([]:List Int)),false),())else if decide ((0:Int)<(y26.1.length:Int))then(S.s_l01NatRead (y26.1.getD (0:Nat) (bs []),())).bind fun y28=>if(y26.1.length:Int)==(1:Int)then some (((false,y28.1,[(1:Int)]),true),())else if decide ((1:Int)<(y26.1.length:Int))then(S.s_l01Digits (y26.1.getD (1:Nat) (bs []),())).bind fun y29=>if !y29.1 then some (((false,([]:List Int),([]:List Int)),false),())else if decide ((1:Int)<(y26.1.length:Int))then(S.s_l01NatRead (y26.1.getD (1:Nat) (bs []),())).bind fun y30=>(S.s_l01Cmp (y30.1,[(1:Int)],())).bind fun y31=>if decide (y31.1≤(0:Int))then some (((false,([]:List Int),([]:List Int)),false),())else(S.s_l01Gcd (y28.1,y30.1,())).bind fun y32=>(S.s_l01Cmp (y32.1,[(1:Int)],())).bind fun y33=>if y33.1 != (0:Int)then some (((false,([]:List Int),([]:List Int)),false),())else some (((false,y28.1,y30.1),true),())else none else none else none else none
theorem pp_sign (T:ByteArray) (n:Bool) (hsz:T.size≤1000000):
  (Option.bind (S.s_l01Cut (T,((47:Int),()))) (fun(z0:((List ByteArray)×Unit))=>(if((decide (((List.length z0.1):Int)>(2:Int)))=true)then(some (((false,(([]:List Int),([]:List Int))),false),()))
 else(if((decide ((0:Int)<((List.length z0.1):Int)))=true)then(Option.bind (S.s_l01Digits ((List.getD z0.1 (0:Nat) (Go.Cm.bs [])),())) (fun(z1:(Bool×Unit))=>(if((!z1.1)=true)then(some (((false,(([]:List Int),([]:List Int))),false),()))
 else(if((decide ((0:Int)<((List.length z0.1):Int)))=true)then(Option.bind (S.s_l01NatRead ((List.getD z0.1 (0:Nat) (Go.Cm.bs [])),())) (fun(z2:((List Int)×Unit))=>(if(n=true)then(if((((List.length z2.1):Int)==(0:Int))=true)then(some (((false,(([]:List Int),([]:List Int))),false),()))
 else(if((((List.length z0.1):Int)==(1:Int))=true)then(some (((n,(z2.1,((1:Int)::([]:List Int)))),true),()))
 else(if((decide ((1:Int)<((List.length z0.1):Int)))=true)then(Option.bind (S.s_l01Digits ((List.getD z0.1 (1:Nat) (Go.Cm.bs [])),())) (fun(z3:(Bool×Unit))=>(if((!z3.1)=true)then(some (((false,(([]:List Int),([]:List Int))),false),()))
 else(if((decide ((1:Int)<((List.length z0.1):Int)))=true)then(Option.bind (S.s_l01NatRead ((List.getD z0.1 (1:Nat) (Go.Cm.bs [])),())) (fun(z4:((List Int)×Unit))=>(Option.bind (S.s_l01Cmp (z4.1,(((1:Int)::([]:List Int)),()))) (fun(z5:(Int×Unit))=>(if((decide (z5.1≤(0:Int)))=true)then(some (((false,(([]:List Int),([]:List Int))),false),()))
 else(Option.bind (S.s_l01Gcd (z2.1,(z4.1,()))) (fun(z6:((List Int)×Unit))=>(Option.bind (S.s_l01Cmp (z6.1,(((1:Int)::([]:List Int)),()))) (fun(z7:(Int×Unit))=>(if((z7.1 != (0:Int))=true)then(some (((false,(([]:List Int),([]:List Int))),false),()))
 else(some (((n,(z2.1,z4.1)),true),()))))))))))))
 else none))))
 else none)))
 else(if((((List.length z0.1):Int)==(1:Int))=true)then(some (((n,(z2.1,((1:Int)::([]:List Int)))),true),()))
 else(if((decide ((1:Int)<((List.length z0.1):Int)))=true)then(Option.bind (S.s_l01Digits ((List.getD z0.1 (1:Nat) (Go.Cm.bs [])),())) (fun(z8:(Bool×Unit))=>(if((!z8.1)=true)then(some (((false,(([]:List Int),([]:List Int))),false),()))
 else(if((decide ((1:Int)<((List.length z0.1):Int)))=true)then(Option.bind (S.s_l01NatRead ((List.getD z0.1 (1:Nat) (Go.Cm.bs [])),())) (fun(z9:((List Int)×Unit))=>(Option.bind (S.s_l01Cmp (z9.1,(((1:Int)::([]:List Int)),()))) (fun(z10:(Int×Unit))=>(if((decide (z10.1≤(0:Int)))=true)then(some (((false,(([]:List Int),([]:List Int))),false),()))
 else(Option.bind (S.s_l01Gcd (z2.1,(z9.1,()))) (fun(z11:((List Int)×Unit))=>(Option.bind (S.s_l01Cmp (z11.1,(((1:Int)::([]:List Int)),()))) (fun(z12:(Int×Unit))=>(if((z12.1 != (0:Int))=true)then(some (((false,(([]:List Int),([]:List Int))),false),()))
 else(some (((n,(z2.1,z9.1)),true),()))))))))))))
 else none))))
 else none)))))
 else none))))
 else none))))=some ((rp B10 (rdBody n (cutP 47 T.data.toList)).1,(rdBody n (cutP 47 T.data.toList)).2),()):=by
 have hbad:((false,(([]:List Int),([]:List Int))),false)=(rp B10 noQ.1,noQ.2):=by
  unfold noQ rp
  dsimp only
  rw[nd_zero B10_le]
 have hcut:S.s_l01Cut (T,(47,()))=some ((cutUp T 47 (T.size+1)).1,()):=by
  unfold S.s_l01Cut
  exact if_pos hsz
 have hp:(cutUp T 47 (T.size+1)).1.map (·.data.toList)=pieces 47 T.data.toList:=cutUp_pieces T 47
 have hlen:∀A∈(cutUp T 47 (T.size+1)).1,A.data.toList.length≤1000000:=by
  intro A hA
  have h1:=pieces_len 47 T.data.toList A.data.toList (by rw[←hp];exact List.mem_map_of_mem hA)
  have h2:T.size=T.data.toList.length:=by rw[Array.length_toList];rfl
  omega
 rw[hcut,Option.bind_some,hbad]
 generalize (cutUp T 47 (T.size+1)).1=ps at*
 rw[pieces_cutP]at hp
 generalize hc:cutP 47 T.data.toList=c at*
 have hDig:∀A∈ps,S.s_l01Digits (A,())=some (okN A.data.toList,()):=by
  intro A hA
  have h1:=hlen A hA
  have h2:A.size=A.data.toList.length:=by rw[Array.length_toList];rfl
  unfold S.s_l01Digits
  exact if_pos (by dsimp only;omega)
 have hRead:∀A∈ps,okN A.data.toList=true→S.s_l01NatRead (A,())=some (nd B10 (dv A.data.toList),()):=by
  intro A hA hok
  have h1:=okN_allD hok
  unfold S.s_l01NatRead
  exact if_pos ⟨h1.1,by dsimp only;omega⟩
 have hz:∀m:Nat,(((nd B10 m).length:Int)==0)=decide (m=0):=by
  intro m
  have:=canon_nil B10_le (canon_nd B10_le m)
  rw[dval_nd B10_le]at this
  by_cases h0:m=0
  ·rw[this.2 h0,h0];rfl
  ·have hne:=fun q=>h0 (this.1 q)
   rw[decide_eq_false h0]
   simpa using hne
 have hone:([1]:List Int)=nd B10 1:=(nd_one B10_le).symm
 unfold rdBody
 cases hf:c.2.2
 ·
  rw[hf,if_neg (by decide)]at hp
  obtain⟨A,rfl,hA⟩:∃A,ps=[A]∧A.data.toList=c.1:=by
   exact List.map_eq_singleton_iff.1 hp
  have hd:=hDig A (by simp)
  have hr:=hRead A (by simp)
  rw[hA]at hd hr
  have l1:¬(((List.length [A]:Nat):Int)>2):=by simp
  have l2:(0:Int)<((List.length [A]:Nat):Int):=by simp
  have l3:(((List.length [A]:Nat):Int)==1)=true:=rfl
  simp only[l1,l2,l3,decide_true,decide_false,if_true,if_false,Bool.false_eq_true,List.getD_cons_zero]
  rw[hd,Option.bind_some]
  dsimp only
  cases hok:okN c.1
  ·rw[if_pos (show(!false)=true by rfl),if_neg (fun q=>by cases q.1)]
  ·rw[if_neg (show ¬((!true)=true) by decide),hr hok,Option.bind_some]
   dsimp only
   rw[hz]
   cases n
   ·rw[if_neg (show ¬((false:Bool)=true) by decide),if_pos ⟨rfl,fun q=>by cases q.1⟩,hone]
    rfl
   ·rw[if_pos rfl]
    by_cases h0:dv c.1=0
    ·rw[if_pos (decide_eq_true h0),if_neg (fun q=>q.2 ⟨rfl,h0⟩)]
    ·rw[if_neg (by simpa using h0),if_pos ⟨rfl,fun q=>h0 q.2⟩,hone]
     rfl
 ·rw[hf,if_pos rfl,pieces_cutP]at hp
  cases hf2:(cutP 47 c.2.1).2.2
  ·rw[hf2,if_neg (by decide)]at hp
   have hy:(cutP 47 c.2.1).1=c.2.1:=((cutP_index 47 c.2.1).1 hf2).2.1
   rw[hy]at hp
   obtain⟨A,B,rfl,hA,hB⟩:∃A B,ps=[A,B]∧A.data.toList=c.1∧B.data.toList=c.2.1:=by
    obtain⟨A,q,rfl,hA,hq⟩:=List.map_eq_cons_iff.1 hp
    obtain⟨B,rfl,hB⟩:=List.map_eq_singleton_iff.1 hq
    exact⟨A,B,rfl,hA,hB⟩
   have hd:=hDig A (by simp)
   have hr:=hRead A (by simp)
   have hd2:=hDig B (by simp)
   have hr2:=hRead B (by simp)
   rw[hA]at hd hr
   rw[hB]at hd2 hr2
   have l1:¬(((List.length [A,B]:Nat):Int)>2):=by simp
   have l2:(0:Int)<((List.length [A,B]:Nat):Int):=by simp
   have l3:(((List.length [A,B]:Nat):Int)==1)=false:=rfl
   have l4:(1:Int)<((List.length [A,B]:Nat):Int):=by simp
   simp only[l1,l2,l3,l4,decide_true,decide_false,if_true,if_false,Bool.false_eq_true,List.getD_cons_zero,List.getD_cons_succ]
   rw[hd,Option.bind_some]
   dsimp only
   cases hok:okN c.1
   ·rw[if_pos (show(!false)=true by rfl),if_neg (fun q=>by cases q.1)]
   ·rw[if_neg (show ¬((!true)=true) by decide),hr hok,Option.bind_some]
    dsimp only
    have la:=nd_len200 (B:=B10) (by decide) (okN_lt hok)
    have hrest:∀(m:Bool),¬(m=true∧dv c.1=0)→(Option.bind (S.s_l01Digits (B,())) (fun(w0:(Bool×Unit))=>(if((!w0.1)=true)then(some ((rp B10 noQ.1,noQ.2),()))
 else(Option.bind (S.s_l01NatRead (B,())) (fun(w1:((List Int)×Unit))=>(Option.bind (S.s_l01Cmp (w1.1,(((1:Int)::([]:List Int)),()))) (fun(w2:(Int×Unit))=>(if((decide (w2.1≤(0:Int)))=true)then(some ((rp B10 noQ.1,noQ.2),()))
 else(Option.bind (S.s_l01Gcd (nd B10 (dv c.1),(w1.1,()))) (fun(w3:((List Int)×Unit))=>(Option.bind (S.s_l01Cmp (w3.1,(((1:Int)::([]:List Int)),()))) (fun(w4:(Int×Unit))=>(if((w4.1 != (0:Int))=true)then(some ((rp B10 noQ.1,noQ.2),()))
 else(some (((m,(nd B10 (dv c.1),w1.1)),true),())))))))))))))))=some ((rp B10 (if okN c.2.1=true∧1<dv c.2.1∧Nat.gcd (dv c.1) (dv c.2.1)=1 then((m,(dv c.1,dv c.2.1)),true)else noQ).1,(if okN c.2.1=true∧1<dv c.2.1∧Nat.gcd (dv c.1) (dv c.2.1)=1 then((m,(dv c.1,dv c.2.1)),true)else noQ).2),()):=by
     intro m hm
     rw[hd2,Option.bind_some]
     dsimp only
     cases hb:okN c.2.1
     ·have hx:¬((false:Bool)=true∧1<dv c.2.1∧Nat.gcd (dv c.1) (dv c.2.1)=1):=fun q=>by cases q.1
      rw[if_pos (show(!false)=true by rfl),if_neg hx]
     ·have lb:=nd_len200 (B:=B10) (by decide) (okN_lt hb)
      rw[if_neg (show ¬((!true)=true) by decide),hr2 hb,Option.bind_some]
      dsimp only
      have e1:S.s_l01Cmp (nd B10 (dv c.2.1),([1],()))=some (cmpN (dv c.2.1) 1,()):=by
       unfold S.s_l01Cmp
       dsimp only
       rw[if_pos ⟨canon_nd B10_le _,canon_one B10_le,by omega⟩,dval_nd B10_le,dval_one]
      have e2:S.s_l01Gcd (nd B10 (dv c.1),(nd B10 (dv c.2.1),()))=some (nd B10 (Nat.gcd (dv c.1) (dv c.2.1)),()):=by
       unfold S.s_l01Gcd
       dsimp only
       rw[if_pos ⟨canon_nd B10_le _,canon_nd B10_le _,by omega,by omega⟩,dval_nd B10_le,dval_nd B10_le]
      rw[e1,Option.bind_some]
      dsimp only
      by_cases h1:1<dv c.2.1
      ·have hcm:¬(cmpN (dv c.2.1) 1≤0):=by
        have:=(cmpN_gt (a:=dv c.2.1) (b:=1)).2 h1
        omega
       have lg:(nd B10 (Nat.gcd (dv c.1) (dv c.2.1))).length≤200:=Nat.le_trans (nd_shorter' B10_le (Nat.le_of_dvd (by omega) (Nat.gcd_dvd_right _ _))) lb
       have e3:S.s_l01Cmp (nd B10 (Nat.gcd (dv c.1) (dv c.2.1)),([1],()))=some (cmpN (Nat.gcd (dv c.1) (dv c.2.1)) 1,()):=by
        unfold S.s_l01Cmp
        dsimp only
        rw[if_pos ⟨canon_nd B10_le _,canon_one B10_le,by omega⟩,dval_nd B10_le,dval_one]
       rw[if_neg (by simpa using hcm),e2,Option.bind_some]
       dsimp only
       rw[e3,Option.bind_some]
       dsimp only
       by_cases hg:Nat.gcd (dv c.1) (dv c.2.1)=1
       ·rw[if_neg (by simpa using cmpN_zero.2 hg),if_pos ⟨rfl,h1,hg⟩]
        rfl
       ·rw[if_pos (by simpa using fun q=>hg (cmpN_zero.1 q)),if_neg (fun q=>hg q.2.2)]
      ·have hcm:cmpN (dv c.2.1) 1≤0:=by
        have h2:¬(cmpN (dv c.2.1) 1>0):=fun q=>h1 ((cmpN_gt (a:=dv c.2.1) (b:=1)).1 q)
        omega
       rw[if_pos (decide_eq_true hcm),if_neg (fun q=>h1 q.2.1)]
    rw[hz]
    cases n
    ·have hm:¬((false:Bool)=true∧dv c.1=0):=fun q=>by cases q.1
     rw[if_neg (show ¬((false:Bool)=true) by decide),if_pos ⟨rfl,hm⟩]
     exact hrest false hm
    ·rw[if_pos rfl]
     by_cases h0:dv c.1=0
     ·rw[if_pos (decide_eq_true h0),if_neg (fun q=>q.2 ⟨rfl,h0⟩)]
     ·have hm:¬((true:Bool)=true∧dv c.1=0):=fun q=>h0 q.2
      rw[if_neg (by simpa using h0),if_pos ⟨rfl,hm⟩]
      exact hrest true hm
  ·
   rw[hf2,if_pos rfl]at hp
   have hl:ps.length=2+(pieces 47 (cutP 47 c.2.1).2.1).length:=by
    have:=congrArg List.length hp
    simp at this
    omega
   have hl2:(pieces 47 (cutP 47 c.2.1).2.1).length≠0:=fun q=>pieces_ne 47 _ (List.eq_nil_of_length_eq_zero q)
   have l1:((ps.length:Nat):Int)>2:=by omega
   have hx:¬(okN c.2.1=true∧1<dv c.2.1∧Nat.gcd (dv c.1) (dv c.2.1)=1):=fun q=>by
    have:=cutP_allD (okN_allD q.1).1
    rw[hf2]at this
    cases this
   rw[if_pos (decide_eq_true l1),if_pos rfl,if_neg hx]
   split<;>rfl
theorem pp_plain (T:ByteArray) (hsz:T.size≤1000000):
  (Option.bind (S.s_l01Cut (T,((47:Int),()))) (fun(z0:((List ByteArray)×Unit))=>(if((decide (((List.length z0.1):Int)>(2:Int)))=true)then(some (((false,(([]:List Int),([]:List Int))),false),()))
 else(if((decide ((0:Int)<((List.length z0.1):Int)))=true)then(Option.bind (S.s_l01Digits ((List.getD z0.1 (0:Nat) (Go.Cm.bs [])),())) (fun(z1:(Bool×Unit))=>(if((!z1.1)=true)then(some (((false,(([]:List Int),([]:List Int))),false),()))
 else(if((decide ((0:Int)<((List.length z0.1):Int)))=true)then(Option.bind (S.s_l01NatRead ((List.getD z0.1 (0:Nat) (Go.Cm.bs [])),())) (fun(z2:((List Int)×Unit))=>(if((((List.length z0.1):Int)==(1:Int))=true)then(some (((false,(z2.1,((1:Int)::([]:List Int)))),true),()))
 else(if((decide ((1:Int)<((List.length z0.1):Int)))=true)then(Option.bind (S.s_l01Digits ((List.getD z0.1 (1:Nat) (Go.Cm.bs [])),())) (fun(z3:(Bool×Unit))=>(if((!z3.1)=true)then(some (((false,(([]:List Int),([]:List Int))),false),()))
 else(if((decide ((1:Int)<((List.length z0.1):Int)))=true)then(Option.bind (S.s_l01NatRead ((List.getD z0.1 (1:Nat) (Go.Cm.bs [])),())) (fun(z4:((List Int)×Unit))=>(Option.bind (S.s_l01Cmp (z4.1,(((1:Int)::([]:List Int)),()))) (fun(z5:(Int×Unit))=>(if((decide (z5.1≤(0:Int)))=true)then(some (((false,(([]:List Int),([]:List Int))),false),()))
 else(Option.bind (S.s_l01Gcd (z2.1,(z4.1,()))) (fun(z6:((List Int)×Unit))=>(Option.bind (S.s_l01Cmp (z6.1,(((1:Int)::([]:List Int)),()))) (fun(z7:(Int×Unit))=>(if((z7.1 != (0:Int))=true)then(some (((false,(([]:List Int),([]:List Int))),false),()))
 else(some (((false,(z2.1,z4.1)),true),()))))))))))))
 else none))))
 else none))))
 else none))))
 else none))))=some ((rp B10 (rdBody false (cutP 47 T.data.toList)).1,(rdBody false (cutP 47 T.data.toList)).2),()):=by
 have hbad:((false,(([]:List Int),([]:List Int))),false)=(rp B10 noQ.1,noQ.2):=by
  unfold noQ rp
  dsimp only
  rw[nd_zero B10_le]
 have hcut:S.s_l01Cut (T,(47,()))=some ((cutUp T 47 (T.size+1)).1,()):=by
  unfold S.s_l01Cut
  exact if_pos hsz
 have hp:(cutUp T 47 (T.size+1)).1.map (·.data.toList)=pieces 47 T.data.toList:=cutUp_pieces T 47
 have hlen:∀A∈(cutUp T 47 (T.size+1)).1,A.data.toList.length≤1000000:=by
  intro A hA
  have h1:=pieces_len 47 T.data.toList A.data.toList (by rw[←hp];exact List.mem_map_of_mem hA)
  have h2:T.size=T.data.toList.length:=by rw[Array.length_toList];rfl
  omega
 rw[hcut,Option.bind_some,hbad]
 generalize (cutUp T 47 (T.size+1)).1=ps at*
 rw[pieces_cutP]at hp
 generalize hc:cutP 47 T.data.toList=c at*
 have hDig:∀A∈ps,S.s_l01Digits (A,())=some (okN A.data.toList,()):=by
  intro A hA
  have h1:=hlen A hA
  have h2:A.size=A.data.toList.length:=by rw[Array.length_toList];rfl
  unfold S.s_l01Digits
  exact if_pos (by dsimp only;omega)
 have hRead:∀A∈ps,okN A.data.toList=true→S.s_l01NatRead (A,())=some (nd B10 (dv A.data.toList),()):=by
  intro A hA hok
  have h1:=okN_allD hok
  unfold S.s_l01NatRead
  exact if_pos ⟨h1.1,by dsimp only;omega⟩
 have hz:∀m:Nat,(((nd B10 m).length:Int)==0)=decide (m=0):=by
  intro m
  have:=canon_nil B10_le (canon_nd B10_le m)
  rw[dval_nd B10_le]at this
  by_cases h0:m=0
  ·rw[this.2 h0,h0];rfl
  ·have hne:=fun q=>h0 (this.1 q)
   rw[decide_eq_false h0]
   simpa using hne
 have hone:([1]:List Int)=nd B10 1:=(nd_one B10_le).symm
 unfold rdBody
 cases hf:c.2.2
 ·
  rw[hf,if_neg (by decide)]at hp
  obtain⟨A,rfl,hA⟩:∃A,ps=[A]∧A.data.toList=c.1:=by
   exact List.map_eq_singleton_iff.1 hp
  have hd:=hDig A (by simp)
  have hr:=hRead A (by simp)
  rw[hA]at hd hr
  have l1:¬(((List.length [A]:Nat):Int)>2):=by simp
  have l2:(0:Int)<((List.length [A]:Nat):Int):=by simp
  have l3:(((List.length [A]:Nat):Int)==1)=true:=rfl
  simp only[l1,l2,l3,decide_true,decide_false,if_true,if_false,Bool.false_eq_true,List.getD_cons_zero]
  rw[hd,Option.bind_some]
  dsimp only
  cases hok:okN c.1
  ·rw[if_pos (show(!false)=true by rfl),if_neg (fun q=>by cases q.1)]
  ·rw[if_neg (show ¬((!true)=true) by decide),hr hok,Option.bind_some]
   dsimp only
   rw[if_pos ⟨rfl,fun q=>by cases q.1⟩,hone]
   rfl
 ·rw[hf,if_pos rfl,pieces_cutP]at hp
  cases hf2:(cutP 47 c.2.1).2.2
  ·rw[hf2,if_neg (by decide)]at hp
   have hy:(cutP 47 c.2.1).1=c.2.1:=((cutP_index 47 c.2.1).1 hf2).2.1
   rw[hy]at hp
   obtain⟨A,B,rfl,hA,hB⟩:∃A B,ps=[A,B]∧A.data.toList=c.1∧B.data.toList=c.2.1:=by
    obtain⟨A,q,rfl,hA,hq⟩:=List.map_eq_cons_iff.1 hp
    obtain⟨B,rfl,hB⟩:=List.map_eq_singleton_iff.1 hq
    exact⟨A,B,rfl,hA,hB⟩
   have hd:=hDig A (by simp)
   have hr:=hRead A (by simp)
   have hd2:=hDig B (by simp)
   have hr2:=hRead B (by simp)
   rw[hA]at hd hr
   rw[hB]at hd2 hr2
   have l1:¬(((List.length [A,B]:Nat):Int)>2):=by simp
   have l2:(0:Int)<((List.length [A,B]:Nat):Int):=by simp
   have l3:(((List.length [A,B]:Nat):Int)==1)=false:=rfl
   have l4:(1:Int)<((List.length [A,B]:Nat):Int):=by simp
   simp only[l1,l2,l3,l4,decide_true,decide_false,if_true,if_false,Bool.false_eq_true,List.getD_cons_zero,List.getD_cons_succ]
   rw[hd,Option.bind_some]
   dsimp only
   cases hok:okN c.1
   ·rw[if_pos (show(!false)=true by rfl),if_neg (fun q=>by cases q.1)]
   ·rw[if_neg (show ¬((!true)=true) by decide),hr hok,Option.bind_some]
    dsimp only
    have la:=nd_len200 (B:=B10) (by decide) (okN_lt hok)
    have hrest:∀(m:Bool),¬(m=true∧dv c.1=0)→(Option.bind (S.s_l01Digits (B,())) (fun(w0:(Bool×Unit))=>(if((!w0.1)=true)then(some ((rp B10 noQ.1,noQ.2),()))
 else(Option.bind (S.s_l01NatRead (B,())) (fun(w1:((List Int)×Unit))=>(Option.bind (S.s_l01Cmp (w1.1,(((1:Int)::([]:List Int)),()))) (fun(w2:(Int×Unit))=>(if((decide (w2.1≤(0:Int)))=true)then(some ((rp B10 noQ.1,noQ.2),()))
 else(Option.bind (S.s_l01Gcd (nd B10 (dv c.1),(w1.1,()))) (fun(w3:((List Int)×Unit))=>(Option.bind (S.s_l01Cmp (w3.1,(((1:Int)::([]:List Int)),()))) (fun(w4:(Int×Unit))=>(if((w4.1 != (0:Int))=true)then(some ((rp B10 noQ.1,noQ.2),()))
 else(some (((m,(nd B10 (dv c.1),w1.1)),true),())))))))))))))))=some ((rp B10 (if okN c.2.1=true∧1<dv c.2.1∧Nat.gcd (dv c.1) (dv c.2.1)=1 then((m,(dv c.1,dv c.2.1)),true)else noQ).1,(if okN c.2.1=true∧1<dv c.2.1∧Nat.gcd (dv c.1) (dv c.2.1)=1 then((m,(dv c.1,dv c.2.1)),true)else noQ).2),()):=by
     intro m hm
     rw[hd2,Option.bind_some]
     dsimp only
     cases hb:okN c.2.1
     ·have hx:¬((false:Bool)=true∧1<dv c.2.1∧Nat.gcd (dv c.1) (dv c.2.1)=1):=fun q=>by cases q.1
      rw[if_pos (show(!false)=true by rfl),if_neg hx]
     ·have lb:=nd_len200 (B:=B10) (by decide) (okN_lt hb)
      rw[if_neg (show ¬((!true)=true) by decide),hr2 hb,Option.bind_some]
      dsimp only
      have e1:S.s_l01Cmp (nd B10 (dv c.2.1),([1],()))=some (cmpN (dv c.2.1) 1,()):=by
       unfold S.s_l01Cmp
       dsimp only
       rw[if_pos ⟨canon_nd B10_le _,canon_one B10_le,by omega⟩,dval_nd B10_le,dval_one]
      have e2:S.s_l01Gcd (nd B10 (dv c.1),(nd B10 (dv c.2.1),()))=some (nd B10 (Nat.gcd (dv c.1) (dv c.2.1)),()):=by
       unfold S.s_l01Gcd
       dsimp only
       rw[if_pos ⟨canon_nd B10_le _,canon_nd B10_le _,by omega,by omega⟩,dval_nd B10_le,dval_nd B10_le]
      rw[e1,Option.bind_some]
      dsimp only
      by_cases h1:1<dv c.2.1
      ·have hcm:¬(cmpN (dv c.2.1) 1≤0):=by
        have:=(cmpN_gt (a:=dv c.2.1) (b:=1)).2 h1
        omega
       have lg:(nd B10 (Nat.gcd (dv c.1) (dv c.2.1))).length≤200:=Nat.le_trans (nd_shorter' B10_le (Nat.le_of_dvd (by omega) (Nat.gcd_dvd_right _ _))) lb
       have e3:S.s_l01Cmp (nd B10 (Nat.gcd (dv c.1) (dv c.2.1)),([1],()))=some (cmpN (Nat.gcd (dv c.1) (dv c.2.1)) 1,()):=by
        unfold S.s_l01Cmp
        dsimp only
        rw[if_pos ⟨canon_nd B10_le _,canon_one B10_le,by omega⟩,dval_nd B10_le,dval_one]
       rw[if_neg (by simpa using hcm),e2,Option.bind_some]
       dsimp only
       rw[e3,Option.bind_some]
       dsimp only
       by_cases hg:Nat.gcd (dv c.1) (dv c.2.1)=1
       ·rw[if_neg (by simpa using cmpN_zero.2 hg),if_pos ⟨rfl,h1,hg⟩]
        rfl
       ·rw[if_pos (by simpa using fun q=>hg (cmpN_zero.1 q)),if_neg (fun q=>hg q.2.2)]
      ·have hcm:cmpN (dv c.2.1) 1≤0:=by
        have h2:¬(cmpN (dv c.2.1) 1>0):=fun q=>h1 ((cmpN_gt (a:=dv c.2.1) (b:=1)).1 q)
        omega
       rw[if_pos (decide_eq_true hcm),if_neg (fun q=>h1 q.2.1)]
    have hm:¬((false:Bool)=true∧dv c.1=0):=fun q=>by cases q.1
    rw[if_pos ⟨rfl,fun q=>q.1⟩]
    exact hrest false hm
  ·
   rw[hf2,if_pos rfl]at hp
   have hl:ps.length=2+(pieces 47 (cutP 47 c.2.1).2.1).length:=by
    have:=congrArg List.length hp
    simp at this
    omega
   have hl2:(pieces 47 (cutP 47 c.2.1).2.1).length≠0:=fun q=>pieces_ne 47 _ (List.eq_nil_of_length_eq_zero q)
   have l1:((ps.length:Nat):Int)>2:=by omega
   have hx:¬(okN c.2.1=true∧1<dv c.2.1∧Nat.gcd (dv c.1) (dv c.2.1)=1):=fun q=>by
    have:=cutP_allD (okN_allD q.1).1
    rw[hf2]at this
    cases this
   rw[if_pos (decide_eq_true l1),if_pos rfl,if_neg hx]
   split<;>rfl
def S.s_l01Parse (x:(ByteArray×Unit)):(Option ((RB×Bool)×Unit)):=if x.1.size≤1000000 then some ((rp B10 (rdRat x.1.data.toList).1,(rdRat x.1.data.toList).2),())else none
theorem S.s_l01Parse_ok (x:(ByteArray×Unit)) (r:_) (h:S.s_l01Parse x=some r):∃k,P.s_l01Parse k x=some r:=by
 obtain⟨s,u⟩:=x
 unfold S.s_l01Parse at h
 dsimp only at h
 split at h
 case isFalse=>cases h
 rename_i hsz
 refine⟨0,?_⟩
 rw[←h]
 unfold P.s_l01Parse
 dsimp only
 have hs:s.size=s.data.toList.length:=by rw[Array.length_toList];rfl
 unfold rdRat
 by_cases h0:s.data.toList=[]
 ·have l1:¬((s.size:Int)>0):=by rw[hs,h0];simp
  rw[if_neg (by simpa using l1),h0,if_neg (by simp),←h0]
  exact pp_plain s hsz
 ·have hpos:0<s.data.toList.length:=List.length_pos_iff.2 h0
  have l1:(s.size:Int)>0:=by omega
  have l2:(0:Int)<(s.size:Int):=by omega
  have l3:(0:Int)≤(s.size:Int):=by omega
  have l4:(1:Int)≤(s.size:Int):=by omega
  have hb:byteAt s 0=(s.data.toList[0].toNat:Int):=congrArg (fun c:UInt8=>(c.toNat:Int)) (getD_cast s.data.toList 0 0 hpos)
  have hh:s.data.toList.head? =some s.data.toList[0]:=by
   generalize s.data.toList=l at*
   cases l with
   |nil=>simp at h0
   |cons c r=>rfl
  rw[if_pos (decide_eq_true l1),if_pos (decide_eq_true l2),hh,Int.toNat_natCast]
  by_cases c1:s.data.toList[0]=45
  ·have hn:(byteAt s 0==45)=true:=by
    rw[hb,c1]
    rfl
   have hx:(ByteArray.extract s 1 s.size).data.toList=s.data.toList.tail:=by
    rw[ext_list,List.take_of_length_le (by omega),List.drop_one]
   have hxs:(ByteArray.extract s 1 s.size).size≤1000000:=by
    have:(ByteArray.extract s 1 s.size).size=(ByteArray.extract s 1 s.size).data.toList.length:=by rw[Array.length_toList];rfl
    rw[this,hx]
    simp
    omega
   rw[hn,if_pos rfl,if_pos (decide_eq_true l3),if_pos (decide_eq_true (Int.le_refl _)),if_pos (decide_eq_true l4),if_pos (by rw[c1])]
   have:=pp_sign (ByteArray.extract s 1 s.size) true hxs
   rw[hx]at this
   exact this
  ·have hn:(byteAt s 0==45)=false:=by
    rw[hb,beq_eq_false_iff_ne]
    intro q
    apply c1
    apply UInt8.toNat_inj.1
    show _=45
    omega
   rw[hn,if_neg (show ¬((false:Bool)=true) by decide),if_neg (by rw[Option.some.injEq];exact c1)]
   exact pp_sign s false hsz
abbrev P.s_l01List_b0 (x1:Int×Int×List ByteArray×List (Bool×List Int×List Int)×Unit) (g2:Int×Int×List ByteArray×List (Bool×List Int×List Int)×Unit→Option ((List (Bool×List Int×List Int)×Bool)×Unit)):Option ((List (Bool×List Int×List Int)×Bool)×Unit):=
 if decide (x1.1<x1.2.1)then if decide ((0:Int)≤x1.1)then if decide (x1.1<(x1.2.2.1.length:Int))then(S.s_l01Parse (x1.2.2.1.getD x1.1.toNat (bs []),())).bind fun y3=>if !y3.1.2 then some ((([]:List (Bool×List Int×List Int)),false),())else if decide (((x1.2.2.2.1.length+(List.length [(y3.1.1.1,y3.1.1.2.1,y3.1.1.2.2)]))*(56:Nat))≤(140737488355328:Nat))then g2 (IntKind.wrap .i64 (x1.1+(1:Int)),x1.2.1,x1.2.2.1,x1.2.2.2.1++[(y3.1.1.1,y3.1.1.2.1,y3.1.1.2.2)],())else none else none else none else some ((x1.2.2.2.1,true),())
def P.s_l01List (k:Nat) (x:List ByteArray×Unit):Option ((List (Bool×List Int×List Int)×Bool)×Unit):=
 if decide ((x.1.length:Int)>(300:Int))then some ((([]:List (Bool×List Int×List Int)),false),())else loopP P.s_l01List_b0 k ((0:Int),(x.1.length:Int),x.1,([]:List (Bool×List Int×List Int)),())
open Classical in
def S.s_l01List (x:((List ByteArray)×Unit)):(Option (((List RB)×Bool)×Unit)):=if okT x.1=true then some (((rdAll x.1).1.map (rp B10),(rdAll x.1).2),())else none
theorem s_l01List_read (s:ByteArray) (h:s.size≤1000000):S.s_l01Parse (s,())=some ((rp B10 (rdRat s.data.toList).1,(rdRat s.data.toList).2),()):=by
 unfold S.s_l01Parse
 exact if_pos (by dsimp only;omega)
theorem S.s_l01List_ok (x:((List ByteArray)×Unit)) (r:_) (h:S.s_l01List x=some r):∃k,P.s_l01List k x=some r:=by
 obtain⟨ls,u⟩:=x
 unfold S.s_l01List at h
 dsimp only at h
 split at h
 case isFalse=>cases h
 rename_i hc
 cases h
 refine⟨ls.length+1,?_⟩
 unfold P.s_l01List rdAll
 dsimp only
 by_cases hl:(ls.length:Int)>300
 ·rw[if_pos (decide_eq_true hl),if_neg (show ¬(ls.length≤300∧(ls.all fun s=>(rdRat s.data.toList).2)=true)from fun z=>by omega)]
  rfl
 rw[if_neg (by simpa using hl)]
 have key:=loop_up0 (k:=ls.length+1) (b:=P.s_l01List_b0) (n:=ls.length) (st:=fun i=>((i:Int),(ls.length:Int),ls,(ls.take i).map (fun s=>rp B10 (rdRat s.data.toList).1),())) (F:=fun i=>some (if((ls.drop i).all fun s=>(rdRat s.data.toList).2)=true then(ls.map (fun s=>rp B10 (rdRat s.data.toList).1),true)else([],false),())) (fun i g hi hg=>by
  unfold P.s_l01List_b0
  dsimp only at hg ⊢
  have e1:(i:Int)<(ls.length:Int):=by omega
  have e2:(0:Int)≤(i:Int):=by omega
  simp only[e1,e2,decide_true,if_true]
  rw[getD_cast ls i _ hi,s_l01List_read _ (okT_get hc hi),Option.bind_some,List.drop_eq_getElem_cons hi,List.all_cons]
  dsimp only
  cases hf:(rdRat ls[i].data.toList).2
  ·rw[if_pos (by rfl),if_neg (by simp)]
  ·rw[if_neg (by simp),wr (by omega) (by omega),Bool.true_and,←hg]
   have e3:((List.map (fun s:ByteArray=>rp B10 (rdRat s.data.toList).1) (ls.take i)).length+1)*56≤140737488355328:=by
    rw[List.length_map,List.length_take]
    omega
   simp only[List.length_cons,List.length_nil,Nat.zero_add]
   rw[if_pos (decide_eq_true e3),List.take_add_one,List.getElem?_eq_getElem hi,Option.toList_some,List.map_append]
   rfl) (fun g=>by
  unfold P.s_l01List_b0
  dsimp only
  rw[if_neg (by simp),List.take_length,List.drop_length]
  rfl) (by omega)
 refine key.trans ?_
 rw[List.drop_zero]
 by_cases ha:(ls.all fun s=>(rdRat s.data.toList).2)=true
 ·rw[if_pos ha,if_pos (show ls.length≤300∧(ls.all fun s=>(rdRat s.data.toList).2)=true from⟨by omega,ha⟩),List.map_map]
  rfl
 ·rw[if_neg ha,if_neg (fun z=>ha z.2)]
  rfl
def P.s_l01Int (k:Nat) (x:Int×Unit):Option ((Bool×List Int×List Int)×Unit):=
 if decide (x.1<(0:Int))then(S.s_l01Nat (IntKind.wrap .i64 ((0:Int) - x.1),())).bind fun y0=>some ((true,y0.1,[(1:Int)]),())else(S.s_l01Nat (x.1,())).bind fun y1=>some ((false,y1.1,[(1:Int)]),())
def S.s_l01Int (x:(Int×Unit)):(Option (RB×Unit)):=if -9223372036854775807≤x.1∧x.1≤9223372036854775807 then some (rp B10 (wholeQ x.1),())else none
theorem S.s_l01Int_ok (x:(Int×Unit)) (r:_) (h:S.s_l01Int x=some r):∃k,P.s_l01Int k x=some r:=by
 obtain⟨n,u⟩:=x
 unfold S.s_l01Int at h
 dsimp only at h
 split at h
 case isFalse=>cases h
 rename_i hc
 cases h
 refine⟨0,?_⟩
 unfold P.s_l01Int S.s_l01Nat rp wholeQ
 dsimp only
 rw[nd_one B10_le]
 by_cases h0:n<0
 ·rw[if_pos (decide_eq_true h0),wr (by omega) (by omega),if_pos ⟨by omega,by omega⟩,Option.bind_some,decide_eq_true h0,show(0 - n).toNat=n.natAbs by omega]
 ·rw[if_neg (by simpa using h0),if_pos ⟨by omega,by omega⟩,Option.bind_some,decide_eq_false h0,show n.toNat=n.natAbs by omega]
theorem rs_int {n:Int} (h0: -1000000000≤n) (h1:n≤1000000000):S.s_l01Int (n,())=some (rp B10 (wholeQ n),()):=by
 unfold S.s_l01Int
 exact if_pos ⟨by dsimp only;omega,by dsimp only;omega⟩
def P.s_l01One (k:Nat) (x:Unit):Option ((Bool×List Int×List Int)×Unit):=
 (S.s_l01Int ((1:Int),())).bind fun y0=>some ((y0.1.1,y0.1.2.1,y0.1.2.2),())
def S.s_l01One (x:Unit):(Option (RB×Unit)):=P.s_l01One 0 x
theorem S.s_l01One_ok (x:Unit) (r:_) (h:S.s_l01One x=some r):∃k,P.s_l01One k x=some r:=⟨0,h⟩
abbrev P.s_l01NatMul_b3 (g2:Int×Int×List Int×List Int×List Int×Unit→Option (List Int×Unit)) (x4:Int×Int×List Int×Int×List Int×List Int×Int×Int×Int×Unit) (g5:Int×Int×List Int×Int×List Int×List Int×Int×Int×Int×Unit→Option (List Int×Unit)):Option (List Int×Unit):=
 if decide (x4.1<x4.2.1)then if decide ((0:Int)≤(IntKind.wrap .i64 (x4.2.2.2.1+x4.1)))then if decide ((IntKind.wrap .i64 (x4.2.2.2.1+x4.1))<(x4.2.2.1.length:Int))then if decide ((0:Int)≤x4.2.2.2.1)then if decide (x4.2.2.2.1<(x4.2.2.2.2.1.length:Int))then if decide ((0:Int)≤x4.1)then if decide (x4.1<(x4.2.2.2.2.2.1.length:Int))then if decide ((0:Int)≤(IntKind.wrap .i64 (x4.2.2.2.1+x4.1)))then if decide ((IntKind.wrap .i64 (x4.2.2.2.1+x4.1))<(x4.2.2.1.length:Int))then g5 (IntKind.wrap .i64 (x4.1+(1:Int)),x4.2.1,x4.2.2.1.set ((0:Nat)+(Int.toNat (IntKind.wrap .i64 (x4.2.2.2.1+x4.1)))) (Int.tmod (IntKind.wrap .i64 ((IntKind.wrap .i64 ((x4.2.2.1.getD ((0:Nat)+(Int.toNat (IntKind.wrap .i64 (x4.2.2.2.1+x4.1)))) (0:Int))+(IntKind.wrap .i64 ((x4.2.2.2.2.1.getD x4.2.2.2.1.toNat (0:Int))*(x4.2.2.2.2.2.1.getD x4.1.toNat (0:Int))))))+x4.2.2.2.2.2.2.1)) (1000000000:Int)),x4.2.2.2.1,x4.2.2.2.2.1,x4.2.2.2.2.2.1,IntKind.wrap .i64 (Int.tdiv (IntKind.wrap .i64 ((IntKind.wrap .i64 ((x4.2.2.1.getD ((0:Nat)+(Int.toNat (IntKind.wrap .i64 (x4.2.2.2.1+x4.1)))) (0:Int))+(IntKind.wrap .i64 ((x4.2.2.2.2.1.getD x4.2.2.2.1.toNat (0:Int))*(x4.2.2.2.2.2.1.getD x4.1.toNat (0:Int))))))+x4.2.2.2.2.2.2.1)) (1000000000:Int)),x4.2.2.2.2.2.2.2.1,x4.2.2.2.2.2.2.2.2.1,())else none else none else none else none else none else none else none else none else if decide ((0:Int)≤(IntKind.wrap .i64 (x4.2.2.2.1+(x4.2.2.2.2.2.1.length:Int))))then if decide ((IntKind.wrap .i64 (x4.2.2.2.1+(x4.2.2.2.2.2.1.length:Int)))<(x4.2.2.1.length:Int))then if decide ((0:Int)≤(IntKind.wrap .i64 (x4.2.2.2.1+(x4.2.2.2.2.2.1.length:Int))))then if decide ((IntKind.wrap .i64 (x4.2.2.2.1+(x4.2.2.2.2.2.1.length:Int)))<(x4.2.2.1.length:Int))then g2 (IntKind.wrap .i64 (x4.2.2.2.2.2.2.2.1+(1:Int)),x4.2.2.2.2.2.2.2.2.1,x4.2.2.2.2.2.1,x4.2.2.1.set ((0:Nat)+(Int.toNat (IntKind.wrap .i64 (x4.2.2.2.1+(x4.2.2.2.2.2.1.length:Int))))) (IntKind.wrap .i64 ((x4.2.2.1.getD ((0:Nat)+(Int.toNat (IntKind.wrap .i64 (x4.2.2.2.1+(x4.2.2.2.2.2.1.length:Int))))) (0:Int))+x4.2.2.2.2.2.2.1)),x4.2.2.2.2.1,())else none else none else none else none
abbrev P.s_l01NatMul_b0 (k:Nat) (x1:Int×Int×List Int×List Int×List Int×Unit) (g2:Int×Int×List Int×List Int×List Int×Unit→Option (List Int×Unit)):Option (List Int×Unit):=
 if decide (x1.1<x1.2.1)then loopP (P.s_l01NatMul_b3 g2) k ((0:Int),(x1.2.2.1.length:Int),x1.2.2.2.1,x1.1,x1.2.2.2.2.1,x1.2.2.1,(0:Int),x1.1,x1.2.1,())else(S.s_l01Trim (x1.2.2.2.1,())).bind fun y6=>some (y6.1,())
def P.s_l01NatMul (k:Nat) (x:List Int×List Int×Unit):Option (List Int×Unit):=
 if decide ((0:Int)≤(IntKind.wrap .i64 ((x.1.length:Int)+(x.2.1.length:Int))))then if decide ((IntKind.wrap .i64 ((x.1.length:Int)+(x.2.1.length:Int)))≤(IntKind.wrap .i64 ((x.1.length:Int)+(x.2.1.length:Int))))then if decide (((IntKind.wrap .i64 ((x.1.length:Int)+(x.2.1.length:Int)))*(8:Int))≤(281474976710656:Int))then loopP (P.s_l01NatMul_b0 k) k ((0:Int),(x.1.length:Int),x.2.1,List.replicate (Int.toNat (IntKind.wrap .i64 ((x.1.length:Int)+(x.2.1.length:Int)))) (0:Int),x.1,())else none else none else none
theorem sm_inner (g:(Int×(Int×((List Int)×((List Int)×((List Int)×Unit)))))→(Option ((List Int)×Unit))) (F:Option ((List Int)×Unit)) {xs ys:List Int} (hx:dig B10 xs=true) (hy:dig B10 ys=true) (hlx:xs.length≤10000000000) (hly:ys.length≤10000000000) {i:Nat} (hi:i<xs.length) (K:Nat) (hK:ys.length<K)
  (hg:g (((i+1:Nat):Int),((xs.length:Int),(ys,(fd B10 (xs.length+ys.length) (dval B10 (xs.take (i+1))*dval B10 ys),(xs,())))))=F):
  loopP (P.s_l01NatMul_b3 g) K ((0:Int),((ys.length:Int),(fd B10 (xs.length+ys.length) (dval B10 (xs.take i)*dval B10 ys),((i:Int),(xs,(ys,((0:Int),((i:Int),((xs.length:Int),())))))))))=F:=by
 have hA:=mul_bound B10_le hx hy i (by omega)
 have hA':=mul_bound B10_le hx hy (i+1) (by omega)
 have gx:=dig_getD (B:=B10) (by decide) hx i
 have gx1:xs.getD i 0<1000000000:=gx.2
 have gx0:=gx.1
 rw[dval_take_succ,Nat.add_mul,Nat.mul_assoc]at hg hA'
 generalize dval B10 (xs.take i)*dval B10 ys=A at*
 obtain⟨x,hxe⟩:∃x:Nat,xs.getD i 0=(x:Int):=⟨(xs.getD i 0).toNat,by omega⟩
 rw[hxe,Int.toNat_natCast]at hg hA'
 rw[hxe]at gx1
 have hxB:x<B10:=by show x<1000000000;omega
 have hsh:=mul_shape B10_le hi hA
 rw[hsh]
 have hlw:(fd B10 ys.length (A/B10^i)).length=ys.length:=fd_len _ _ _
 have hdw:dig B10 (fd B10 ys.length (A/B10^i))=true:=dig_fd (by decide) _ _
 have hvw:dval B10 (fd B10 ys.length (A/B10^i))=A/B10^i:=by
  rw[dval_fd,Nat.mod_eq_of_lt]
  rw[Nat.div_lt_iff_lt_mul (Nat.pow_pos (by decide)),←Nat.pow_add,Nat.add_comm]
  exact hA
 have hnext:=mul_next B10_le (la:=xs.length) (lb:=ys.length) (R:=x*dval B10 ys) hi hA'
 generalize hR:List.replicate (xs.length - 1 - i) (0:Int)=R at*
 have hRl:R.length=xs.length - 1 - i:=by rw[←hR,List.length_replicate]
 generalize hW:fd B10 ys.length (A/B10^i)=W at*
 have hl0:(fd B10 i A).length=i:=fd_len _ _ _
 have key:=loop_up0 (k:=K) (b:=P.s_l01NatMul_b3 g) (n:=ys.length) (st:=fun k=>((k:Int),(ys.length:Int),(fd B10 i A++(maUp B10 x W ys k).1)++(W.drop k++(0:Int)::R),(i:Int),xs,ys,((maUp B10 x W ys k).2:Int),(i:Int),(xs.length:Int),())) (F:=fun k=>F) (fun k g' hk hg'=>by
  unfold P.s_l01NatMul_b3
  dsimp only at hg' ⊢
  refine Eq.trans ?_ hg'
  clear hg'
  obtain⟨q1,q2,q3,q4⟩:=maUp_ok (x:=x) B10_le hxB hdw hy k
  have q4':(maUp B10 x W ys k).2<1000000000:=q4
  have gy:=dig_getD (B:=B10) (by decide) hy k
  have gw:=dig_getD (B:=B10) (by decide) hdw k
  have gy1:ys.getD k 0<1000000000:=gy.2
  have gw1:W.getD k 0<1000000000:=gw.2
  have gy0:=gy.1
  have gw0:=gw.1
  have hAl:(fd B10 i A++(maUp B10 x W ys k).1).length=i+k:=by rw[List.length_append,hl0,q2]
  have hlen:((fd B10 i A++(maUp B10 x W ys k).1)++(W.drop k++(0:Int)::R)).length=xs.length+ys.length:=by
   rw[List.length_append,hAl,List.length_append,List.length_drop,List.length_cons,hlw,hRl]
   omega
  have e1:(k:Int)<(ys.length:Int):=by omega
  have e2:(0:Int)≤(k:Int):=by omega
  have e3:(0:Int)≤((i+k:Nat):Int):=by omega
  have e4:((i+k:Nat):Int)<((xs.length+ys.length:Nat):Int):=by omega
  have e5:(0:Int)≤(i:Int):=by omega
  have e6:(i:Int)<(xs.length:Int):=by omega
  rw[hlen,←Int.natCast_add i k,wr (x:=((i+k:Nat):Int)) (by omega) (by omega)]
  simp only[e1,e2,e3,e4,e5,e6,decide_true,if_true,Nat.zero_add,Int.toNat_natCast]
  rw[drop_cons_getD (xs:=W) (i:=k) (by omega),List.cons_append,mid_get hAl,hxe]
  simp only[mid_set hAl]
  rw[maUp]
  dsimp only
  generalize W.getD k 0=w at*
  generalize ys.getD k 0=y at*
  generalize maUp B10 x W ys k=p at*
  obtain⟨pl,c0⟩:=p
  dsimp only at*
  obtain⟨Y,rfl⟩:∃Y:Nat,y=(Y:Int):=⟨y.toNat,by omega⟩
  obtain⟨w',rfl⟩:∃Y:Nat,w=(Y:Int):=⟨w.toNat,by omega⟩
  rw[Int.toNat_natCast,Int.toNat_natCast]
  have hxY:x*Y≤999999999*999999999:=Nat.mul_le_mul (by omega) (by omega)
  rw[←Int.natCast_mul,wr (x:=((x*Y:Nat):Int)) (by omega) (by omega),←Int.natCast_add,wr (x:=((w'+x*Y:Nat):Int)) (by omega) (by omega),←Int.natCast_add,wr (x:=((w'+x*Y+c0:Nat):Int)) (by omega) (by omega),Int.tdiv_eq_ediv_of_nonneg (by omega),Int.tmod_eq_emod_of_nonneg (by omega),wr (x:=(k:Int)+1) (by omega) (by omega)]
  have e8:((w'+x*Y+c0:Nat):Int)%1000000000=(((c0+(x*Y+w'))%B10:Nat):Int):=by
   show _=(((c0+(x*Y+w'))%1000000000:Nat):Int)
   omega
  have e9:((w'+x*Y+c0:Nat):Int)/1000000000=(((c0+(x*Y+w'))/B10:Nat):Int):=by
   show _=(((c0+(x*Y+w'))/1000000000:Nat):Int)
   omega
  have e10:(c0+(x*Y+w'))/B10≤4000000000:=by
   show(c0+(x*Y+w'))/1000000000≤_
   omega
  rw[e8,e9,wr (x:=(((c0+(x*Y+w'))/B10:Nat):Int)) (by omega) (by omega),←List.append_assoc (fd B10 i A)]
  rfl) (fun g'=>by
  unfold P.s_l01NatMul_b3
  dsimp only
  obtain⟨q1,q2,q3,q4⟩:=maUp_ok (x:=x) B10_le hxB hdw hy ys.length
  have q4':(maUp B10 x W ys ys.length).2<1000000000:=q4
  rw[List.take_length,←hlw,List.take_length,hlw,hvw]at q3
  have hAl:(fd B10 i A++(maUp B10 x W ys ys.length).1).length=i+ys.length:=by rw[List.length_append,hl0,q2]
  have hlen:((fd B10 i A++(maUp B10 x W ys ys.length).1)++(W.drop ys.length++(0:Int)::R)).length=xs.length+ys.length:=by
   rw[List.length_append,hAl,List.length_append,List.length_drop,List.length_cons,hlw,hRl]
   omega
  have e1:¬((ys.length:Int)<(ys.length:Int)):=by omega
  have e3:(0:Int)≤((i+ys.length:Nat):Int):=by omega
  have e4:((i+ys.length:Nat):Int)<((xs.length+ys.length:Nat):Int):=by omega
  rw[hlen,←Int.natCast_add i ys.length,wr (x:=((i+ys.length:Nat):Int)) (by omega) (by omega)]
  simp only[e1,e3,e4,decide_true,decide_false,if_true,if_false,Bool.false_eq_true,Nat.zero_add,Int.toNat_natCast]
  rw[List.drop_of_length_le (by omega),List.nil_append,mid_get hAl,mid_set hAl,Int.zero_add,wr (x:=((maUp B10 x W ys ys.length).2:Int)) (by omega) (by omega),wr (x:=(i:Int)+1) (by omega) (by omega)]
  generalize maUp B10 x W ys ys.length=p at*
  obtain⟨pl,c0⟩:=p
  dsimp only at*
  have hlt:=dval_lt q1
  rw[q2]at hlt
  have hpl:pl=fd B10 ys.length (A/B10^i+x*dval B10 ys):=by
   have:=fd_eq B10_le q1 q2 rfl
   rw[this,←q3,←fd_mod B10 ys.length (_+_),Nat.add_mul_mod_self_left,fd_mod]
  have hc0:c0=(A/B10^i+x*dval B10 ys)/B10^ys.length:=by
   rw[←q3,Nat.add_mul_div_left _ _ (Nat.pow_pos (by decide)),Nat.div_eq_of_lt hlt,Nat.zero_add]
  rw[List.append_assoc _ [_],List.singleton_append,hpl,hc0,hnext]
  exact hg) hK
 rw[show(fd B10 i A++(maUp B10 x W ys 0).1)++(W.drop 0++(0:Int)::R)=(fd B10 i A++W)++(0:Int)::R by rw[show(maUp B10 x W ys 0).1=[]from rfl,List.append_nil,List.drop_zero,List.append_assoc]]at key
 exact key
def S.s_l01NatMul (x:((List Int)×((List Int)×Unit))):(Option ((List Int)×Unit)):=if dig B10 x.1=true∧dig B10 x.2.1=true∧x.1.length≤10000000000∧x.2.1.length≤10000000000 then some (nd B10 (dval B10 x.1*dval B10 x.2.1),())else none
theorem S.s_l01NatMul_ok (x:((List Int)×((List Int)×Unit))) (r:_) (h:S.s_l01NatMul x=some r):∃k,P.s_l01NatMul k x=some r:=by
 obtain⟨xs,ys,u⟩:=x
 unfold S.s_l01NatMul at h
 dsimp only at h
 split at h
 case isFalse=>cases h
 rename_i hc
 obtain⟨dx,dy,lx,ly⟩:=hc
 cases h
 refine⟨xs.length+ys.length+1,?_⟩
 unfold P.s_l01NatMul
 dsimp only
 have a1:(0:Int)≤((xs.length+ys.length:Nat):Int):=by omega
 have a2:((xs.length+ys.length:Nat):Int)*8≤281474976710656:=by omega
 rw[←Int.natCast_add,wr (x:=((xs.length+ys.length:Nat):Int)) (by omega) (by omega)]
 simp only[a1,a2,decide_true,if_true,Int.le_refl,Int.toNat_natCast]
 have key:=loop_up0 (k:=xs.length+ys.length+1) (b:=P.s_l01NatMul_b0 (xs.length+ys.length+1)) (n:=xs.length) (st:=fun i=>((i:Int),(xs.length:Int),ys,fd B10 (xs.length+ys.length) (dval B10 (xs.take i)*dval B10 ys),xs,())) (F:=fun i=>some (nd B10 (dval B10 xs*dval B10 ys),())) (fun i g hi hg=>by
  unfold P.s_l01NatMul_b0
  dsimp only at hg ⊢
  have e1:(i:Int)<(xs.length:Int):=by omega
  simp only[e1,decide_true,if_true]
  exact sm_inner g _ dx dy lx ly hi _ (by omega) hg) (fun g=>by
  unfold P.s_l01NatMul_b0
  dsimp only
  rw[if_neg (by simp),List.take_length]
  unfold S.s_l01Trim
  dsimp only
  have hb:=mul_bound B10_le dx dy xs.length (Nat.le_refl _)
  rw[List.take_length]at hb
  rw[if_pos ⟨dig_fd (by decide) _ _,by rw[fd_len];omega⟩,Option.bind_some,nd_fd B10_le hb]) (by omega)
 rw[List.take_zero,show dval B10 []*dval B10 ys=0 by simp [dval],fd_zero]at key
 exact key
def P.s_l01Equal (k:Nat) (x:(Bool×List Int×List Int)×(Bool×List Int×List Int)×Unit):Option (Bool×Unit):=
 if x.1.1==x.2.1.1 then(S.s_l01NatMul (x.1.2.1,x.2.1.2.2,())).bind fun y0=>(S.s_l01NatMul (x.2.1.2.1,x.1.2.2,())).bind fun y1=>(S.s_l01Cmp (y0.1,y1.1,())).bind fun y2=>some (y2.1==(0:Int),())else some (false,())
def S.s_l01Equal (x:(RB×(RB×Unit))):(Option (Bool×Unit)):=if rok B10 40000000 x.1=true∧rok B10 40000000 x.2.1=true then some (decide ((rv B10 x.1).1=(rv B10 x.2.1).1∧(rv B10 x.1).2.1*(rv B10 x.2.1).2.2=(rv B10 x.2.1).2.1*(rv B10 x.1).2.2),())else none
theorem S.s_l01Equal_ok (x:(RB×(RB×Unit))) (r:_) (h:S.s_l01Equal x=some r):∃k,P.s_l01Equal k x=some r:=by
 obtain⟨x,y,u⟩:=x
 unfold S.s_l01Equal at h
 dsimp only at h
 split at h
 case isFalse=>cases h
 rename_i hc
 obtain⟨n1,p1,q1,rfl,l1,l2⟩:=rok_nd hc.1
 obtain⟨n2,p2,q2,rfl,l3,l4⟩:=rok_nd hc.2
 rw[rv_nd B10_le,rv_nd B10_le]at h
 cases h
 refine⟨0,?_⟩
 unfold P.s_l01Equal
 dsimp only
 have em:∀p q,(nd B10 p).length≤40000000→(nd B10 q).length≤40000000→S.s_l01NatMul (nd B10 p,(nd B10 q,()))=some (nd B10 (p*q),()):=by
  intro p q hp hq
  unfold S.s_l01NatMul
  dsimp only
  rw[if_pos ⟨dig_nd B10_le _,dig_nd B10_le _,by omega,by omega⟩,dval_nd B10_le,dval_nd B10_le]
 have ec:S.s_l01Cmp (nd B10 (p1*q2),(nd B10 (p2*q1),()))=some (cmpN (p1*q2) (p2*q1),()):=by
  have:=nd_mul_len B10_le p1 q2
  unfold S.s_l01Cmp
  dsimp only
  rw[if_pos ⟨canon_nd B10_le _,canon_nd B10_le _,by omega⟩,dval_nd B10_le,dval_nd B10_le]
 by_cases hn:n1=n2
 ·rw[if_pos (by simpa using hn),em _ _ l1 l4,Option.bind_some,em _ _ l3 l2,Option.bind_some]
  dsimp only
  rw[ec,Option.bind_some]
  dsimp only
  have hz:=cmpN_zero (a:=p1*q2) (b:=p2*q1)
  by_cases he:p1*q2=p2*q1
  ·rw[decide_eq_true ⟨hn,he⟩,hz.2 he]
   rfl
  ·rw[decide_eq_false (fun z=>he z.2),beq_eq_false_iff_ne.2 (fun z=>he (hz.1 z))]
 ·rw[if_neg (by simpa using hn),decide_eq_false (fun z=>hn z.1)]
theorem rs_equal {x y:Q3} (hx:low x) (hy:low y) (bx:below 350000000 x) (bY:below 350000000 y):S.s_l01Equal (rp B10 x,(rp B10 y,()))=some (decide (x=y),()):=by
 unfold S.s_l01Equal
 dsimp only
 rw[if_pos ⟨below_rok9 (by decide) bx (by decide),below_rok9 (by decide) bY (by decide)⟩,rv_rp B10_le,rv_rp B10_le]
 congr 2
 rw[decide_eq_decide]
 constructor
 ·rintro ⟨h1,h2⟩
  refine qv_inj hx hy ?_
  unfold qv
  rw[Rat.mkRat_eq_iff (by have:=hx.1;omega) (by have:=hy.1;omega),sgZ_mul,sgZ_mul,h1,h2]
 ·rintro rfl
  exact⟨rfl,rfl⟩
def P.s_l01None (k:Nat) (x:Unit):Option ((Bool×List Int×List Int)×Unit):=
 (S.s_l01Int ((0:Int),())).bind fun y0=>some ((y0.1.1,y0.1.2.1,y0.1.2.2),())
def S.s_l01None (x:Unit):(Option (RB×Unit)):=P.s_l01None 0 x
theorem S.s_l01None_ok (x:Unit) (r:_) (h:S.s_l01None x=some r):∃k,P.s_l01None k x=some r:=⟨0,h⟩
abbrev P.s_l01NatAdd_b0 (x1:Int×List Int×List Int×Int×List Int×Unit) (g2:Int×List Int×List Int×Int×List Int×Unit→Option (List Int×Unit)):Option (List Int×Unit):=
 if decide (x1.1<(x1.2.1.length:Int))then(S.s_l01Digit (x1.2.1,x1.1,())).bind fun y3=>(S.s_l01Digit (x1.2.2.1,x1.1,())).bind fun y4=>if decide (((x1.2.2.2.2.1.length+(List.length [Int.tmod (IntKind.wrap .i64 ((IntKind.wrap .i64 (y3.1+y4.1))+x1.2.2.2.1)) (1000000000:Int)]))*(8:Nat))≤(140737488355328:Nat))then g2 (IntKind.wrap .i64 (x1.1+(1:Int)),x1.2.1,x1.2.2.1,IntKind.wrap .i64 (Int.tdiv (IntKind.wrap .i64 ((IntKind.wrap .i64 (y3.1+y4.1))+x1.2.2.2.1)) (1000000000:Int)),x1.2.2.2.2.1++[Int.tmod (IntKind.wrap .i64 ((IntKind.wrap .i64 (y3.1+y4.1))+x1.2.2.2.1)) (1000000000:Int)],())else none else if decide (x1.1<(x1.2.2.1.length:Int))then(S.s_l01Digit (x1.2.1,x1.1,())).bind fun y5=>(S.s_l01Digit (x1.2.2.1,x1.1,())).bind fun y6=>if decide (((x1.2.2.2.2.1.length+(List.length [Int.tmod (IntKind.wrap .i64 ((IntKind.wrap .i64 (y5.1+y6.1))+x1.2.2.2.1)) (1000000000:Int)]))*(8:Nat))≤(140737488355328:Nat))then g2 (IntKind.wrap .i64 (x1.1+(1:Int)),x1.2.1,x1.2.2.1,IntKind.wrap .i64 (Int.tdiv (IntKind.wrap .i64 ((IntKind.wrap .i64 (y5.1+y6.1))+x1.2.2.2.1)) (1000000000:Int)),x1.2.2.2.2.1++[Int.tmod (IntKind.wrap .i64 ((IntKind.wrap .i64 (y5.1+y6.1))+x1.2.2.2.1)) (1000000000:Int)],())else none else if decide (x1.2.2.2.1>(0:Int))then(S.s_l01Digit (x1.2.1,x1.1,())).bind fun y7=>(S.s_l01Digit (x1.2.2.1,x1.1,())).bind fun y8=>if decide (((x1.2.2.2.2.1.length+(List.length [Int.tmod (IntKind.wrap .i64 ((IntKind.wrap .i64 (y7.1+y8.1))+x1.2.2.2.1)) (1000000000:Int)]))*(8:Nat))≤(140737488355328:Nat))then g2 (IntKind.wrap .i64 (x1.1+(1:Int)),x1.2.1,x1.2.2.1,IntKind.wrap .i64 (Int.tdiv (IntKind.wrap .i64 ((IntKind.wrap .i64 (y7.1+y8.1))+x1.2.2.2.1)) (1000000000:Int)),x1.2.2.2.2.1++[Int.tmod (IntKind.wrap .i64 ((IntKind.wrap .i64 (y7.1+y8.1))+x1.2.2.2.1)) (1000000000:Int)],())else none else some (x1.2.2.2.2.1,())
def P.s_l01NatAdd (k:Nat) (x:List Int×List Int×Unit):Option (List Int×Unit):=
 loopP P.s_l01NatAdd_b0 k ((0:Int),x.1,x.2.1,(0:Int),([]:List Int),())
theorem digit_atA (xs:List Int) (i:Nat) (h:xs.length≤100000000000):S.s_l01Digit (xs,((i:Int),()))=some (xs.getD i 0,()):=by
 unfold S.s_l01Digit P.s_l01Digit
 dsimp only
 by_cases hi:(i:Int)<(xs.length:Int)
 ·have h0:(0:Int)≤(i:Int):=by omega
  rw[if_pos (decide_eq_true hi),if_pos (decide_eq_true h0),if_pos (decide_eq_true hi),Int.toNat_natCast]
 ·rw[if_neg (by simpa using hi),List.getD_eq_getElem?_getD,List.getElem?_eq_none (by omega)]
  rfl
theorem addA_round (xs ys:List Int) (dx:dig B10 xs=true) (dy:dig B10 ys=true) (lx:xs.length≤10000000000) (ly:ys.length≤10000000000) (i:Nat) (hi:i≤100000000000) (hc:i<xs.length∨i<ys.length∨0<(addUp B10 xs ys i).2) (g:(Int×((List Int)×((List Int)×(Int×((List Int)×Unit)))))→Option ((List Int)×Unit)):
  P.s_l01NatAdd_b0 ((i:Int),xs,ys,((addUp B10 xs ys i).2:Int),(addUp B10 xs ys i).1,()) g=g (((i+1:Nat):Int),xs,ys,((addUp B10 xs ys (i+1)).2:Int),(addUp B10 xs ys (i+1)).1,()):=by
 obtain⟨q1,q2,q3,q4⟩:=addUp_ok B10_le dx dy i
 have gx:=dig_getD (B:=B10) (by decide) dx i
 have gy:=dig_getD (B:=B10) (by decide) dy i
 have gx1:xs.getD i 0<1000000000:=gx.2
 have gy1:ys.getD i 0<1000000000:=gy.2
 have gx0:=gx.1
 have gy0:=gy.1
 have body:(Option.bind (S.s_l01Digit (xs,((i:Int),()))) (fun(y3:(Int×Unit))=>(Option.bind (S.s_l01Digit (ys,((i:Int),()))) (fun(y4:(Int×Unit))=>(if((decide ((((List.length (addUp B10 xs ys i).1)+(List.length ((Int.tmod (IntKind.wrap .i64 ((IntKind.wrap .i64 (y3.1+y4.1))+((addUp B10 xs ys i).2:Int))) (1000000000:Int))::([]:List Int))))*(8:Nat))≤(140737488355328:Nat)))=true)then(g ((IntKind.wrap .i64 ((i:Int)+(1:Int))),(xs,(ys,((IntKind.wrap .i64 (Int.tdiv (IntKind.wrap .i64 ((IntKind.wrap .i64 (y3.1+y4.1))+((addUp B10 xs ys i).2:Int))) (1000000000:Int))),(((addUp B10 xs ys i).1++((Int.tmod (IntKind.wrap .i64 ((IntKind.wrap .i64 (y3.1+y4.1))+((addUp B10 xs ys i).2:Int))) (1000000000:Int))::([]:List Int))),()))))))
 else none)))))=g (((i+1:Nat):Int),xs,ys,((addUp B10 xs ys (i+1)).2:Int),(addUp B10 xs ys (i+1)).1,()):=by
  rw[digit_atA xs i (by omega),Option.bind_some,digit_atA ys i (by omega),Option.bind_some]
  dsimp only
  rw[addUp]
  generalize xs.getD i 0=x at*
  generalize ys.getD i 0=y at*
  generalize addUp B10 xs ys i=p at*
  obtain⟨pl,c0⟩:=p
  dsimp only at*
  obtain⟨X,rfl⟩:∃Y:Nat,x=(Y:Int):=⟨x.toNat,by omega⟩
  obtain⟨Y,rfl⟩:∃Y:Nat,y=(Y:Int):=⟨y.toNat,by omega⟩
  rw[Int.toNat_natCast,Int.toNat_natCast,wr (x:=(X:Int)+(Y:Int)) (by omega) (by omega),wr (x:=(X:Int)+(Y:Int)+(c0:Int)) (by omega) (by omega),Int.tmod_eq_emod_of_nonneg (by omega),Int.tdiv_eq_ediv_of_nonneg (by omega)]
  have e8:((X:Int)+(Y:Int)+(c0:Int))%1000000000=(((c0+X+Y)%B10:Nat):Int):=by
   show _=(((c0+X+Y)%1000000000:Nat):Int)
   omega
  have e9:((X:Int)+(Y:Int)+(c0:Int))/1000000000=(((c0+X+Y)/B10:Nat):Int):=by
   show _=(((c0+X+Y)/1000000000:Nat):Int)
   omega
  have b2:(c0+X+Y)/B10≤1000000000:=by
   show(c0+X+Y)/1000000000≤1000000000
   omega
  have hcap:(pl.length+ [(((c0+X+Y)%B10:Nat):Int)].length)*8≤140737488355328:=by
   rw[q2,List.length_singleton]
   omega
  rw[e8,e9,if_pos (decide_eq_true hcap),wr (x:=(((c0+X+Y)/B10:Nat):Int)) (by omega) (by omega),wr (x:=(i:Int)+1) (by omega) (by omega)]
  rfl
 unfold P.s_l01NatAdd_b0
 dsimp only
 by_cases h1:i<xs.length
 ·have h1':(i:Int)<(xs.length:Int):=by omega
  rw[if_pos (decide_eq_true h1')]
  exact body
 ·have h1':¬(i:Int)<(xs.length:Int):=by omega
  rw[if_neg (by simpa using h1')]
  by_cases h2:i<ys.length
  ·have h2':(i:Int)<(ys.length:Int):=by omega
   rw[if_pos (decide_eq_true h2')]
   exact body
  ·have h2':¬(i:Int)<(ys.length:Int):=by omega
   have h3:((addUp B10 xs ys i).2:Int)>0:=by
    rcases hc with h|h|h
    ·exact absurd h h1
    ·exact absurd h h2
    ·omega
   rw[if_neg (by simpa using h2'),if_pos (decide_eq_true h3)]
   exact body
def S.s_l01NatAdd (x:((List Int)×((List Int)×Unit))):(Option ((List Int)×Unit)):=if canon B10 x.1=true∧canon B10 x.2.1=true∧x.1.length≤10000000000∧x.2.1.length≤10000000000 then some (nd B10 (dval B10 x.1+dval B10 x.2.1),())else none
theorem S.s_l01NatAdd_ok (x:((List Int)×((List Int)×Unit))) (r:_) (h:S.s_l01NatAdd x=some r):∃k,P.s_l01NatAdd k x=some r:=by
 obtain⟨xs,ys,u⟩:=x
 unfold S.s_l01NatAdd at h
 dsimp only at h
 split at h
 case isFalse=>cases h
 rename_i hc
 obtain⟨cx,cy,lx,ly⟩:=hc
 cases h
 have dx:=canon_dig cx
 have dy:=canon_dig cy
 obtain⟨N,hN,hNx,hNy,hNle⟩:∃N,(N=xs.length∨N=ys.length)∧xs.length≤N∧ys.length≤N∧N≤10000000000:=by
  by_cases h:xs.length≤ys.length
  ·exact⟨ys.length, .inr rfl,h,Nat.le_refl _,ly⟩
  ·exact⟨xs.length, .inl rfl,Nat.le_refl _,by omega,lx⟩
 obtain⟨q1,q2,q3,q4⟩:=addUp_ok B10_le dx dy N
 rw[List.take_of_length_le hNx,List.take_of_length_le hNy]at q3
 obtain⟨n,hn,hfull⟩:∃n,(n=N∧(addUp B10 xs ys N).2=0∨n=N+1∧0<(addUp B10 xs ys N).2)∧(n=0∨B10^(n - 1)≤dval B10 xs+dval B10 ys):=by
  by_cases h:(addUp B10 xs ys N).2=0
  ·refine⟨N, .inl ⟨rfl,h⟩,?_⟩
   have one:∀zs:List Int,canon B10 zs=true→zs=[]∨B10^(zs.length - 1)≤dval B10 zs:=by
    intro zs cz
    by_cases hz:zs=[]
    ·exact .inl hz
    ·have h0:dval B10 zs≠0:=fun e=>hz ((canon_nil B10_le cz).2 e)
     have:=nd_low B10_le h0
     rw[canon_eq cz]at this
     exact .inr this
   rcases hN with e|e
   ·rcases one xs cx with h2|h2
    ·left;rw[e,h2];rfl
    ·right;rw[e];omega
   ·rcases one ys cy with h2|h2
    ·left;rw[e,h2];rfl
    ·right;rw[e];omega
  ·refine⟨N+1, .inr ⟨rfl,by omega⟩, .inr ?_⟩
   rw[Nat.add_sub_cancel]
   have:B10^N*1≤B10^N*(addUp B10 xs ys N).2:=Nat.mul_le_mul_left _ (by omega)
   omega
 obtain⟨r1,r2,r3,r4⟩:=addUp_ok B10_le dx dy n
 rw[List.take_of_length_le (by omega),List.take_of_length_le (by omega)]at r3
 have hlast:(addUp B10 xs ys n).2=0:=by
  rcases hn with ⟨rfl,h⟩|⟨rfl,h⟩
  ·exact h
  ·rw[addUp]
   rw[List.getD_eq_getElem?_getD,List.getElem?_eq_none (by omega),List.getD_eq_getElem?_getD,List.getElem?_eq_none (by omega)]
   show((addUp B10 xs ys N).2+0+0)/1000000000=0
   omega
 rw[hlast,Nat.mul_zero,Nat.add_zero]at r3
 refine⟨n+1,?_⟩
 unfold P.s_l01NatAdd
 dsimp only
 have key:=loop_up0 (k:=n+1) (b:=P.s_l01NatAdd_b0) (n:=n) (st:=fun i=>((i:Int),xs,ys,((addUp B10 xs ys i).2:Int),(addUp B10 xs ys i).1,())) (F:=fun i=>some (nd B10 (dval B10 xs+dval B10 ys),())) (fun i g hi hg=>by
  rw[addA_round xs ys dx dy lx ly i (by omega) (by
   rcases hn with ⟨rfl,h⟩|⟨rfl,h⟩
   ·omega
   ·by_cases he:i=N
    ·subst he
     exact .inr (.inr h)
    ·omega)]
  exact hg) (fun g=>by
  unfold P.s_l01NatAdd_b0
  dsimp only
  have h1:¬(n:Int)<(xs.length:Int):=by omega
  have h2:¬(n:Int)<(ys.length:Int):=by omega
  rw[if_neg (by simpa using h1),if_neg (by simpa using h2),hlast,if_neg (by simp),←r3]
  rcases Nat.eq_zero_or_pos n with e|e
  ·subst e
   show some ([],())=some (nd B10 0,())
   rw[nd_zero B10_le]
  ·have hv:B10^(n - 1)≤dval B10 (addUp B10 xs ys n).1:=by
    rcases hfull with h|h
    ·omega
    ·omega
   have:=nd_full B10_le r1 (fun q=>by rw[q]at r2;simp at r2;omega) (by rw[r2];exact hv)
   rw[this]) (by omega)
 exact key
abbrev P.s_l01NatLess_b0 (x1:Int×Int×List Int×List Int×Int×List Int×Unit) (g2:Int×Int×List Int×List Int×Int×List Int×Unit→Option (List Int×Unit)):Option (List Int×Unit):=
 if decide (x1.1<x1.2.1)then if decide ((0:Int)≤x1.1)then if decide (x1.1<(x1.2.2.1.length:Int))then(S.s_l01Digit (x1.2.2.2.1,x1.1,())).bind fun y3=>if decide ((IntKind.wrap .i64 ((IntKind.wrap .i64 ((x1.2.2.1.getD x1.1.toNat (0:Int)) - y3.1)) - x1.2.2.2.2.1))<(0:Int))then if decide (((x1.2.2.2.2.2.1.length+(List.length [IntKind.wrap .i64 ((IntKind.wrap .i64 ((IntKind.wrap .i64 ((x1.2.2.1.getD x1.1.toNat (0:Int)) - y3.1)) - x1.2.2.2.2.1))+(1000000000:Int))]))*(8:Nat))≤(140737488355328:Nat))then g2 (IntKind.wrap .i64 (x1.1+(1:Int)),x1.2.1,x1.2.2.1,x1.2.2.2.1,(1:Int),x1.2.2.2.2.2.1++[IntKind.wrap .i64 ((IntKind.wrap .i64 ((IntKind.wrap .i64 ((x1.2.2.1.getD x1.1.toNat (0:Int)) - y3.1)) - x1.2.2.2.2.1))+(1000000000:Int))],())else none else if decide (((x1.2.2.2.2.2.1.length+(List.length [IntKind.wrap .i64 ((IntKind.wrap .i64 ((x1.2.2.1.getD x1.1.toNat (0:Int)) - y3.1)) - x1.2.2.2.2.1)]))*(8:Nat))≤(140737488355328:Nat))then g2 (IntKind.wrap .i64 (x1.1+(1:Int)),x1.2.1,x1.2.2.1,x1.2.2.2.1,(0:Int),x1.2.2.2.2.2.1++[IntKind.wrap .i64 ((IntKind.wrap .i64 ((x1.2.2.1.getD x1.1.toNat (0:Int)) - y3.1)) - x1.2.2.2.2.1)],())else none else none else none else(S.s_l01Trim (x1.2.2.2.2.2.1,())).bind fun y4=>some (y4.1,())
def P.s_l01NatLess (k:Nat) (x:List Int×List Int×Unit):Option (List Int×Unit):=
 loopP P.s_l01NatLess_b0 k ((0:Int),(x.1.length:Int),x.1,x.2.1,(0:Int),([]:List Int),())
theorem digit_at (xs:List Int) (i:Nat) (h:xs.length≤100000000000):S.s_l01Digit (xs,((i:Int),()))=some (xs.getD i 0,()):=by
 unfold S.s_l01Digit P.s_l01Digit
 dsimp only
 by_cases hi:(i:Int)<(xs.length:Int)
 ·have h0:(0:Int)≤(i:Int):=by omega
  rw[if_pos (decide_eq_true hi),if_pos (decide_eq_true h0),if_pos (decide_eq_true hi),Int.toNat_natCast]
 ·rw[if_neg (by simpa using hi),List.getD_eq_getElem?_getD,List.getElem?_eq_none (by omega)]
  rfl
def S.s_l01NatLess (x:((List Int)×((List Int)×Unit))):(Option ((List Int)×Unit)):=if dig B10 x.1=true∧dig B10 x.2.1=true∧x.2.1.length≤x.1.length∧dval B10 x.2.1≤dval B10 x.1∧x.1.length≤10000000000 then some (nd B10 (dval B10 x.1 - dval B10 x.2.1),())else none
theorem S.s_l01NatLess_ok (x:((List Int)×((List Int)×Unit))) (r:_) (h:S.s_l01NatLess x=some r):∃k,P.s_l01NatLess k x=some r:=by
 obtain⟨xs,ys,u⟩:=x
 unfold S.s_l01NatLess at h
 dsimp only at h
 split at h
 case isFalse=>cases h
 rename_i hc
 obtain⟨dx,dy,hl,hv,lx⟩:=hc
 cases h
 refine⟨xs.length+1,?_⟩
 unfold P.s_l01NatLess
 dsimp only
 have key:=loop_up0 (k:=xs.length+1) (b:=P.s_l01NatLess_b0) (n:=xs.length) (st:=fun i=>((i:Int),(xs.length:Int),xs,ys,((takeUp B10 1 xs ys i).2.2:Int),(takeUp B10 1 xs ys i).1,())) (F:=fun i=>some (nd B10 (dval B10 xs - dval B10 ys),())) (fun i g hi hg=>by
  unfold P.s_l01NatLess_b0
  dsimp only at hg ⊢
  refine Eq.trans ?_ hg
  clear hg
  obtain⟨q1,q2,q3,q4,q5⟩:=takeUp_ok (t:=1) B10_le dx dy i
  have gx:=dig_getD (B:=B10) (by decide) dx i
  have gy:=dig_getD (B:=B10) (by decide) dy i
  have gx1:xs.getD i 0<1000000000:=gx.2
  have gy1:ys.getD i 0<1000000000:=gy.2
  have gx0:=gx.1
  have gy0:=gy.1
  have e1:(i:Int)<(xs.length:Int):=by omega
  have e2:(0:Int)≤(i:Int):=by omega
  simp only[e1,e2,decide_true,if_true,Int.toNat_natCast]
  rw[digit_at ys i (by omega),Option.bind_some]
  dsimp only
  rw[(takeUp_one B10_le (xs:=xs) dy i).2]
  dsimp only
  generalize (takeUp B10 1 xs ys i).1=pl at*
  generalize (takeUp B10 1 xs ys i).2.2=l0 at*
  obtain⟨x,hx⟩:∃x,xs.getD i 0=x:=⟨_,rfl⟩
  obtain⟨y,hy⟩:∃y,ys.getD i 0=y:=⟨_,rfl⟩
  simp only[hx,hy]at gx1 gx0 gy1 gy0 ⊢
  have hB:((B10:Nat):Int)=1000000000:=rfl
  have hcap:∀v:Int,(pl.length+ [v].length)*8≤140737488355328:=by
   intro v
   rw[q2,List.length_singleton]
   omega
  rw[wr (x:=(i:Int)+1) (by omega) (by omega),wr (x:=x - y) (by omega) (by omega),wr (x:=x - y - (l0:Int)) (by omega) (by omega),wr (x:=x - y - (l0:Int)+1000000000) (by omega) (by omega),hB]
  by_cases hn:x - y - (l0:Int)<0
  ·rw[if_pos (decide_eq_true hn),if_pos (decide_eq_true (hcap _)),if_pos hn,show(x - y - (l0:Int))%1000000000=x - y - (l0:Int)+1000000000 by omega]
   rfl
  ·have e11:(x - y - (l0:Int))%1000000000=x - y - (l0:Int):=by omega
   rw[if_neg (by simpa using hn),if_pos (decide_eq_true (hcap _)),if_neg hn,e11]
   rfl) (fun g=>by
  unfold P.s_l01NatLess_b0
  dsimp only
  rw[if_neg (by simp),takeUp_fd B10_le dx dy hl hv]
  unfold S.s_l01Trim
  dsimp only
  have hb:=dval_lt dx
  rw[if_pos ⟨dig_fd (by decide) _ _,by rw[fd_len];omega⟩,Option.bind_some,nd_fd B10_le (by omega)]) (by omega)
 exact key
def P.s_l01Make (k:Nat) (x:Bool×List Int×List Int×Unit):Option ((Bool×List Int×List Int)×Unit):=
 (S.s_l01Gcd (x.2.1,x.2.2.1,())).bind fun y0=>(S.s_l01Cmp (y0.1,[(1:Int)],())).bind fun y1=>if y1.1 != (0:Int)then(S.s_l01NatDiv (x.2.1,y0.1,())).bind fun y2=>(S.s_l01NatDiv (x.2.2.1,y0.1,())).bind fun y3=>if x.1 then some ((decide ((y2.1.1.length:Int)>(0:Int)),y2.1.1,y3.1.1),())else some ((false,y2.1.1,y3.1.1),())else if x.1 then some ((decide ((x.2.1.length:Int)>(0:Int)),x.2.1,x.2.2.1),())else some ((false,x.2.1,x.2.2.1),())
def S.s_l01Make (x:(Bool×((List Int)×((List Int)×Unit)))):(Option (RB×Unit)):=if canon B10 x.2.1=true∧canon B10 x.2.2.1=true∧x.2.2.1≠ []∧x.2.1.length≤10000000000∧x.2.2.1.length≤10000000000 then some (rp B10 (lowN x.1 (dval B10 x.2.1) (dval B10 x.2.2.1)),())else none
theorem S.s_l01Make_ok (x:(Bool×((List Int)×((List Int)×Unit)))) (r:_) (h:S.s_l01Make x=some r):∃k,P.s_l01Make k x=some r:=by
 obtain⟨neg,as,bs',u⟩:=x
 unfold S.s_l01Make at h
 dsimp only at h
 split at h
 case isFalse=>cases h
 rename_i hc
 obtain⟨ca,cb,hne,la,lb⟩:=hc
 cases h
 refine⟨0,?_⟩
 unfold P.s_l01Make
 dsimp only
 have hb0:dval B10 bs'≠0:=fun e=>hne ((canon_nil B10_le cb).2 e)
 have hg:=gcd_len B10_le ca cb hb0
 have hgp:0<Nat.gcd (dval B10 as) (dval B10 bs'):=Nat.gcd_pos_of_pos_right _ (by omega)
 have e1:S.s_l01Gcd (as,(bs',()))=some (nd B10 (Nat.gcd (dval B10 as) (dval B10 bs')),()):=by
  unfold S.s_l01Gcd
  exact if_pos ⟨ca,cb,la,lb⟩
 rw[e1,Option.bind_some]
 dsimp only
 unfold lowN rp
 dsimp only
 have hgne:nd B10 (Nat.gcd (dval B10 as) (dval B10 bs'))≠ []:=by
  rw[nd_pos B10_le (by omega)]
  simp
 have hgd:dval B10 (nd B10 (Nat.gcd (dval B10 as) (dval B10 bs')))=Nat.gcd (dval B10 as) (dval B10 bs'):=dval_nd B10_le _
 have hgc:canon B10 (nd B10 (Nat.gcd (dval B10 as) (dval B10 bs')))=true:=canon_nd B10_le _
 have e2:∀xs,canon B10 xs=true→xs.length≤10000000000→S.s_l01NatDiv (xs,(nd B10 (Nat.gcd (dval B10 as) (dval B10 bs')),()))=some ((nd B10 (dval B10 xs/Nat.gcd (dval B10 as) (dval B10 bs')),nd B10 (dval B10 xs%Nat.gcd (dval B10 as) (dval B10 bs'))),()):=by
  intro xs cx lx
  unfold S.s_l01NatDiv
  dsimp only
  rw[if_pos ⟨cx,hgc,hgne,lx,by omega⟩,hgd]
 have e3:S.s_l01Cmp (nd B10 (Nat.gcd (dval B10 as) (dval B10 bs')),([1],()))=some (cmpN (Nat.gcd (dval B10 as) (dval B10 bs')) 1,()):=by
  unfold S.s_l01Cmp
  dsimp only
  rw[if_pos ⟨hgc,canon_one B10_le,by omega⟩,hgd,dval_one]
 rw[e3,Option.bind_some,e2 as ca la,Option.bind_some,e2 bs' cb lb,Option.bind_some]
 dsimp only
 have hpos:∀xs:List Int,canon B10 xs=true→(decide (((xs.length:Nat):Int)>0))=decide (dval B10 xs≠0):=by
  intro xs cx
  have:=canon_nil B10_le cx
  rw[decide_eq_decide]
  constructor
  ·intro h e
   rw[this.2 e]at h
   simp at h
  ·intro h
   have:0<xs.length:=List.length_pos_iff.2 (fun e=>h (this.1 e))
   omega
 have hp2:decide (dval B10 as/Nat.gcd (dval B10 as) (dval B10 bs')≠0)=decide (dval B10 as≠0):=by
  rw[decide_eq_decide]
  have hdv:Nat.gcd (dval B10 as) (dval B10 bs') ∣ dval B10 as:=Nat.gcd_dvd_left _ _
  constructor
  ·intro h e
   rw[e,Nat.zero_div]at h
   exact h rfl
  ·intro h e
   have:=Nat.div_pos (Nat.le_of_dvd (by omega) hdv) hgp
   omega
 rw[hpos _ (canon_nd B10_le _),hpos as ca,dval_nd B10_le,hp2]
 by_cases h1:Nat.gcd (dval B10 as) (dval B10 bs')=1
 ·rw[if_neg (by simpa using cmpN_zero.2 h1),h1,Nat.div_one,Nat.div_one,canon_eq ca,canon_eq cb]
  cases neg<;>simp
 ·rw[if_pos (by simpa using fun q=>h1 (cmpN_zero.1 q))]
  cases neg<;>simp
def P.s_l01Sum (k:Nat) (x:(Bool×List Int×List Int)×(Bool×List Int×List Int)×Unit):Option ((Bool×List Int×List Int)×Unit):=
 (S.s_l01NatMul (x.1.2.1,x.2.1.2.2,())).bind fun y0=>(S.s_l01NatMul (x.2.1.2.1,x.1.2.2,())).bind fun y1=>(S.s_l01NatMul (x.1.2.2,x.2.1.2.2,())).bind fun y2=>if x.1.1==x.2.1.1 then(S.s_l01NatAdd (y0.1,y1.1,())).bind fun y3=>(S.s_l01Make (x.1.1,y3.1,y2.1,())).bind fun y4=>some ((y4.1.1,y4.1.2.1,y4.1.2.2),())else(S.s_l01Cmp (y0.1,y1.1,())).bind fun y5=>if decide (y5.1≥(0:Int))then(S.s_l01NatLess (y0.1,y1.1,())).bind fun y6=>(S.s_l01Make (x.1.1,y6.1,y2.1,())).bind fun y7=>some ((y7.1.1,y7.1.2.1,y7.1.2.2),())else(S.s_l01NatLess (y1.1,y0.1,())).bind fun y8=>(S.s_l01Make (x.2.1.1,y8.1,y2.1,())).bind fun y9=>some ((y9.1.1,y9.1.2.1,y9.1.2.2),())
theorem sa_mul (p q:Nat) (hp:(nd B10 p).length≤100000000) (hq:(nd B10 q).length≤100000000):S.s_l01NatMul (nd B10 p,(nd B10 q,()))=some (nd B10 (p*q),()):=by
 unfold S.s_l01NatMul
 dsimp only
 rw[if_pos ⟨dig_nd B10_le _,dig_nd B10_le _,by omega,by omega⟩,dval_nd B10_le,dval_nd B10_le]
theorem sa_add (p q:Nat) (hp:(nd B10 p).length≤100000000) (hq:(nd B10 q).length≤100000000):S.s_l01NatAdd (nd B10 p,(nd B10 q,()))=some (nd B10 (p+q),()):=by
 unfold S.s_l01NatAdd
 dsimp only
 rw[if_pos ⟨canon_nd B10_le _,canon_nd B10_le _,by omega,by omega⟩,dval_nd B10_le,dval_nd B10_le]
theorem sa_sub (p q:Nat) (hp:(nd B10 p).length≤100000000) (h:q≤p):S.s_l01NatLess (nd B10 p,(nd B10 q,()))=some (nd B10 (p - q),()):=by
 unfold S.s_l01NatLess
 dsimp only
 rw[dval_nd B10_le,dval_nd B10_le,if_pos ⟨dig_nd B10_le _,dig_nd B10_le _,nd_shorter' B10_le h,h,by omega⟩]
theorem sa_cmp (p q:Nat) (hp:(nd B10 p).length≤100000000):S.s_l01Cmp (nd B10 p,(nd B10 q,()))=some (cmpN p q,()):=by
 unfold S.s_l01Cmp
 dsimp only
 rw[if_pos ⟨canon_nd B10_le _,canon_nd B10_le _,by omega⟩,dval_nd B10_le,dval_nd B10_le]
theorem sa_low (n:Bool) (p q:Nat) (hp:(nd B10 p).length≤100000000) (hq:(nd B10 q).length≤100000000) (h0:q≠0):S.s_l01Make (n,(nd B10 p,(nd B10 q,())))=some (rp B10 (lowN n p q),()):=by
 unfold S.s_l01Make
 dsimp only
 rw[if_pos ⟨canon_nd B10_le _,canon_nd B10_le _,nd_ne B10_le h0,by omega,by omega⟩,dval_nd B10_le,dval_nd B10_le]
def S.s_l01Sum (x:(RB×(RB×Unit))):(Option (RB×Unit)):=if lowb B10 40000000 x.1=true∧lowb B10 40000000 x.2.1=true then some (rp B10 (addQ (rv B10 x.1) (rv B10 x.2.1)),())else none
theorem S.s_l01Sum_ok (x:(RB×(RB×Unit))) (r:_) (h:S.s_l01Sum x=some r):∃k,P.s_l01Sum k x=some r:=by
 obtain⟨x,y,u⟩:=x
 unfold S.s_l01Sum at h
 dsimp only at h
 split at h
 case isFalse=>cases h
 rename_i hc
 obtain⟨hx,hy⟩:=hc
 cases h
 rw[lowb_iff]at hx hy
 obtain⟨hx,lx⟩:=hx
 obtain⟨hy,ly⟩:=hy
 obtain⟨n1,p1,q1,rfl,x1,x2⟩:=rok_nd hx
 obtain⟨n2,p2,q2,rfl,y1,y2⟩:=rok_nd hy
 rw[rv_nd B10_le]at lx ly ⊢
 rw[rv_nd B10_le]
 have hq1:q1≠0:=by have:0<q1:=lx.1;omega
 have hq2:q2≠0:=by have:0<q2:=ly.1;omega
 have m1:=nd_mul_len B10_le p1 q2
 have m2:=nd_mul_len B10_le p2 q1
 have m3:=nd_mul_len B10_le q1 q2
 have hq0:q1*q2≠0:=Nat.mul_ne_zero hq1 hq2
 refine⟨0,?_⟩
 unfold P.s_l01Sum
 dsimp only
 rw[sa_mul p1 q2 (by omega) (by omega),Option.bind_some,sa_mul p2 q1 (by omega) (by omega),Option.bind_some,sa_mul q1 q2 (by omega) (by omega),Option.bind_some]
 dsimp only
 unfold addQ
 dsimp only
 have a1:=nd_add_len B10_le (p1*q2) (p2*q1)
 have a2:=nd_sub_len B10_le (p1*q2) (p2*q1)
 have a3:=nd_sub_len B10_le (p2*q1) (p1*q2)
 by_cases hn:n1=n2
 ·rw[if_pos (by simpa using hn),if_pos hn,sa_add _ _ (by omega) (by omega),Option.bind_some,sa_low n1 _ _ (by omega) (by omega) hq0,Option.bind_some]
 ·rw[if_neg (by simpa using hn),if_neg hn,sa_cmp _ _ (by omega),Option.bind_some]
  dsimp only
  have hlt:=cmpN_lt (a:=p1*q2) (b:=p2*q1)
  by_cases hle:p2*q1≤p1*q2
  ·have hge:cmpN (p1*q2) (p2*q1)≥0:=by
    rcases Int.lt_or_le (cmpN (p1*q2) (p2*q1)) 0 with g|g
    ·have:=hlt.1 g
     omega
    ·exact g
   rw[if_pos (decide_eq_true hge),if_pos hle,sa_sub _ _ (by omega) hle,Option.bind_some,sa_low n1 _ _ (by omega) (by omega) hq0,Option.bind_some]
  ·have hge:¬cmpN (p1*q2) (p2*q1)≥0:=by
    have:=hlt.2 (Nat.lt_of_not_le hle)
    omega
   rw[if_neg (by simpa using hge),if_neg hle,sa_sub _ _ (by omega) (Nat.le_of_lt (Nat.lt_of_not_le hle)),Option.bind_some,sa_low n2 _ _ (by omega) (by omega) hq0,Option.bind_some]
theorem rs_add {x y:Q3} {m n:Nat} (hx:low x) (bx:below m x) (hy:low y) (bY:below n y) (hm:m≤350000000) (hn:n≤350000000):S.s_l01Sum (rp B10 x,(rp B10 y,()))=some (rp B10 (addQ x y),()):=by
 unfold S.s_l01Sum
 dsimp only
 rw[if_pos ⟨lowb_rp9 (by decide) hx bx (by omega),lowb_rp9 (by decide) hy bY (by omega)⟩,rv_rp B10_le,rv_rp B10_le]
abbrev P.s_l01Total_b1 (x2:Int×Int×(Bool×List Int×List Int)×List (Bool×List Int×List Int)×(Bool×List Int×List Int)×Unit) (g3:Int×Int×(Bool×List Int×List Int)×List (Bool×List Int×List Int)×(Bool×List Int×List Int)×Unit→Option ((Bool×List Int×List Int)×Unit)):Option ((Bool×List Int×List Int)×Unit):=
 if decide (x2.1<x2.2.1)then if decide ((0:Int)≤x2.1)then if decide (x2.1<(x2.2.2.2.1.length:Int))then(S.s_l01Sum ((x2.2.2.1.1,x2.2.2.1.2.1,x2.2.2.1.2.2),((x2.2.2.2.1.getD x2.1.toNat (false,([]:List Int),([]:List Int))).1,(x2.2.2.2.1.getD x2.1.toNat (false,([]:List Int),([]:List Int))).2.1,(x2.2.2.2.1.getD x2.1.toNat (false,([]:List Int),([]:List Int))).2.2),())).bind fun y4=>g3 (IntKind.wrap .i64 (x2.1+(1:Int)),x2.2.1,(y4.1.1,y4.1.2.1,y4.1.2.2),x2.2.2.2.1,(x2.2.2.2.2.1.1,x2.2.2.2.2.1.2.1,x2.2.2.2.2.1.2.2),())else none else none else some ((x2.2.2.1.1,x2.2.2.1.2.1,x2.2.2.1.2.2),())
def P.s_l01Total (k:Nat) (x:List (Bool×List Int×List Int)×Unit):Option ((Bool×List Int×List Int)×Unit):=
 (S.s_l01None ()).bind fun y0=>loopP P.s_l01Total_b1 k ((0:Int),(x.1.length:Int),(y0.1.1,y0.1.2.1,y0.1.2.2),x.1,(false,([]:List Int),([]:List Int)),())
open Classical in
def S.s_l01Total (x:((List RB)×Unit)):(Option (RB×Unit)):=if goodS B10 x.1 then some (rp B10 (sumQ (x.1.map (rv B10))),())else none
theorem s_l01Total_add (a b:Q3) (ha:lowb B10 40000000 (rp B10 a)=true) (hb:lowb B10 40000000 (rp B10 b)=true):S.s_l01Sum (rp B10 a,(rp B10 b,()))=some (rp B10 (addQ a b),()):=by
 unfold S.s_l01Sum
 dsimp only
 rw[if_pos ⟨ha,hb⟩,rv_rp B10_le,rv_rp B10_le]
theorem S.s_l01Total_ok (x:((List RB)×Unit)) (r:_) (h:S.s_l01Total x=some r):∃k,P.s_l01Total k x=some r:=by
 obtain⟨xs,u⟩:=x
 unfold S.s_l01Total at h
 dsimp only at h
 split at h
 case isFalse=>cases h
 rename_i hc
 obtain⟨qs,rfl,hlen,hq,hg⟩:=hc
 cases h
 refine⟨qs.length+1,?_⟩
 unfold P.s_l01Total
 have hz:S.s_l01None ()=some (rp B10 zeroQ,()):=by rfl
 dsimp only
 rw[hz,Option.bind_some,map_rv B10_le,List.length_map]
 have key:=loop_up0 (k:=qs.length+1) (b:=P.s_l01Total_b1) (n:=qs.length) (st:=fun i=>((i:Int),(qs.length:Int),rp B10 (sumQ (qs.take i)),qs.map (rp B10),(false,(([]:List Int),([]:List Int))),())) (F:=fun i=>some (rp B10 (sumQ qs),())) (fun i g hi hg'=>by
  unfold P.s_l01Total_b1
  dsimp only at hg' ⊢
  have e1:(i:Int)<(qs.length:Int):=by omega
  have e2:(0:Int)≤(i:Int):=by omega
  have e3:(i:Int)<((qs.map (rp B10)).length:Int):=by rw[List.length_map];omega
  rw[if_pos (decide_eq_true e1),if_pos (decide_eq_true e2),if_pos (decide_eq_true e3),getD_cast (qs.map (rp B10)) i _ (by rw[List.length_map];exact hi),List.getElem_map]
  have ea:=s_l01Total_add (sumQ (qs.take i)) qs[i] (lowb_rp9 (by decide) (hg i).1 (hg i).2 (by decide)) (lowb_rp9 (by decide) (hq _ (List.getElem_mem hi)).1 (hq _ (List.getElem_mem hi)).2 (by decide))
  rw[sumQ_take hi]at ea
  show Option.bind (S.s_l01Sum (rp B10 (sumQ (qs.take i)),(rp B10 qs[i],()))) _=_
  rw[ea,Option.bind_some,wr (by omega) (by omega)]
  exact hg') (fun g=>by
  unfold P.s_l01Total_b1
  dsimp only
  rw[if_neg (by simp),List.take_length]) (by omega)
 exact key
abbrev P.s_l01Positive_b0 (x1:Int×Int×List (Bool×List Int×List Int)×Unit) (g2:Int×Int×List (Bool×List Int×List Int)×Unit→Option (Bool×Unit)):Option (Bool×Unit):=
 if decide (x1.1<x1.2.1)then if decide ((0:Int)≤x1.1)then if decide (x1.1<(x1.2.2.1.length:Int))then if(x1.2.2.1.getD x1.1.toNat (false,([]:List Int),([]:List Int))).1 then some (false,())else g2 (IntKind.wrap .i64 (x1.1+(1:Int)),x1.2.1,x1.2.2.1,())else none else none else some (true,())
def P.s_l01Positive (k:Nat) (x:List (Bool×List Int×List Int)×Unit):Option (Bool×Unit):=
 loopP P.s_l01Positive_b0 k ((0:Int),(x.1.length:Int),x.1,())
def S.s_l01Positive (x:((List RB)×Unit)):(Option (Bool×Unit)):=if x.1.length≤1000000000 then some (!(x.1.any fun r=>r.1),())else none
theorem S.s_l01Positive_ok (x:((List RB)×Unit)) (r:_) (h:S.s_l01Positive x=some r):∃k,P.s_l01Positive k x=some r:=by
 obtain⟨xs,u⟩:=x
 unfold S.s_l01Positive at h
 dsimp only at h
 split at h
 case isFalse=>cases h
 rename_i hc
 cases h
 refine⟨xs.length+1,?_⟩
 unfold P.s_l01Positive
 have key:=loop_up0 (k:=xs.length+1) (b:=P.s_l01Positive_b0) (n:=xs.length) (st:=fun i=>((i:Int),(xs.length:Int),xs,())) (F:=fun i=>some (!((xs.drop i).any fun r=>r.1),())) (fun i g hi hg=>by
  unfold P.s_l01Positive_b0
  dsimp only at hg ⊢
  have e1:(i:Int)<(xs.length:Int):=by omega
  have e2:(0:Int)≤(i:Int):=by omega
  rw[if_pos (decide_eq_true e1),if_pos (decide_eq_true e2),if_pos (decide_eq_true e1),getD_cast xs i _ hi,List.drop_eq_getElem_cons hi,List.any_cons]
  cases hf:xs[i].1
  ·rw[if_neg (by decide),wr (by omega) (by omega),Bool.false_or]
   exact hg
  ·rw[if_pos rfl]
   rfl) (fun g=>by
  unfold P.s_l01Positive_b0
  dsimp only
  rw[if_neg (by simp),List.drop_length]
  rfl) (by omega)
 exact key
def P.s_l01Weights (k:Nat) (x:List (Bool×List Int×List Int)×Unit):Option (Bool×Unit):=
 (S.s_l01Positive (x.1,())).bind fun y0=>if y0.1 then(S.s_l01Total (x.1,())).bind fun y1=>(S.s_l01One ()).bind fun y2=>(S.s_l01Equal ((y1.1.1,y1.1.2.1,y1.1.2.2),(y2.1.1,y2.1.2.1,y2.1.2.2),())).bind fun y3=>some (y3.1,())else some (false,())
open Classical in
def S.s_l01Weights (x:((List RB)×Unit)):(Option (Bool×Unit)):=if goodL B10 x.1 then some (isW (x.1.map (rv B10)),())else none
theorem S.s_l01Weights_ok (x:((List RB)×Unit)) (r:_) (h:S.s_l01Weights x=some r):∃k,P.s_l01Weights k x=some r:=by
 obtain⟨xs,u⟩:=x
 unfold S.s_l01Weights at h
 dsimp only at h
 split at h
 case isFalse=>cases h
 rename_i hc
 obtain⟨qs,n,rfl,hg⟩:=hc
 cases h
 refine⟨0,?_⟩
 rw[map_rv B10_le]
 unfold P.s_l01Weights S.s_l01Positive
 dsimp only
 have hlen:=good_len hg
 rw[if_pos (by rw[List.length_map];omega),Option.bind_some,any_rp]
 dsimp only
 unfold isW
 have es:S.s_l01Total (qs.map (rp B10),())=some (rp B10 (sumQ qs),()):=by
  unfold S.s_l01Total
  dsimp only
  rw[if_pos (goodL_S ⟨qs,n,rfl,hg⟩),map_rv B10_le]
 have h1:S.s_l01One ()=some (rp B10 oneQ,()):=by rfl
 have eo:S.s_l01Equal (rp B10 (sumQ qs),(rp B10 oneQ,()))=some (isOneQ (sumQ qs),()):=by
  unfold S.s_l01Equal
  dsimp only
  rw[if_pos ⟨good_rok (by decide) hg,below_rok (B:=B10) (by decide) (oneQ_below (by decide))⟩,rv_rp B10_le,rv_rp B10_le]
  unfold isOneQ oneQ
  dsimp only
  rw[Nat.mul_one,Nat.one_mul]
 cases hm:(qs.any fun r=>r.1)
 ·rw[if_pos (show(!false)=true by rfl),es,Option.bind_some,h1,Option.bind_some]
  show Option.bind (S.s_l01Equal (rp B10 (sumQ qs),(rp B10 oneQ,()))) _=_
  rw[eo,Option.bind_some]
  rfl
 ·rfl
abbrev P.s_l03Parse_b0 (x1:Int×Int×List (List ByteArray)×Int×List (List (Bool×List Int×List Int))×List (List (Bool×List Int×List Int))×Unit) (g2:Int×Int×List (List ByteArray)×Int×List (List (Bool×List Int×List Int))×List (List (Bool×List Int×List Int))×Unit→Option ((List (List (Bool×List Int×List Int))×Bool)×Unit)):Option ((List (List (Bool×List Int×List Int))×Bool)×Unit):=
 if decide (x1.1<x1.2.1)then if decide ((0:Int)≤x1.1)then if decide (x1.1<(x1.2.2.1.length:Int))then if(List.length (x1.2.2.1.getD x1.1.toNat ([]:List ByteArray)):Int) != x1.2.2.2.1 then some ((([]:List (List (Bool×List Int×List Int))),false),())else if decide ((0:Int)≤x1.1)then if decide (x1.1<(x1.2.2.1.length:Int))then(S.s_l01List (x1.2.2.1.getD x1.1.toNat ([]:List ByteArray),())).bind fun y3=>if !y3.1.2 then some ((([]:List (List (Bool×List Int×List Int))),false),())else(S.s_l01Weights (y3.1.1,())).bind fun y4=>if !y4.1 then some ((([]:List (List (Bool×List Int×List Int))),false),())else if decide (((x1.2.2.2.2.2.1.length+(List.length [y3.1.1]))*(24:Nat))≤(140737488355328:Nat))then g2 (IntKind.wrap .i64 (x1.1+(1:Int)),x1.2.1,x1.2.2.1,x1.2.2.2.1,x1.2.2.2.2.1,x1.2.2.2.2.2.1++[y3.1.1],())else none else none else none else none else none else some ((x1.2.2.2.2.2.1,true),())
def P.s_l03Parse (k:Nat) (x:List (List ByteArray)×Unit):Option ((List (List (Bool×List Int×List Int))×Bool)×Unit):=
 if decide ((x.1.length:Int)<(1:Int))then some ((([]:List (List (Bool×List Int×List Int))),false),())else if decide ((x.1.length:Int)>(12:Int))then some ((([]:List (List (Bool×List Int×List Int))),false),())else loopP P.s_l03Parse_b0 k ((0:Int),(x.1.length:Int),x.1,(x.1.length:Int),([]:List (List (Bool×List Int×List Int))),([]:List (List (Bool×List Int×List Int))),())
def S.s_l03Parse (x:((List (List ByteArray))×Unit)):(Option (((List (List RB))×Bool)×Unit)):=if x.1.all okT=true then some (((chQ x.1).1.map (fun r=>r.map (rp B10)),(chQ x.1).2),())else none
theorem S.s_l03Parse_ok (x:((List (List ByteArray))×Unit)) (r:_) (h:S.s_l03Parse x=some r):∃k,P.s_l03Parse k x=some r:=by
 obtain⟨rows,u⟩:=x
 unfold S.s_l03Parse at h
 dsimp only at h
 split at h
 case isFalse=>cases h
 rename_i hc
 cases h
 refine⟨rows.length+1,?_⟩
 unfold P.s_l03Parse chQ
 dsimp only
 by_cases h1:1≤rows.length
 case neg=>
  rw[if_pos (decide_eq_true (show(rows.length:Int)<1 by omega)),decide_eq_false h1]
  rfl
 rw[if_neg (by simpa using(show ¬(rows.length:Int)<1 by omega)),decide_eq_true h1]
 by_cases h2:rows.length≤12
 case neg=>
  rw[if_pos (decide_eq_true (show(rows.length:Int)>12 by omega)),decide_eq_false h2]
  rfl
 rw[if_neg (by simpa using(show ¬(rows.length:Int)>12 by omega)),decide_eq_true h2]
 simp only[Bool.true_and]
 have key:=loop_up0 (k:=rows.length+1) (b:=P.s_l03Parse_b0) (n:=rows.length) (st:=fun i=>((i:Int),(rows.length:Int),rows,(rows.length:Int),([]:List (List (Bool×(List Int×List Int)))),(rows.take i).map (fun r=>(rdAll r).1.map (rp B10)),())) (F:=fun i=>some (if((rows.drop i).all fun r=>decide (r.length=rows.length)&&(wtAll r).2)=true then(rows.map (fun r=>(rdAll r).1.map (rp B10)),true)else([],false),())) (fun i g hi hg'=>by
  have e1:(i:Int)<(rows.length:Int):=by omega
  have e2:(0:Int)≤(i:Int):=by omega
  have hr:okT rows[i]=true:=List.all_eq_true.1 hc _ (List.getElem_mem hi)
  have e4:(((rows.take i).map (fun r=>(rdAll r).1.map (rp B10))).length+1)*24≤140737488355328:=by
   rw[List.length_map,List.length_take]
   omega
  unfold P.s_l03Parse_b0
  dsimp only at hg' ⊢
  simp only[e1,e2,decide_true,if_true]
  rw[getD_cast rows i _ hi,List.drop_eq_getElem_cons hi,List.all_cons]
  by_cases hl:rows[i].length=rows.length
  case neg=>
   rw[if_pos (by simp;omega),decide_eq_false hl,Bool.false_and,Bool.false_and,if_neg (by decide)]
  rw[if_neg (by simp;omega),decide_eq_true hl,Bool.true_and,wtAll_snd]
  have ew:S.s_l01List (rows[i],())=some (((rdAll rows[i]).1.map (rp B10),(rdAll rows[i]).2),()):=by
   unfold S.s_l01List
   exact if_pos hr
  rw[ew,Option.bind_some]
  dsimp only
  cases w1:(rdAll rows[i]).2
  ·rw[if_pos (by decide),Bool.false_and,Bool.false_and,if_neg (by decide)]
  have eW:S.s_l01Weights ((rdAll rows[i]).1.map (rp B10),())=some (isW (rdAll rows[i]).1,()):=by
   unfold S.s_l01Weights
   dsimp only
   rw[if_pos (rdAll_goodL w1),map_rv B10_le]
  rw[if_neg (by decide),eW,Option.bind_some,Bool.true_and]
  dsimp only
  cases hw:isW (rdAll rows[i]).1
  ·rw[if_pos (by decide),Bool.false_and,if_neg (by decide)]
  rw[if_neg (by decide),Bool.true_and]
  simp only[List.length_cons,List.length_nil,Nat.zero_add]
  rw[if_pos (decide_eq_true e4),wr (by omega) (by omega),←hg',List.take_add_one,List.getElem?_eq_getElem hi,Option.toList_some,List.map_append]
  rfl) (fun g=>by
  unfold P.s_l03Parse_b0
  dsimp only
  rw[if_neg (by simp),List.take_length,List.drop_length]
  rfl) (by omega)
 rw[List.drop_zero]at key
 refine Eq.trans key ?_
 by_cases ha:(rows.all fun r=>decide (r.length=rows.length)&&(wtAll r).2)=true
 ·rw[if_pos ha,if_pos ha,List.map_map]
  rfl
 ·rw[if_neg ha,if_neg ha]
  rfl
def P.s_l00In (k:Nat) (x:Int×Int×Int×Unit):Option (Bool×Unit):=
 if decide (x.1≥x.2.1)then some (decide (x.1≤x.2.2.1),())else some (false,())
def S.s_l00In (x:(Int×(Int×(Int×Unit)))):(Option (Bool×Unit)):=P.s_l00In 0 x
theorem S.s_l00In_ok (x:(Int×(Int×(Int×Unit)))) (r:_) (h:S.s_l00In x=some r):∃k,P.s_l00In k x=some r:=⟨0,h⟩
def inB (n:Int):Bool:=decide (-1000000000≤n∧n≤1000000000)
theorem inB_iff (n:Int):inB n=true↔ -1000000000≤n∧n≤1000000000:=by simp [inB]
theorem in_s (n:Int):S.s_l00In (n, -1000000000,1000000000,())=some (inB n,()):=by
 unfold S.s_l00In P.s_l00In inB
 dsimp only
 by_cases h:n≥ -1000000000
 ·rw[if_pos (by simpa using h)]
  have: -1000000000≤n:=h
  simp [this]
 ·rw[if_neg (by simpa using h)]
  have:¬ -1000000000≤n:=h
  simp [this]
def P.s_l03State (k:Nat) (x:List (List (Bool×List Int×List Int))×Int×Unit):Option (Bool×Unit):=
 (S.s_l00In (x.2.1,(0:Int),IntKind.wrap .i64 ((x.1.length:Int) - (1:Int)),())).bind fun y0=>some (y0.1,())
def S.s_l03State (x:((List (List RB))×(Int×Unit))):(Option (Bool×Unit)):=P.s_l03State 0 x
theorem S.s_l03State_ok (x:((List (List RB))×(Int×Unit))) (r:_) (h:S.s_l03State x=some r):∃k,P.s_l03State k x=some r:=⟨0,h⟩
def P.s_l00Max (k:Nat) (x:Int×Int×Unit):Option (Int×Unit):=
 if decide (x.1>x.2.1)then some (x.1,())else some (x.2.1,())
def S.s_l00Max (x:(Int×(Int×Unit))):(Option (Int×Unit)):=P.s_l00Max 0 x
theorem S.s_l00Max_ok (x:(Int×(Int×Unit))) (r:_) (h:S.s_l00Max x=some r):∃k,P.s_l00Max k x=some r:=⟨0,h⟩
abbrev P.s_l00Has_b0 (x1:Int×List Int×Int×Unit) (g2:Int×List Int×Int×Unit→Option (Bool×Unit)):Option (Bool×Unit):=
 if decide (x1.1<(x1.2.1.length:Int))then if decide ((0:Int)≤x1.1)then if decide (x1.1<(x1.2.1.length:Int))then if(x1.2.1.getD x1.1.toNat (0:Int))==x1.2.2.1 then some (true,())else g2 (IntKind.wrap .i64 (x1.1+(1:Int)),x1.2.1,x1.2.2.1,())else none else none else some (false,())
def P.s_l00Has (k:Nat) (x:List Int×Int×Unit):Option (Bool×Unit):=
 loopP P.s_l00Has_b0 k ((0:Int),x.1,x.2.1,())
def S.s_l00Has (x:((List Int)×(Int×Unit))):(Option (Bool×Unit)):=if x.1.length≤1000000 then some (decide (x.2.1∈x.1),())else none
theorem S.s_l00Has_ok (x:((List Int)×(Int×Unit))) (r:_) (h:S.s_l00Has x=some r):∃k,P.s_l00Has k x=some r:=by
 obtain⟨xs,n,u⟩:=x
 unfold S.s_l00Has at h
 dsimp only at h
 split at h
 case isFalse=>cases h
 rename_i hc
 cases h
 refine⟨xs.length+1,?_⟩
 unfold P.s_l00Has
 dsimp only
 have key:=loop_up0 (k:=xs.length+1) (b:=P.s_l00Has_b0) (n:=xs.length) (st:=fun i=>((i:Int),xs,n,())) (F:=fun i=>some (decide (n∈xs.drop i),())) (fun i g hi hg=>by
  unfold P.s_l00Has_b0
  dsimp only at hg ⊢
  have e1:(i:Int)<(xs.length:Int):=by omega
  have e2:(0:Int)≤(i:Int):=by omega
  simp only[e1,e2,decide_true,if_true]
  rw[getD_cast xs i _ hi,List.drop_eq_getElem_cons hi,wr (by omega) (by omega)]
  by_cases he:xs[i]=n
  ·rw[if_pos (by simp [he]),decide_eq_true (by rw[he];exact List.mem_cons_self ..)]
  ·rw[if_neg (by simp [he])]
   refine Eq.trans hg ?_
   congr 2
   rw[decide_eq_decide,List.mem_cons]
   exact⟨Or.inr,fun h=>h.resolve_left fun e=>he e.symm⟩) (fun g=>by
  unfold P.s_l00Has_b0
  dsimp only
  rw[if_neg (by simp),List.drop_length]
  rfl) (by omega)
 rw[List.drop_zero]at key
 exact key
abbrev P.s_l00Put_b0 (x1:Int×List Int×Bool×Int×List Int×Unit) (g2:Int×List Int×Bool×Int×List Int×Unit→Option (List Int×Unit)):Option (List Int×Unit):=
 if decide (x1.1<(x1.2.1.length:Int))then if !x1.2.2.1 then if decide ((0:Int)≤x1.1)then if decide (x1.1<(x1.2.1.length:Int))then if decide ((x1.2.1.getD x1.1.toNat (0:Int))≥x1.2.2.2.1)then if decide ((0:Int)≤x1.1)then if decide (x1.1<(x1.2.1.length:Int))then if decide ((x1.2.1.getD x1.1.toNat (0:Int))>x1.2.2.2.1)then if decide (((x1.2.2.2.2.1.length+(List.length [x1.2.2.2.1]))*(8:Nat))≤(140737488355328:Nat))then if decide ((0:Int)≤x1.1)then if decide (x1.1<(x1.2.1.length:Int))then if decide ((((List.length (x1.2.2.2.2.1++[x1.2.2.2.1]))+(List.length [x1.2.1.getD x1.1.toNat (0:Int)]))*(8:Nat))≤(140737488355328:Nat))then g2 (IntKind.wrap .i64 (x1.1+(1:Int)),x1.2.1,true,x1.2.2.2.1,(x1.2.2.2.2.1++[x1.2.2.2.1])++[x1.2.1.getD x1.1.toNat (0:Int)],())else none else none else none else none else if decide ((0:Int)≤x1.1)then if decide (x1.1<(x1.2.1.length:Int))then if decide (((x1.2.2.2.2.1.length+(List.length [x1.2.1.getD x1.1.toNat (0:Int)]))*(8:Nat))≤(140737488355328:Nat))then g2 (IntKind.wrap .i64 (x1.1+(1:Int)),x1.2.1,true,x1.2.2.2.1,x1.2.2.2.2.1++[x1.2.1.getD x1.1.toNat (0:Int)],())else none else none else none else none else none else if decide ((0:Int)≤x1.1)then if decide (x1.1<(x1.2.1.length:Int))then if decide (((x1.2.2.2.2.1.length+(List.length [x1.2.1.getD x1.1.toNat (0:Int)]))*(8:Nat))≤(140737488355328:Nat))then g2 (IntKind.wrap .i64 (x1.1+(1:Int)),x1.2.1,x1.2.2.1,x1.2.2.2.1,x1.2.2.2.2.1++[x1.2.1.getD x1.1.toNat (0:Int)],())else none else none else none else none else none else if decide ((0:Int)≤x1.1)then if decide (x1.1<(x1.2.1.length:Int))then if decide (((x1.2.2.2.2.1.length+(List.length [x1.2.1.getD x1.1.toNat (0:Int)]))*(8:Nat))≤(140737488355328:Nat))then g2 (IntKind.wrap .i64 (x1.1+(1:Int)),x1.2.1,x1.2.2.1,x1.2.2.2.1,x1.2.2.2.2.1++[x1.2.1.getD x1.1.toNat (0:Int)],())else none else none else none else if !x1.2.2.1 then if decide (((x1.2.2.2.2.1.length+(List.length [x1.2.2.2.1]))*(8:Nat))≤(140737488355328:Nat))then some (x1.2.2.2.2.1++[x1.2.2.2.1],())else none else some (x1.2.2.2.2.1,())
def P.s_l00Put (k:Nat) (x:List Int×Int×Unit):Option (List Int×Unit):=
 loopP P.s_l00Put_b0 k ((0:Int),x.1,false,x.2.1,([]:List Int),())
theorem putL_len (n:Int):∀xs:List Int,(putL xs n).length≤xs.length+1
 | []=>Nat.le_refl _
 |x::xs=>by
  have:=putL_len n xs
  unfold putL
  split
  ·split<;>simp
  ·simp;omega
def S.s_l00Put (x:((List Int)×(Int×Unit))):(Option ((List Int)×Unit)):=if x.1.length≤1000000 then some (putL x.1 x.2.1,())else none
theorem S.s_l00Put_ok (x:((List Int)×(Int×Unit))) (r:_) (h:S.s_l00Put x=some r):∃k,P.s_l00Put k x=some r:=by
 obtain⟨xs,n,u⟩:=x
 unfold S.s_l00Put at h
 dsimp only at h
 split at h
 case isFalse=>cases h
 rename_i hc
 cases h
 refine⟨xs.length+1,?_⟩
 unfold P.s_l00Put
 dsimp only
 have all:∀m i k out,i+m=xs.length→m<k→out.length≤i+1→loopP P.s_l00Put_b0 k ((i:Int),xs,true,n,out,())=some (out++xs.drop i,()):=by
  intro m
  induction m with
  |zero=>
   intro i k out hi hk _
   cases k with
   |zero=>omega
   |succ k=>
    rw[loopP_succ]
    unfold P.s_l00Put_b0
    dsimp only
    rw[if_neg (by simp;omega),List.drop_of_length_le (by omega),List.append_nil]
    rfl
  |succ m ih=>
   intro i k out hi hk ho
   cases k with
   |zero=>omega
   |succ k=>
    have hi':i<xs.length:=by omega
    have e1:(i:Int)<(xs.length:Int):=by omega
    have e2:(0:Int)≤(i:Int):=by omega
    have e3:(out.length+1)*8≤140737488355328:=by omega
    have:=ih (i+1) k (out++[xs[i]]) (by omega) (by omega) (by simp;omega)
    rw[loopP_succ]
    generalize loopP P.s_l00Put_b0 k=G at this ⊢
    unfold P.s_l00Put_b0
    dsimp only
    simp only[e1,e2,e3,decide_true,if_true,Bool.not_true,Bool.false_eq_true,if_false,List.length_cons,List.length_nil,Nat.zero_add]
    rw[getD_cast xs i _ hi',wr (by omega) (by omega)]
    rw[List.drop_eq_getElem_cons hi']
    rw[List.append_assoc]at this
    exact this
 have key:∀m i k,i+m=xs.length→m<k→loopP P.s_l00Put_b0 k ((i:Int),xs,false,n,xs.take i,())=some (xs.take i++putL (xs.drop i) n,()):=by
  intro m
  induction m with
  |zero=>
   intro i k hi hk
   cases k with
   |zero=>omega
   |succ k=>
    have e3:((xs.take i).length+1)*8≤140737488355328:=by rw[List.length_take];omega
    rw[loopP_succ]
    unfold P.s_l00Put_b0
    dsimp only
    rw[if_neg (by simp;omega),if_pos (show(!false)=true from rfl),List.drop_of_length_le (by omega)]
    simp only[List.length_cons,List.length_nil,Nat.zero_add,e3,decide_true,if_true]
    rfl
  |succ m ih=>
   intro i k hi hk
   cases k with
   |zero=>omega
   |succ k=>
    have hi':i<xs.length:=by omega
    have e1:(i:Int)<(xs.length:Int):=by omega
    have e2:(0:Int)≤(i:Int):=by omega
    have hl:(xs.take i).length=i:=by rw[List.length_take];omega
    have e3:(i+1)*8≤140737488355328:=by omega
    have e4:(i+1+1)*8≤140737488355328:=by omega
    have t1:=all m (i+1) k ((xs.take i++[n])++[xs[i]]) (by omega) (by omega) (by simp;omega)
    have t2:=all m (i+1) k (xs.take i++[xs[i]]) (by omega) (by omega) (by simp;omega)
    have t3:=ih (i+1) k (by omega) (by omega)
    rw[loopP_succ]
    generalize loopP P.s_l00Put_b0 k=G at t1 t2 t3 ⊢
    unfold P.s_l00Put_b0
    dsimp only
    simp only[e1,e2,e3,e4,hl,decide_true,if_true,Bool.not_false,List.length_append,List.length_cons,List.length_nil,Nat.zero_add]
    rw[getD_cast xs i _ hi',wr (by omega) (by omega),List.drop_eq_getElem_cons hi',putL]
    by_cases h1:n≤xs[i]
    ·rw[if_pos (decide_eq_true h1),if_pos h1]
     by_cases h2:n<xs[i]
     ·rw[if_pos (decide_eq_true h2),if_pos h2]
      refine Eq.trans t1 ?_
      simp
     ·rw[if_neg (by simpa using h2),if_neg h2]
      refine Eq.trans t2 ?_
      simp
    ·rw[if_neg (by simpa using h1),if_neg h1]
     rw[←List.take_append_getElem hi',List.append_assoc]at t3
     exact t3
 have:=key xs.length 0 (xs.length+1) (by omega) (by omega)
 simpa using this
def P.s_l01Zero (k:Nat) (x:(Bool×List Int×List Int)×Unit):Option (Bool×Unit):=
 some ((x.1.2.1.length:Int)==(0:Int),())
def S.s_l01Zero (x:(RB×Unit)):(Option (Bool×Unit)):=P.s_l01Zero 0 x
theorem S.s_l01Zero_ok (x:(RB×Unit)) (r:_) (h:S.s_l01Zero x=some r):∃k,P.s_l01Zero k x=some r:=⟨0,h⟩
abbrev P.s_l03Reach_b3 (g2:Int×List Int×List (List (Bool×List Int×List Int))×List Int×Unit→Option (List Int×Unit)) (x4:Int×Int×List (List (Bool×List Int×List Int))×List Int×Int×List Int×Unit) (g5:Int×Int×List (List (Bool×List Int×List Int))×List Int×Int×List Int×Unit→Option (List Int×Unit)):Option (List Int×Unit):=
 if decide (x4.1<x4.2.1)then if decide ((0:Int)≤x4.2.2.2.2.1)then if decide (x4.2.2.2.2.1<(x4.2.2.2.1.length:Int))then if decide ((0:Int)≤(x4.2.2.2.1.getD ((0:Nat)+x4.2.2.2.2.1.toNat) (0:Int)))then if decide ((x4.2.2.2.1.getD ((0:Nat)+x4.2.2.2.2.1.toNat) (0:Int))<(x4.2.2.1.length:Int))then if decide ((0:Int)≤x4.1)then if decide (x4.1<(List.length (x4.2.2.1.getD (Int.toNat (x4.2.2.2.1.getD ((0:Nat)+x4.2.2.2.2.1.toNat) (0:Int))) ([]:List (Bool×List Int×List Int))):Int))then(S.s_l01Zero (((List.getD (x4.2.2.1.getD (Int.toNat (x4.2.2.2.1.getD ((0:Nat)+x4.2.2.2.2.1.toNat) (0:Int))) ([]:List (Bool×List Int×List Int))) x4.1.toNat (false,([]:List Int),([]:List Int))).1,(List.getD (x4.2.2.1.getD (Int.toNat (x4.2.2.2.1.getD ((0:Nat)+x4.2.2.2.2.1.toNat) (0:Int))) ([]:List (Bool×List Int×List Int))) x4.1.toNat (false,([]:List Int),([]:List Int))).2.1,(List.getD (x4.2.2.1.getD (Int.toNat (x4.2.2.2.1.getD ((0:Nat)+x4.2.2.2.2.1.toNat) (0:Int))) ([]:List (Bool×List Int×List Int))) x4.1.toNat (false,([]:List Int),([]:List Int))).2.2),())).bind fun y6=>if !y6.1 then(S.s_l00Has (x4.2.2.2.2.2.1,x4.1,())).bind fun y7=>if !y7.1 then(S.s_l00Put (x4.2.2.2.2.2.1,x4.1,())).bind fun y8=>if decide (((x4.2.2.2.1.length+(List.length [x4.1]))*(8:Nat))≤(140737488355328:Nat))then g5 (IntKind.wrap .i64 (x4.1+(1:Int)),x4.2.1,x4.2.2.1,x4.2.2.2.1++[x4.1],x4.2.2.2.2.1,y8.1,())else none else g5 (IntKind.wrap .i64 (x4.1+(1:Int)),x4.2.1,x4.2.2.1,x4.2.2.2.1,x4.2.2.2.2.1,x4.2.2.2.2.2.1,())else g5 (IntKind.wrap .i64 (x4.1+(1:Int)),x4.2.1,x4.2.2.1,x4.2.2.2.1,x4.2.2.2.2.1,x4.2.2.2.2.2.1,())else none else none else none else none else none else none else g2 (IntKind.wrap .i64 (x4.2.2.2.2.1+(1:Int)),x4.2.2.2.1,x4.2.2.1,x4.2.2.2.2.2.1,())
abbrev P.s_l03Reach_b0 (k:Nat) (x1:Int×List Int×List (List (Bool×List Int×List Int))×List Int×Unit) (g2:Int×List Int×List (List (Bool×List Int×List Int))×List Int×Unit→Option (List Int×Unit)):Option (List Int×Unit):=
 if decide (x1.1<(x1.2.1.length:Int))then loopP (P.s_l03Reach_b3 g2) k ((0:Int),(x1.2.2.1.length:Int),x1.2.2.1,x1.2.1,x1.1,x1.2.2.2.1,())else some (x1.2.2.2.1,())
def P.s_l03Reach (k:Nat) (x:List (List (Bool×List Int×List Int))×Int×Unit):Option (List Int×Unit):=
 loopP (P.s_l03Reach_b0 k) k ((0:Int),[x.2.1],x.1,[x.2.1],())
theorem zero_rp (q:Q3):S.s_l01Zero (((rp B10 q).1,(rp B10 q).2.1,(rp B10 q).2.2),())=some (decide (q.2.1=0),()):=by
 unfold S.s_l01Zero P.s_l01Zero rp
 dsimp only
 congr 2
 rw[Bool.eq_iff_iff,beq_iff_eq,decide_eq_true_iff,←nd_zero_iff (B:=B10) (by decide),←List.length_eq_zero_iff]
 omega
theorem reS_inner {M:List (List Q3)} (hM:isM M) {i:Nat} (hi:i<M.length) (pre:List Nat) {sn:List Bool} {td:List Nat} (hb:Bok M.length (sn,td)) (hm:pre.length+td.length+sn.count false≤1000000)
  (g:((Int×((List Int)×((List (List RB))×((List Int)×Unit))))→(Option ((List Int)×Unit)))) {K:Nat} (hK:M.length<K):
  loopP (P.s_l03Reach_b3 g) K ((0:Int),(M.length:Int),mp B10 M,zs (pre++i::td),(pre.length:Int),posF 0 sn,())=g (((pre.length+1:Nat):Int),zs (pre++i::(scanB (adj M i) M.length (sn,td)).2),mp B10 M,posF 0 (scanB (adj M i) M.length (sn,td)).1,()):=by
 have hrow:=isM_row hM hi
 have hn:=hM.1
 have key:=loop_up0 (k:=K) (b:=P.s_l03Reach_b3 g) (n:=M.length) (st:=fun j=>((j:Int),(M.length:Int),mp B10 M,zs (pre++i::((List.range j).foldl (stepB (adj M i)) (sn,td)).2),(pre.length:Int),posF 0 ((List.range j).foldl (stepB (adj M i)) (sn,td)).1,())) (F:=fun _=>g (((pre.length+1:Nat):Int),zs (pre++i::(scanB (adj M i) M.length (sn,td)).2),mp B10 M,posF 0 (scanB (adj M i) M.length (sn,td)).1,())) (fun j g' hj hg=>by
  unfold P.s_l03Reach_b3
  dsimp only at hg ⊢
  obtain⟨b1,b2⟩:=foldB_ok (a:=adj M i) hb j (by omega)
  rw[fold_succ]at hg
  generalize (List.range j).foldl (stepB (adj M i)) (sn,td)=s at b1 b2 hg ⊢
  have b3:s.2.length≤td.length+sn.count false:=by
   dsimp only at b2
   omega
  have e0:(zs (pre++i::s.2)).length=pre.length+s.2.length+1:=by simp [zs];omega
  have e1:(j:Int)<(M.length:Int):=by omega
  have e2:(0:Int)≤(j:Int):=by omega
  have e3:(zs (pre++i::s.2)).getD (0+Int.toNat (pre.length:Int)) 0=(i:Int):=by
   rw[getD_zs,Nat.zero_add,Int.toNat_natCast,List.getD_eq_getElem?_getD,List.getElem?_append_right (Nat.le_refl _)]
   simp
  have e4:(0:Int)≤(pre.length:Int):=by omega
  have e5:(pre.length:Int)<((pre.length+s.2.length+1:Nat):Int):=by omega
  have e6:(0:Int)≤(i:Int):=by omega
  have e7:(i:Int)<((mp B10 M).length:Int):=by rw[mp_len];omega
  have e8:(pre.length+s.2.length+1+1)*8≤140737488355328:=by omega
  have e9:(((M.getD i []).map (rp B10)).length:Int)=(M.length:Int):=by rw[List.length_map,hrow.1]
  have pl:=posF_len 0 s.1
  have bl:s.1.length=M.length:=b1.len
  have eh:S.s_l00Has (posF 0 s.1,(j:Int),())=some (s.1.getD j false,()):=by
   unfold S.s_l00Has
   dsimp only
   have:=posF_mem 0 s.1 j
   rw[Int.zero_add]at this
   rw[if_pos (by omega),this]
  have ep:S.s_l00Put (posF 0 s.1,(j:Int),())=some (posF 0 (s.1.set j true),()):=by
   unfold S.s_l00Put
   dsimp only
   have:=posF_put 0 s.1 j (by omega)
   rw[Int.zero_add]at this
   rw[if_pos (by omega),this]
  rw[e0,e3,Int.toNat_natCast,mp_at hi,Int.toNat_natCast,getD_rp B10 (by rw[hrow.1];exact hj),zero_rp,Option.bind_some]
  simp only[e1,e2,e4,e5,e6,e7,e8,e9,decide_true,if_true,List.length_cons,List.length_nil,Nat.zero_add]
  rw[eh,ep,wr (by omega) (by omega)]
  simp only[Option.bind_some]
  have ha':(!decide (((M.getD i []).getD j zeroQ).2.1=0))=adj M i j:=by
   unfold adj
   simp
  rw[ha']
  unfold stepB at hg
  cases ha:adj M i j
  ·rw[ha,if_neg (by simp)]at hg
   rw[if_neg (by decide)]
   exact hg
  ·rw[if_pos rfl]
   cases hs:s.1.getD j false
   ·rw[ha,hs,if_pos ⟨rfl,rfl⟩]at hg
    rw[if_pos (by decide),←hg]
    simp [zs]
   ·rw[ha,hs,if_neg (by simp)]at hg
    rw[if_neg (by decide)]
    exact hg) (fun g'=>by
  unfold P.s_l03Reach_b3
  dsimp only
  rw[if_neg (by simp),wr (by omega) (by omega)]
  rfl) hK
 exact key
theorem reS_outer {M:List (List Q3)} (hM:isM M) {K:Nat} (hK:M.length<K):∀(f k:Nat) (pre:List Nat) (sn:List Bool) (td:List Nat),Bok M.length (sn,td)→td.length+sn.count false≤f→f<k→pre.length+f≤1000000→loopP (P.s_l03Reach_b0 K) k ((pre.length:Int),zs (pre++td),mp B10 M,posF 0 sn,())=some (posF 0 (bfs (adj M) M.length f sn td),()):=by
 intro f
 induction f with
 |zero=>
  intro k pre sn td hb hm hk hf
  cases k with
  |zero=>omega
  |succ k=>
   have:td=[]:=List.eq_nil_of_length_eq_zero (by omega)
   subst this
   rw[loopP_succ]
   unfold P.s_l03Reach_b0
   dsimp only
   rw[if_neg (by simp [zs])]
   rfl
 |succ f ih=>
  intro k pre sn td hb hm hk hf
  cases k with
  |zero=>omega
  |succ k=>
   rw[loopP_succ]
   cases td with
   |nil=>
    unfold P.s_l03Reach_b0
    dsimp only
    rw[if_neg (by simp [zs])]
    rfl
   |cons i r=>
    have hi:i<M.length:=hb.lt i (List.mem_cons_self ..)
    have hb':Bok M.length (sn,r):=⟨hb.len,fun t ht=>hb.lt t (List.mem_cons_of_mem _ ht)⟩
    have hm':r.length+sn.count false≤f:=by
     rw[List.length_cons]at hm
     omega
    unfold P.s_l03Reach_b0
    dsimp only
    rw[if_pos (decide_eq_true (by simp [zs];omega)),mp_len,reS_inner hM hi pre hb' (by omega) _ hK,bfs]
    obtain⟨c1,c2⟩:=foldB_ok (a:=adj M i) hb' M.length (Nat.le_refl _)
    have:=ih k (pre++[i]) _ _ c1 (by
     have:(scanB (adj M i) M.length (sn,r)).2.length+(scanB (adj M i) M.length (sn,r)).1.count false=r.length+sn.count false:=c2
     exact Nat.le_trans (Nat.le_of_eq this) hm') (by omega) (by simp;omega)
    rw[List.append_assoc,List.length_append]at this
    exact this
open Classical in
def S.s_l03Reach (x:((List (List RB))×(Int×Unit))):(Option ((List Int)×Unit)):=if(∃M,isM M∧x.1=mp B10 M)∧0≤x.2.1∧x.2.1<(x.1.length:Int)then some (posF 0 (reachB (adj (mv B10 x.1)) x.1.length x.2.1.toNat),())else none
theorem S.s_l03Reach_ok (x:((List (List RB))×(Int×Unit))) (r:_) (h:S.s_l03Reach x=some r):∃k,P.s_l03Reach k x=some r:=by
 obtain⟨m,s,u⟩:=x
 unfold S.s_l03Reach at h
 dsimp only at h
 split at h
 case isFalse=>cases h
 rename_i hc
 obtain⟨⟨M,hM,rfl⟩,h0,h1⟩:=hc
 cases h
 obtain⟨s,rfl⟩:=Int.eq_ofNat_of_zero_le h0
 rw[mv_mp (by decide),mp_len]at*
 have hs:s<M.length:=by omega
 have hn:=hM.1
 refine⟨M.length+1,?_⟩
 unfold P.s_l03Reach
 dsimp only
 obtain⟨c1,c2⟩:=start_ok hs
 have:=reS_outer hM (K:=M.length+1) (by omega) M.length (M.length+1) [] _ [s] c1 (by omega) (by omega) (by simp;omega)
 rw[posF_start hs]at this
 exact this
abbrev P.s_l03Classes_b7 (g5:Int×Int×List Int×List (List (Bool×List Int×List Int))×Int×List Int×Unit→Option ((List Int×List Int)×Unit)) (x8:Int×Int×List (List (Bool×List Int×List Int))×List Int×Int×List Int×Int×Bool×List Int×Int×Int×Unit) (g9:Int×Int×List (List (Bool×List Int×List Int))×List Int×Int×List Int×Int×Bool×List Int×Int×Int×Unit→Option ((List Int×List Int)×Unit)):Option ((List Int×List Int)×Unit):=
 if decide (x8.1<x8.2.1)then if decide ((0:Int)≤x8.1)then if decide (x8.1<(x8.2.2.2.1.length:Int))then(S.s_l03Reach (x8.2.2.1,x8.2.2.2.1.getD x8.1.toNat (0:Int),())).bind fun y10=>(S.s_l00Has (y10.1,x8.2.2.2.2.1,())).bind fun y11=>if y11.1 then if decide ((0:Int)≤x8.1)then if decide (x8.1<(x8.2.2.2.1.length:Int))then if decide ((0:Int)≤(x8.2.2.2.1.getD x8.1.toNat (0:Int)))then if decide ((x8.2.2.2.1.getD x8.1.toNat (0:Int))<(x8.2.2.2.2.2.1.length:Int))then g9 (IntKind.wrap .i64 (x8.1+(1:Int)),x8.2.1,x8.2.2.1,x8.2.2.2.1,x8.2.2.2.2.1,x8.2.2.2.2.2.1.set ((0:Nat)+(Int.toNat (x8.2.2.2.1.getD x8.1.toNat (0:Int)))) x8.2.2.2.2.2.2.1,x8.2.2.2.2.2.2.1,x8.2.2.2.2.2.2.2.1,x8.2.2.2.2.2.2.2.2.1,x8.2.2.2.2.2.2.2.2.2.1,x8.2.2.2.2.2.2.2.2.2.2.1,())else none else none else none else none else g9 (IntKind.wrap .i64 (x8.1+(1:Int)),x8.2.1,x8.2.2.1,x8.2.2.2.1,x8.2.2.2.2.1,x8.2.2.2.2.2.1,x8.2.2.2.2.2.2.1,false,x8.2.2.2.2.2.2.2.2.1,x8.2.2.2.2.2.2.2.2.2.1,x8.2.2.2.2.2.2.2.2.2.2.1,())else none else none else if x8.2.2.2.2.2.2.2.1 then if decide (((x8.2.2.2.2.2.2.2.2.1.length+(List.length [x8.2.2.2.2.2.2.1]))*(8:Nat))≤(140737488355328:Nat))then g5 (IntKind.wrap .i64 (x8.2.2.2.2.2.2.2.2.2.1+(1:Int)),x8.2.2.2.2.2.2.2.2.2.2.1,x8.2.2.2.2.2.1,x8.2.2.1,IntKind.wrap .i64 (x8.2.2.2.2.2.2.1+(1:Int)),x8.2.2.2.2.2.2.2.2.1++[x8.2.2.2.2.2.2.1],())else none else g5 (IntKind.wrap .i64 (x8.2.2.2.2.2.2.2.2.2.1+(1:Int)),x8.2.2.2.2.2.2.2.2.2.2.1,x8.2.2.2.2.2.1,x8.2.2.1,IntKind.wrap .i64 (x8.2.2.2.2.2.2.1+(1:Int)),x8.2.2.2.2.2.2.2.2.1,())
abbrev P.s_l03Classes_b3 (k:Nat) (x4:Int×Int×List Int×List (List (Bool×List Int×List Int))×Int×List Int×Unit) (g5:Int×Int×List Int×List (List (Bool×List Int×List Int))×Int×List Int×Unit→Option ((List Int×List Int)×Unit)):Option ((List Int×List Int)×Unit):=
 if decide (x4.1<x4.2.1)then if decide ((0:Int)≤x4.1)then if decide (x4.1<(x4.2.2.1.length:Int))then if decide ((x4.2.2.1.getD ((0:Nat)+x4.1.toNat) (0:Int))≥(0:Int))then g5 (IntKind.wrap .i64 (x4.1+(1:Int)),x4.2.1,x4.2.2.1,x4.2.2.2.1,x4.2.2.2.2.1,x4.2.2.2.2.2.1,())else(S.s_l03Reach (x4.2.2.2.1,x4.1,())).bind fun y6=>loopP (P.s_l03Classes_b7 g5) k ((0:Int),(y6.1.length:Int),x4.2.2.2.1,y6.1,x4.1,x4.2.2.1,x4.2.2.2.2.1,true,x4.2.2.2.2.2.1,x4.1,x4.2.1,())else none else none else some ((x4.2.2.1,x4.2.2.2.2.2.1),())
abbrev P.s_l03Classes_b0 (k:Nat) (x1:Int×Int×List Int×List (List (Bool×List Int×List Int))×Unit) (g2:Int×Int×List Int×List (List (Bool×List Int×List Int))×Unit→Option ((List Int×List Int)×Unit)):Option ((List Int×List Int)×Unit):=
 if decide (x1.1<x1.2.1)then if decide ((0:Int)≤x1.1)then if decide (x1.1<(x1.2.2.1.length:Int))then g2 (IntKind.wrap .i64 (x1.1+(1:Int)),x1.2.1,x1.2.2.1.set ((0:Nat)+x1.1.toNat) (-1:Int),x1.2.2.2.1,())else none else none else loopP (P.s_l03Classes_b3 k) k ((0:Int),(x1.2.2.1.length:Int),x1.2.2.1,x1.2.2.2.1,(0:Int),([]:List Int),())
def P.s_l03Classes (k:Nat) (x:List (List (Bool×List Int×List Int))×Unit):Option ((List Int×List Int)×Unit):=
 if decide ((0:Int)≤(x.1.length:Int))then if decide ((x.1.length:Int)≤(x.1.length:Int))then if decide (((x.1.length:Int)*(8:Int))≤(281474976710656:Int))then loopP (P.s_l03Classes_b0 k) k ((0:Int),(List.length (List.replicate (Int.toNat (x.1.length:Int)) (0:Int)):Int),List.replicate (Int.toNat (x.1.length:Int)) (0:Int),x.1,())else none else none else none
theorem reach_s {M:List (List Q3)} (hM:isM M) {i:Nat} (hi:i<M.length):S.s_l03Reach (mp B10 M,(i:Int),())=some (posF 0 (reachB (adj M) M.length i),()):=by
 unfold S.s_l03Reach
 dsimp only
 rw[if_pos ⟨⟨M,hM,rfl⟩,by omega,by rw[mp_len];omega⟩,mv_mp (by decide),mp_len,Int.toNat_natCast]
theorem has_s {M:List (List Q3)} {i j:Nat} (hi:i<M.length) (hn:M.length≤12):S.s_l00Has (posF 0 (reachB (adj M) M.length i),(j:Int),())=some (rcB M i j,()):=by
 unfold S.s_l00Has rcB
 dsimp only
 have h1:=posF_len 0 (reachB (adj M) M.length i)
 rw[reachB_len hi]at h1
 have h2:=posF_mem 0 (reachB (adj M) M.length i) j
 rw[Int.zero_add]at h2
 rw[if_pos (by omega),h2]
theorem reach_fl {M:List (List Q3)} {i:Nat} (hi:i<M.length):posF 0 (reachB (adj M) M.length i)=zs (fl (rcB M i) M.length):=by
 have:=posF_fl 0 (reachB (adj M) M.length i)
 rw[reachB_len hi]at this
 exact this
def upC (n:Nat) (f:Nat→Int) (c d:Nat→Bool) (k:Int) (a:Nat):List Int:=tab n fun v=>if(c v&&d v)=true∧ix c v<a then k else f v
theorem scl_inner {M:List (List Q3)} (hM:isM M) {i:Nat} (hi:i<M.length) (f:Nat→Int) (cl:List Bool) (hcl:cl.length≤12)
  (g:((Int×(Int×((List Int)×((List (List RB))×(Int×((List Int)×Unit))))))→(Option (((List Int)×(List Int))×Unit)))) {K:Nat} (hK:M.length<K):
  loopP (P.s_l03Classes_b7 g) K ((0:Int),((posF 0 (reachB (adj M) M.length i)).length:Int),mp B10 M,posF 0 (reachB (adj M) M.length i),(i:Int),tab M.length f,(cl.length:Int),true,posF 0 cl,(i:Int),(M.length:Int),())=g (((i+1:Nat):Int),(M.length:Int),tab M.length (fun j=>if(rcB M i j&&rcB M j i)=true then(cl.length:Int)else f j),mp B10 M,((cl.length+1:Nat):Int),posF 0 (cl++[(List.range M.length).all fun j=> !rcB M i j||rcB M j i]),()):=by
 have hn:=hM.1
 have hL:=reach_fl (M:=M) hi
 have hl:(fl (rcB M i) M.length).length≤M.length:=by
  have:=List.length_filter_le (rcB M i) (List.range M.length)
  rw[List.length_range]at this
  exact this
 rw[hL,zs_len]
 have key:=loop_up0 (k:=K) (b:=P.s_l03Classes_b7 g) (n:=(fl (rcB M i) M.length).length) (st:=fun a=>((a:Int),((fl (rcB M i) M.length).length:Int),mp B10 M,zs (fl (rcB M i) M.length),(i:Int),upC M.length f (rcB M i) (fun j=>rcB M j i) (cl.length:Int) a,(cl.length:Int),(List.range a).all (fun b=>rcB M ((fl (rcB M i) M.length).getD b 0) i),posF 0 cl,(i:Int),(M.length:Int),())) (F:=fun _=>g (((i+1:Nat):Int),(M.length:Int),tab M.length (fun j=>if(rcB M i j&&rcB M j i)=true then(cl.length:Int)else f j),mp B10 M,((cl.length+1:Nat):Int),posF 0 (cl++[(List.range M.length).all fun j=> !rcB M i j||rcB M j i]),())) (fun a g' ha hg=>by
  unfold P.s_l03Classes_b7
  dsimp only at hg ⊢
  obtain⟨f1,f2⟩:=fl_at ha
  have f3:=ix_fl ha
  have e1:(a:Int)<((fl (rcB M i) M.length).length:Int):=by omega
  have e2:(0:Int)≤(a:Int):=by omega
  have e3:(zs (fl (rcB M i) M.length)).getD a 0=(((fl (rcB M i) M.length).getD a 0:Nat):Int):=getD_zs _ _
  rw[zs_len,Int.toNat_natCast,e3]
  generalize hv:(fl (rcB M i) M.length).getD a 0=v at*
  rw[reach_s hM f1,Option.bind_some]
  dsimp only
  rw[has_s f1 hn,Option.bind_some]
  have e4:(0:Int)≤(v:Int):=by omega
  have e5:(v:Int)<(M.length:Int):=by omega
  have e6:(upC M.length f (rcB M i) (fun j=>rcB M j i) (cl.length:Int) a).length=M.length:=tab_len _ _
  simp only[e1,e2,e4,e5,e6,decide_true,if_true,Int.toNat_natCast,Nat.zero_add]
  rw[wr (by omega) (by omega)]
  rw[all_succ,hv]at hg
  cases hr:rcB M v i
  ·have:upC M.length f (rcB M i) (fun j=>rcB M j i) (cl.length:Int) (a+1)=upC M.length f (rcB M i) (fun j=>rcB M j i) (cl.length:Int) a:=by
    unfold upC
    apply tab_congr
    intro w hw
    by_cases q:(rcB M i w&&rcB M w i)=true
    ·rw[Bool.and_eq_true]at q
     have hne:ix (rcB M i) w≠a:=fun e=>by
      have:=(fl_ix hw q.1).2
      rw[e,hv]at this
      rw[←this,hr]at q
      cases q.2
     by_cases hlt:ix (rcB M i) w<a
     ·rw[if_pos ⟨by rw[Bool.and_eq_true];exact q,by omega⟩,if_pos ⟨by rw[Bool.and_eq_true];exact q,hlt⟩]
     ·rw[if_neg (fun r=>by omega),if_neg (fun r=>hlt r.2)]
    ·rw[if_neg (fun r=>q r.1),if_neg (fun r=>q r.1)]
   rw[this,hr,Bool.and_false]at hg
   rw[if_neg (by decide)]
   exact hg
  ·have:(upC M.length f (rcB M i) (fun j=>rcB M j i) (cl.length:Int) a).set v (cl.length:Int)=upC M.length f (rcB M i) (fun j=>rcB M j i) (cl.length:Int) (a+1):=by
    unfold upC
    rw[tab_set]
    apply tab_congr
    intro w hw
    by_cases e:w=v
    ·subst e
     rw[if_pos rfl,if_pos ⟨by dsimp only;rw[f2,hr];rfl,by omega⟩]
    ·rw[if_neg e]
     by_cases q:(rcB M i w&&rcB M w i)=true
     ·have hne:ix (rcB M i) w≠a:=fun e'=>by
       rw[Bool.and_eq_true]at q
       have:=(fl_ix hw q.1).2
       rw[e',hv]at this
       exact e this.symm
      by_cases hlt:ix (rcB M i) w<a
      ·rw[if_pos ⟨q,hlt⟩,if_pos ⟨q,by omega⟩]
      ·rw[if_neg (fun r=>hlt r.2),if_neg (fun r=>by omega)]
     ·rw[if_neg (fun r=>q r.1),if_neg (fun r=>q r.1)]
   rw[hr,Bool.and_true]at hg
   rw[if_pos rfl,this]
   exact hg) (fun g'=>by
  unfold P.s_l03Classes_b7
  dsimp only
  have hpl:=posF_len 0 cl
  have e1:((posF 0 cl).length+1)*8≤140737488355328:=by omega
  have e2:upC M.length f (rcB M i) (fun j=>rcB M j i) (cl.length:Int) (fl (rcB M i) M.length).length=tab M.length fun j=>if(rcB M i j&&rcB M j i)=true then(cl.length:Int)else f j:=by
   unfold upC
   apply tab_congr
   intro w hw
   by_cases q:(rcB M i w&&rcB M w i)=true
   ·rw[if_pos ⟨q,(fl_ix hw (by rw[Bool.and_eq_true]at q;exact q.1)).1⟩,if_pos q]
   ·rw[if_neg (fun r=>q r.1),if_neg q]
  have e3:(List.range (fl (rcB M i) M.length).length).all (fun b=>rcB M ((fl (rcB M i) M.length).getD b 0) i)=(List.range M.length).all fun j=> !rcB M i j||rcB M j i:=by
   rw[Bool.eq_iff_iff,List.all_eq_true,List.all_eq_true]
   constructor
   ·intro h j hj
    have hj':=List.mem_range.1 hj
    cases hc:rcB M i j
    ·rfl
    ·obtain⟨q1,q2⟩:=fl_ix hj' hc
     have:=h _ (List.mem_range.2 q1)
     rw[q2]at this
     rw[this]
     rfl
   ·intro h b hb
    obtain⟨q1,q2⟩:=fl_at (List.mem_range.1 hb)
    have:=h _ (List.mem_range.2 q1)
    rw[q2]at this
    simpa using this
  rw[if_neg (by simp),e2,e3,posF_snoc,Int.zero_add]
  cases(List.range M.length).all fun j=> !rcB M i j||rcB M j i
  ·rw[if_neg (by decide),if_neg (by decide),List.append_nil,wr (by omega) (by omega),wr (by omega) (by omega)]
   rfl
  ·simp only[if_true,List.length_cons,List.length_nil,Nat.zero_add,e1,decide_true]
   rw[wr (by omega) (by omega),wr (by omega) (by omega)]
   rfl) (show(fl (rcB M i) M.length).length<K by omega)
 refine Eq.trans ?_ key
 have:upC M.length f (rcB M i) (fun j=>rcB M j i) (cl.length:Int) 0=tab M.length f:=by
  unfold upC
  apply tab_congr
  intro w hw
  rw[if_neg (fun r=>by omega)]
 rw[this]
 rfl
open Classical in
def S.s_l03Classes (x:((List (List RB))×Unit)):(Option (((List Int)×(List Int))×Unit)):=if ∃M,isM M∧x.1=mp B10 M then some (((clsM (mv B10 x.1)).1,posF 0 (clsM (mv B10 x.1)).2),())else none
theorem S.s_l03Classes_ok (x:((List (List RB))×Unit)) (r:_) (h:S.s_l03Classes x=some r):∃k,P.s_l03Classes k x=some r:=by
 obtain⟨m,u⟩:=x
 unfold S.s_l03Classes at h
 dsimp only at h
 split at h
 case isFalse=>cases h
 rename_i hc
 obtain⟨M,hM,rfl⟩:=hc
 cases h
 rw[mv_mp (by decide)]
 have hn:=hM.1
 refine⟨M.length+1,?_⟩
 unfold P.s_l03Classes
 dsimp only
 have a1:(0:Int)≤(M.length:Int):=by omega
 have a2:(M.length:Int)*8≤281474976710656:=by omega
 rw[mp_len]
 simp only[a1,a2,Int.le_refl,decide_true,if_true,Int.toNat_natCast,List.length_replicate]
 have key:=loop_up0 (k:=M.length+1) (b:=P.s_l03Classes_b3 (M.length+1)) (n:=M.length) (st:=fun i=>((i:Int),(M.length:Int),((List.range i).foldl (clsStep (rcB M) M.length) (List.replicate M.length (-1),[])).1,mp B10 M,((((List.range i).foldl (clsStep (rcB M) M.length) (List.replicate M.length (-1),[])).2.length:Nat):Int),posF 0 ((List.range i).foldl (clsStep (rcB M) M.length) (List.replicate M.length (-1),[])).2,())) (F:=fun _=>some (((clsM M).1,posF 0 (clsM M).2),())) (fun i g hi hg=>by
  unfold P.s_l03Classes_b3
  dsimp only at hg ⊢
  obtain⟨l1,l2⟩:=clsF_len (rcB M) M.length i
  rw[fold_succ]at hg
  generalize (List.range i).foldl (clsStep (rcB M) M.length) (List.replicate M.length (-1),[])=s at l1 l2 hg ⊢
  have e1:(i:Int)<(M.length:Int):=by omega
  have e2:(0:Int)≤(i:Int):=by omega
  have e3:(i:Int)<(s.1.length:Int):=by omega
  have e4:s.1.getD i 0=s.1.getD i (-1):=by
   rw[List.getD_eq_getElem?_getD,List.getD_eq_getElem?_getD,List.getElem?_eq_getElem (by omega)]
   rfl
  simp only[e1,e2,e3,decide_true,if_true,Int.toNat_natCast,Nat.zero_add,e4]
  unfold clsStep at hg
  by_cases h0:0≤s.1.getD i (-1)
  ·rw[if_pos h0]at hg
   rw[if_pos (decide_eq_true h0),wr (by omega) (by omega)]
   exact hg
  ·rw[if_neg h0]at hg
   rw[if_neg (by simpa using h0),reach_s hM hi,Option.bind_some]
   have hs:s.1=tab M.length fun v=>s.1.getD v (-1):=by
    conv=>lhs;rw[tab_of s.1 (-1),l1]
   rw[hs]
   refine Eq.trans (scl_inner hM hi (fun v=>s.1.getD v (-1)) s.2 (by omega) g (by omega)) ?_
   rw[List.length_append]at hg
   exact hg) (fun g=>by
  unfold P.s_l03Classes_b3
  dsimp only
  rw[if_neg (by simp)]
  rfl) (by omega)
 have pre:=loop_up0 (k:=M.length+1) (b:=P.s_l03Classes_b0 (M.length+1)) (n:=M.length) (st:=fun i=>((i:Int),(M.length:Int),List.replicate i (-1)++List.replicate (M.length - i) 0,mp B10 M,())) (F:=fun _=>some (((clsM M).1,posF 0 (clsM M).2),())) (fun i g hi hg=>by
  unfold P.s_l03Classes_b0
  dsimp only at hg ⊢
  have hlen:(List.replicate i (-1:Int)++List.replicate (M.length - i) 0).length=M.length:=by simp;omega
  have e1:(i:Int)<(M.length:Int):=by omega
  have e2:(0:Int)≤(i:Int):=by omega
  simp only[hlen,e1,e2,decide_true,if_true]
  rw[wr (by omega) (by omega),←hg]
  have e3:M.length - i=(M.length - (i+1))+1:=by omega
  have e4:(0+(i:Int).toNat)=(List.replicate i (-1:Int)).length:=by rw[List.length_replicate];omega
  rw[e3,e4,set_fill]
  congr 2
  simp [List.replicate_succ']) (fun g=>by
  unfold P.s_l03Classes_b0
  dsimp only
  rw[if_neg (by simp),Nat.sub_self,List.replicate_zero,List.append_nil,List.length_replicate]
  exact key) (by omega)
 exact pre
abbrev P.s_l03Common_b0 (x1:Int×Int×Unit) (g2:Int×Int×Unit→Option (Int×Unit)):Option (Int×Unit):=
 if decide (x1.1>(0:Int))then if decide (x1.1=(0:Int))then none else g2 (Int.tmod x1.2.1 x1.1,x1.1,())else some (x1.2.1,())
def P.s_l03Common (k:Nat) (x:Int×Int×Unit):Option (Int×Unit):=
 loopP P.s_l03Common_b0 k (x.2.1,x.1,())
theorem gcdS_loop (n:Nat):∀(a b:Int) (k:Nat),b.natAbs≤n→n<k→0≤a→0≤b→loopP P.s_l03Common_b0 k (b,(a,()))=some ((Int.gcd a b:Int),()):=by
 induction n using Nat.strongRecOn with
 |ind n ih=>
  intro a b k hn hk h1 h2
  obtain⟨k,rfl⟩:∃j,k=j+1:=⟨k - 1,by omega⟩
  rw[loopP_succ]
  unfold P.s_l03Common_b0
  dsimp only
  by_cases hb:b=0
  ·subst hb
   rw[if_neg (show ¬(decide ((0:Int)>0))=true by decide),Int.gcd_zero_right]
   congr 2
   omega
  ·have hm:(Int.tmod a b).natAbs<b.natAbs:=by
    rw[Int.natAbs_tmod]
    exact Nat.mod_lt _ (by omega)
   have h0:b>0:=by omega
   rw[if_pos (decide_eq_true h0),if_neg (by simpa using hb),ih _ (Nat.lt_of_lt_of_le hm hn) b (Int.tmod a b) k (Nat.le_refl _) (by omega) h2 (Int.tmod_nonneg _ h1),gcd_rem]
def S.s_l03Common (x:(Int×(Int×Unit))):(Option (Int×Unit)):=if 0≤x.1∧0≤x.2.1 then some ((Int.gcd x.1 x.2.1:Int),())else none
theorem S.s_l03Common_ok (x:(Int×(Int×Unit))) (r:_) (h:S.s_l03Common x=some r):∃k,P.s_l03Common k x=some r:=by
 obtain⟨a,b,u⟩:=x
 unfold S.s_l03Common at h
 dsimp only at h
 split at h
 case isFalse=>cases h
 rename_i hc
 cases h
 exact⟨b.natAbs+1,gcdS_loop _ a b _ (Nat.le_refl _) (by omega) hc.1 hc.2⟩
abbrev P.s_l03Period_b4 (g3:Int×List Int×List (List (Bool×List Int×List Int))×List Int×Int×List Int×List Int×Int×Unit→Option (Int×Unit)) (x5:Int×List (List (Bool×List Int×List Int))×Int×List Int×Int×List Int×List Int×Int×List Int×Int×Unit) (g6:Int×List (List (Bool×List Int×List Int))×Int×List Int×Int×List Int×List Int×Int×List Int×Int×Unit→Option (Int×Unit)):Option (Int×Unit):=
 if decide (x5.1<(x5.2.1.length:Int))then if decide ((0:Int)≤x5.2.2.1)then if decide (x5.2.2.1<(x5.2.1.length:Int))then if decide ((0:Int)≤x5.1)then if decide (x5.1<(List.length (x5.2.1.getD x5.2.2.1.toNat ([]:List (Bool×List Int×List Int))):Int))then(S.s_l01Zero (((List.getD (x5.2.1.getD x5.2.2.1.toNat ([]:List (Bool×List Int×List Int))) x5.1.toNat (false,([]:List Int),([]:List Int))).1,(List.getD (x5.2.1.getD x5.2.2.1.toNat ([]:List (Bool×List Int×List Int))) x5.1.toNat (false,([]:List Int),([]:List Int))).2.1,(List.getD (x5.2.1.getD x5.2.2.1.toNat ([]:List (Bool×List Int×List Int))) x5.1.toNat (false,([]:List Int),([]:List Int))).2.2),())).bind fun y7=>if y7.1 then g6 (IntKind.wrap .i64 (x5.1+(1:Int)),x5.2.1,x5.2.2.1,x5.2.2.2.1,x5.2.2.2.2.1,x5.2.2.2.2.2.1,x5.2.2.2.2.2.2.1,x5.2.2.2.2.2.2.2.1,x5.2.2.2.2.2.2.2.2.1,x5.2.2.2.2.2.2.2.2.2.1,())else if decide ((0:Int)≤x5.1)then if decide (x5.1<(x5.2.2.2.1.length:Int))then if decide ((0:Int)≤x5.2.2.2.2.1)then if decide (x5.2.2.2.2.1<(x5.2.2.2.1.length:Int))then if(x5.2.2.2.1.getD x5.1.toNat (0:Int)) != (x5.2.2.2.1.getD x5.2.2.2.2.1.toNat (0:Int))then g6 (IntKind.wrap .i64 (x5.1+(1:Int)),x5.2.1,x5.2.2.1,x5.2.2.2.1,x5.2.2.2.2.1,x5.2.2.2.2.2.1,x5.2.2.2.2.2.2.1,x5.2.2.2.2.2.2.2.1,x5.2.2.2.2.2.2.2.2.1,x5.2.2.2.2.2.2.2.2.2.1,())else(S.s_l00Has (x5.2.2.2.2.2.1,x5.1,())).bind fun y8=>if y8.1 then if decide ((0:Int)≤x5.2.2.1)then if decide (x5.2.2.1<(x5.2.2.2.2.2.2.1.length:Int))then if decide ((0:Int)≤x5.1)then if decide (x5.1<(x5.2.2.2.2.2.2.1.length:Int))then(S.s_l00Max (IntKind.wrap .i64 ((IntKind.wrap .i64 ((x5.2.2.2.2.2.2.1.getD ((0:Nat)+x5.2.2.1.toNat) (0:Int))+(1:Int))) - (x5.2.2.2.2.2.2.1.getD ((0:Nat)+x5.1.toNat) (0:Int))),IntKind.wrap .i64 ((0:Int) - (IntKind.wrap .i64 ((IntKind.wrap .i64 ((x5.2.2.2.2.2.2.1.getD ((0:Nat)+x5.2.2.1.toNat) (0:Int))+(1:Int))) - (x5.2.2.2.2.2.2.1.getD ((0:Nat)+x5.1.toNat) (0:Int))))),())).bind fun y9=>(S.s_l03Common (x5.2.2.2.2.2.2.2.1,y9.1,())).bind fun y10=>g6 (IntKind.wrap .i64 (x5.1+(1:Int)),x5.2.1,x5.2.2.1,x5.2.2.2.1,x5.2.2.2.2.1,x5.2.2.2.2.2.1,x5.2.2.2.2.2.2.1,y10.1,x5.2.2.2.2.2.2.2.2.1,x5.2.2.2.2.2.2.2.2.2.1,())else none else none else none else none else(S.s_l00Put (x5.2.2.2.2.2.1,x5.1,())).bind fun y11=>if decide ((0:Int)≤x5.2.2.1)then if decide (x5.2.2.1<(x5.2.2.2.2.2.2.1.length:Int))then if decide ((0:Int)≤x5.1)then if decide (x5.1<(x5.2.2.2.2.2.2.1.length:Int))then if decide (((x5.2.2.2.2.2.2.2.2.1.length+(List.length [x5.1]))*(8:Nat))≤(140737488355328:Nat))then g6 (IntKind.wrap .i64 (x5.1+(1:Int)),x5.2.1,x5.2.2.1,x5.2.2.2.1,x5.2.2.2.2.1,y11.1,x5.2.2.2.2.2.2.1.set ((0:Nat)+x5.1.toNat) (IntKind.wrap .i64 ((x5.2.2.2.2.2.2.1.getD ((0:Nat)+x5.2.2.1.toNat) (0:Int))+(1:Int))),x5.2.2.2.2.2.2.2.1,x5.2.2.2.2.2.2.2.2.1++[x5.1],x5.2.2.2.2.2.2.2.2.2.1,())else none else none else none else none else none else none else none else none else none else none else none else none else none else g3 (IntKind.wrap .i64 (x5.2.2.2.2.2.2.2.2.2.1+(1:Int)),x5.2.2.2.2.2.2.2.2.1,x5.2.1,x5.2.2.2.1,x5.2.2.2.2.1,x5.2.2.2.2.2.1,x5.2.2.2.2.2.2.1,x5.2.2.2.2.2.2.2.1,())
abbrev P.s_l03Period_b1 (k:Nat) (x2:Int×List Int×List (List (Bool×List Int×List Int))×List Int×Int×List Int×List Int×Int×Unit) (g3:Int×List Int×List (List (Bool×List Int×List Int))×List Int×Int×List Int×List Int×Int×Unit→Option (Int×Unit)):Option (Int×Unit):=
 if decide (x2.1<(x2.2.1.length:Int))then if decide ((0:Int)≤x2.1)then if decide (x2.1<(x2.2.1.length:Int))then loopP (P.s_l03Period_b4 g3) k ((0:Int),x2.2.2.1,x2.2.1.getD ((0:Nat)+x2.1.toNat) (0:Int),x2.2.2.2.1,x2.2.2.2.2.1,x2.2.2.2.2.2.1,x2.2.2.2.2.2.2.1,x2.2.2.2.2.2.2.2.1,x2.2.1,x2.1,())else none else none else some (x2.2.2.2.2.2.2.2.1,())
def P.s_l03Period (k:Nat) (x:List (List (Bool×List Int×List Int))×Int×Unit):Option (Int×Unit):=
 (S.s_l03Classes (x.1,())).bind fun y0=>if decide ((0:Int)≤(x.1.length:Int))then if decide ((x.1.length:Int)≤(x.1.length:Int))then if decide (((x.1.length:Int)*(8:Int))≤(281474976710656:Int))then loopP (P.s_l03Period_b1 k) k ((0:Int),[x.2.1],x.1,y0.1.1,x.2.1,[x.2.1],List.replicate (Int.toNat (x.1.length:Int)) (0:Int),(0:Int),())else none else none else none
theorem clsM_len (M:List (List Q3)):(clsM M).1.length=M.length:=by
 obtain⟨l1,_⟩:=clsF_len (rcB M) M.length M.length
 exact l1
theorem max_abs {d:Int} (h: -1000000≤d) (h2:d≤1000000):S.s_l00Max (d,(0 - d,()))=some ((d.natAbs:Int),()):=by
 unfold S.s_l00Max P.s_l00Max
 dsimp only
 by_cases q:d>0 - d
 ·rw[if_pos (decide_eq_true q)]
  congr 2
  omega
 ·rw[if_neg (by simpa using q)]
  congr 2
  omega
theorem gcd_abs (g d:Int):(Int.gcd g (d.natAbs:Int):Int)=Int.gcd g d:=by
 unfold Int.gcd
 rw[Int.natAbs_natCast]
theorem perS_inner {M:List (List Q3)} (hM:isM M) {s i:Nat} (hs:s<M.length) (hi:i<M.length) (pre:List Nat) {lv:List Int} {td:List Nat} {gd:Int} (hl:0≤lv.getD i (-1)) (hb:Lok M.length (lv,td,gd)) (hm:pre.length+td.length+lv.count (-1)≤1000000)
  (g:((Int×((List Int)×((List (List RB))×((List Int)×(Int×((List Int)×((List Int)×(Int×Unit))))))))→(Option (Int×Unit)))) {K:Nat} (hK:M.length<K):
  loopP (P.s_l03Period_b4 g) K ((0:Int),mp B10 M,(i:Int),(clsM M).1,(s:Int),posF 0 (lvS lv),lv0 lv,gd,zs (pre++i::td),(pre.length:Int),())=g (((pre.length+1:Nat):Int),zs (pre++i::((List.range M.length).foldl (stepL (adjC M s i) (lv.getD i (-1))) (lv,td,gd)).2.1),mp B10 M,(clsM M).1,(s:Int),posF 0 (lvS ((List.range M.length).foldl (stepL (adjC M s i) (lv.getD i (-1))) (lv,td,gd)).1),lv0 ((List.range M.length).foldl (stepL (adjC M s i) (lv.getD i (-1))) (lv,td,gd)).1,((List.range M.length).foldl (stepL (adjC M s i) (lv.getD i (-1))) (lv,td,gd)).2.2,()):=by
 have hrow:=isM_row hM hi
 have hn:=hM.1
 have key:=loop_up0 (k:=K) (b:=P.s_l03Period_b4 g) (n:=M.length) (st:=fun j=>((j:Int),mp B10 M,(i:Int),(clsM M).1,(s:Int),posF 0 (lvS ((List.range j).foldl (stepL (adjC M s i) (lv.getD i (-1))) (lv,td,gd)).1),lv0 ((List.range j).foldl (stepL (adjC M s i) (lv.getD i (-1))) (lv,td,gd)).1,((List.range j).foldl (stepL (adjC M s i) (lv.getD i (-1))) (lv,td,gd)).2.2,zs (pre++i::((List.range j).foldl (stepL (adjC M s i) (lv.getD i (-1))) (lv,td,gd)).2.1),(pre.length:Int),())) (F:=fun _=>g (((pre.length+1:Nat):Int),zs (pre++i::((List.range M.length).foldl (stepL (adjC M s i) (lv.getD i (-1))) (lv,td,gd)).2.1),mp B10 M,(clsM M).1,(s:Int),posF 0 (lvS ((List.range M.length).foldl (stepL (adjC M s i) (lv.getD i (-1))) (lv,td,gd)).1),lv0 ((List.range M.length).foldl (stepL (adjC M s i) (lv.getD i (-1))) (lv,td,gd)).1,((List.range M.length).foldl (stepL (adjC M s i) (lv.getD i (-1))) (lv,td,gd)).2.2,())) (fun j g' hj hg=>by
  unfold P.s_l03Period_b4
  dsimp only at hg ⊢
  obtain⟨b1,b2,b3⟩:=foldL_ok hn (a:=adjC M s i) hi hl hb j (by omega)
  rw[fold_succ]at hg
  dsimp only at b2 b3
  generalize (List.range j).foldl (stepL (adjC M s i) (lv.getD i (-1))) (lv,td,gd)=t at b1 b2 b3 hg ⊢
  have hbi:=b1.lo _ (getD_memL (lv:=t.1) (j:=i) (by rw[b1.len];exact hi))
  have hbj:=b1.lo _ (getD_memL (lv:=t.1) (j:=j) (by rw[b1.len];exact hj))
  have hg0:=b1.g0
  rw[b2]at hbi
  have e0:(zs (pre++i::t.2.1)).length=pre.length+t.2.1.length+1:=by simp [zs];omega
  have e1:(j:Int)<(M.length:Int):=by omega
  have e2:(0:Int)≤(j:Int):=by omega
  have e3:(0:Int)≤(s:Int):=by omega
  have e4:(s:Int)<(M.length:Int):=by omega
  have e6:(0:Int)≤(i:Int):=by omega
  have e7:(i:Int)<(M.length:Int):=by omega
  have e8:(pre.length+t.2.1.length+1+1)*8≤140737488355328:=by omega
  have e9:(((M.getD i []).map (rp B10)).length:Int)=(M.length:Int):=by rw[List.length_map,hrow.1]
  have bl:t.1.length=M.length:=b1.len
  have pl:=posF_len 0 (lvS t.1)
  rw[lvS_len]at pl
  have eh:S.s_l00Has (posF 0 (lvS t.1),(j:Int),())=some (decide (0≤t.1.getD j (-1)),()):=by
   unfold S.s_l00Has
   dsimp only
   have:=posF_mem 0 (lvS t.1) j
   rw[Int.zero_add]at this
   rw[if_pos (by omega),this,lvS_at]
  have ep:S.s_l00Put (posF 0 (lvS t.1),(j:Int),())=some (posF 0 ((lvS t.1).set j true),()):=by
   unfold S.s_l00Put
   dsimp only
   have:=posF_put 0 (lvS t.1) j (by rw[lvS_len];omega)
   rw[Int.zero_add]at this
   rw[if_pos (by omega),this]
  have ei:(lv0 t.1).getD i 0=lv.getD i (-1):=by
   rw[lv0_at,b2,if_neg (by omega)]
  have ha':(!decide (((M.getD i []).getD j zeroQ).2.1=0))=adj M i j:=by
   unfold adj
   simp
  rw[e0,Int.toNat_natCast,mp_len,mp_at hi,Int.toNat_natCast,getD_rp B10 (by rw[hrow.1];exact hj),zero_rp,Option.bind_some]
  simp only[e1,e2,e3,e4,e6,e7,e8,e9,clsM_len,lv0_len,bl,decide_true,if_true,List.length_cons,List.length_nil,Nat.zero_add,Int.toNat_natCast,ei]
  rw[eh,ep]
  simp only[Option.bind_some]
  rw[wr (x:=(j:Int)+1) (by omega) (by omega),wr (x:=lv.getD i (-1)+1) (by omega) (by omega)]
  have hadj:adjC M s i j=(adj M i j&&decide ((clsM M).1.getD j 0=(clsM M).1.getD s 0)):=rfl
  cases ha:adj M i j
  ·rw[ha]at ha'
   rw[stepL_no (a:=adjC M s i) (j:=j) (by rw[hadj,ha,Bool.false_and])]at hg
   rw[if_pos (by simpa using ha')]
   exact hg
  ·rw[ha]at ha'
   rw[if_neg (by simpa using ha')]
   by_cases hc:(clsM M).1.getD j 0=(clsM M).1.getD s 0
   case neg=>
    rw[stepL_no (a:=adjC M s i) (j:=j) (by rw[hadj,decide_eq_false hc,Bool.and_false])]at hg
    rw[if_pos (by simpa using hc)]
    exact hg
   have hat:adjC M s i j=true:=by rw[hadj,ha,decide_eq_true hc,Bool.and_true]
   rw[if_neg (by simpa using hc)]
   by_cases h0:t.1.getD j (-1)<0
   ·rw[stepL_new hat h0]at hg
    rw[if_neg (by simpa using h0),lv0_set _ _ (by omega),lvS_set _ _ (show 0≤lv.getD i (-1)+1 by omega),←hg]
    simp [zs]
   ·rw[stepL_old hat h0]at hg
    have ej:(lv0 t.1).getD j 0=t.1.getD j (-1):=by
     rw[lv0_at,if_neg h0]
    rw[if_pos (decide_eq_true (by omega)),ej,wr (x:=lv.getD i (-1)+1 - t.1.getD j (-1)) (by omega) (by omega),wr (x:=0 - (lv.getD i (-1)+1 - t.1.getD j (-1))) (by omega) (by omega),max_abs (by omega) (by omega),Option.bind_some]
    dsimp only
    have ec:S.s_l03Common (t.2.2,(((lv.getD i (-1)+1 - t.1.getD j (-1)).natAbs:Int),()))=some ((Int.gcd t.2.2 (lv.getD i (-1)+1 - t.1.getD j (-1)):Int),()):=by
     unfold S.s_l03Common
     dsimp only
     rw[if_pos ⟨hg0,by omega⟩,gcd_abs]
    rw[ec,Option.bind_some]
    exact hg) (fun g'=>by
  unfold P.s_l03Period_b4
  dsimp only
  rw[if_neg (by rw[mp_len];simp),wr (by omega) (by omega)]
  rfl) hK
 exact key
theorem perS_outer {M:List (List Q3)} (hM:isM M) {s:Nat} (hs:s<M.length) {K:Nat} (hK:M.length<K):∀(f k:Nat) (pre:List Nat) (lv:List Int) (td:List Nat) (gd:Int),Lok M.length (lv,td,gd)→td.length+lv.count (-1)≤f→f<k→pre.length+f≤1000000→loopP (P.s_l03Period_b1 K) k ((pre.length:Int),zs (pre++td),mp B10 M,(clsM M).1,(s:Int),posF 0 (lvS lv),lv0 lv,gd,())=some (perL (adjC M s) M.length f lv td gd,()):=by
 intro f
 induction f with
 |zero=>
  intro k pre lv td gd hb hm hk hf
  cases k with
  |zero=>omega
  |succ k=>
   have:td=[]:=List.eq_nil_of_length_eq_zero (by omega)
   subst this
   rw[loopP_succ]
   unfold P.s_l03Period_b1
   dsimp only
   rw[if_neg (by simp [zs])]
   rfl
 |succ f ih=>
  intro k pre lv td gd hb hm hk hf
  cases k with
  |zero=>omega
  |succ k=>
   rw[loopP_succ]
   cases td with
   |nil=>
    unfold P.s_l03Period_b1
    dsimp only
    rw[if_neg (by simp [zs])]
    rfl
   |cons i r=>
    obtain⟨hi,hl⟩:=hb.td i (List.mem_cons_self ..)
    dsimp only at hl
    have hb':Lok M.length (lv,r,gd):=⟨hb.len,hb.lo,fun t ht=>hb.td t (List.mem_cons_of_mem _ ht),hb.g0,hb.g1⟩
    have hm':r.length+lv.count (-1)≤f:=by
     rw[List.length_cons]at hm
     omega
    unfold P.s_l03Period_b1
    dsimp only
    have e1:(pre.length:Int)<((zs (pre++i::r)).length:Int):=by simp [zs];omega
    have e2:(0:Int)≤(pre.length:Int):=by omega
    have e3:(zs (pre++i::r)).getD (0+Int.toNat (pre.length:Int)) 0=(i:Int):=by
     rw[getD_zs,Nat.zero_add,Int.toNat_natCast,List.getD_eq_getElem?_getD,List.getElem?_append_right (Nat.le_refl _)]
     simp
    simp only[e1,e2,e3,decide_true,if_true]
    rw[perS_inner hM hs hi pre hl hb' (by omega) _ hK,perL]
    obtain⟨c1,c2,c3⟩:=foldL_ok (s:=(lv,r,gd)) hM.1 (a:=adjC M s i) hi hl hb' M.length (Nat.le_refl _)
    have:=ih k (pre++[i]) _ _ _ c1 (by
     exact Nat.le_trans (Nat.le_of_eq c3) hm') (by omega) (by simp;omega)
    rw[List.append_assoc,List.length_append]at this
    exact this
open Classical in
def S.s_l03Period (x:((List (List RB))×(Int×Unit))):(Option (Int×Unit)):=if(∃M,isM M∧x.1=mp B10 M)∧0≤x.2.1∧x.2.1<(x.1.length:Int)then some (perM (mv B10 x.1) x.2.1.toNat,())else none
theorem S.s_l03Period_ok (x:((List (List RB))×(Int×Unit))) (r:_) (h:S.s_l03Period x=some r):∃k,P.s_l03Period k x=some r:=by
 obtain⟨m,s,u⟩:=x
 unfold S.s_l03Period at h
 dsimp only at h
 split at h
 case isFalse=>cases h
 rename_i hc
 obtain⟨⟨M,hM,rfl⟩,h0,h1⟩:=hc
 cases h
 obtain⟨s,rfl⟩:=Int.eq_ofNat_of_zero_le h0
 rw[mv_mp (by decide)]at*
 rw[mp_len]at h1
 have hs:s<M.length:=by omega
 have hn:=hM.1
 refine⟨M.length+1,?_⟩
 unfold P.s_l03Period
 dsimp only
 have ec:S.s_l03Classes (mp B10 M,())=some (((clsM M).1,posF 0 (clsM M).2),()):=by
  unfold S.s_l03Classes
  dsimp only
  rw[if_pos ⟨M,hM,rfl⟩,mv_mp (by decide)]
 rw[ec,Option.bind_some,mp_len]
 have e1:(0:Int)≤(M.length:Int):=by omega
 have e2:(M.length:Int)*8≤281474976710656:=by omega
 simp only[e1,e2,Int.le_refl,decide_true,if_true,Int.toNat_natCast]
 obtain⟨c1,c2⟩:=startL hn hs
 have:=perS_outer hM hs (K:=M.length+1) (by omega) M.length (M.length+1) [] _ [s] 0 c1 (by omega) (by omega) (by simp;omega)
 rw[lvS_start,lv0_start,posF_start hs]at this
 exact this
def P.s_PeriodOf (k:Nat) (x:List (List ByteArray)×Int×Unit):Option ((Int×Bool)×Unit):=
 (S.s_l03Parse (x.1,())).bind fun y0=>if !y0.1.2 then some (((0:Int),false),())else(S.s_l03State (y0.1.1,x.2.1,())).bind fun y1=>if !y1.1 then some (((0:Int),false),())else(S.s_l03Period (y0.1.1,x.2.1,())).bind fun y2=>some ((y2.1,decide (y2.1>(0:Int))),())
def S.s_PeriodOf (x:((List (List ByteArray))×(Int×Unit))):(Option ((Int×Bool)×Unit)):=P.s_PeriodOf 0 x
theorem S.s_PeriodOf_ok (x:((List (List ByteArray))×(Int×Unit))) (r:_) (h:S.s_PeriodOf x=some r):∃k,P.s_PeriodOf k x=some r:=⟨0,h⟩
def P.math_bits_Mul64 (k:Nat) (x:Int×Int×Unit):Option ((Int×Int)×Unit):=
 some ((IntKind.wrap .u64 ((IntKind.wrap .u64 ((IntKind.wrap .u64 ((Int.fdiv x.1 (4294967296:Int))*(Int.fdiv x.2.1 (4294967296:Int))))+(Int.fdiv (IntKind.wrap .u64 ((IntKind.wrap .u64 ((Int.fdiv x.1 (4294967296:Int))*(IntKind.wrap .u64 ((BitVec.toNat ((BitVec.ofInt 64 x.2.1)&&& (BitVec.ofInt 64 (4294967295:Int))):Nat):Int))))+(Int.fdiv (IntKind.wrap .u64 ((IntKind.wrap .u64 ((BitVec.toNat ((BitVec.ofInt 64 x.1)&&& (BitVec.ofInt 64 (4294967295:Int))):Nat):Int))*(IntKind.wrap .u64 ((BitVec.toNat ((BitVec.ofInt 64 x.2.1)&&& (BitVec.ofInt 64 (4294967295:Int))):Nat):Int)))) (4294967296:Int)))) (4294967296:Int))))+(Int.fdiv (IntKind.wrap .u64 ((IntKind.wrap .u64 ((BitVec.toNat ((BitVec.ofInt 64 (IntKind.wrap .u64 ((IntKind.wrap .u64 ((Int.fdiv x.1 (4294967296:Int))*(IntKind.wrap .u64 ((BitVec.toNat ((BitVec.ofInt 64 x.2.1)&&& (BitVec.ofInt 64 (4294967295:Int))):Nat):Int))))+(Int.fdiv (IntKind.wrap .u64 ((IntKind.wrap .u64 ((BitVec.toNat ((BitVec.ofInt 64 x.1)&&& (BitVec.ofInt 64 (4294967295:Int))):Nat):Int))*(IntKind.wrap .u64 ((BitVec.toNat ((BitVec.ofInt 64 x.2.1)&&& (BitVec.ofInt 64 (4294967295:Int))):Nat):Int)))) (4294967296:Int)))))&&& (BitVec.ofInt 64 (4294967295:Int))):Nat):Int))+(IntKind.wrap .u64 ((IntKind.wrap .u64 ((BitVec.toNat ((BitVec.ofInt 64 x.1)&&& (BitVec.ofInt 64 (4294967295:Int))):Nat):Int))*(Int.fdiv x.2.1 (4294967296:Int)))))) (4294967296:Int))),IntKind.wrap .u64 (x.1*x.2.1)),())
def S.math_bits_Mul64 (x:(Int×(Int×Unit))):(Option ((Int×Int)×Unit)):=P.math_bits_Mul64 0 x
theorem S.math_bits_Mul64_ok (x:(Int×(Int×Unit))) (r:_) (h:S.math_bits_Mul64 x=some r):∃k,P.math_bits_Mul64 k x=some r:=⟨0,h⟩
def P.math_bits_Mul (k:Nat) (x:Int×Int×Unit):Option ((Int×Int)×Unit):=
 (S.math_bits_Mul64 (x.1,x.2.1,())).bind fun y0=>some ((y0.1.1,y0.1.2),())
def S.math_bits_Mul (x:(Int×(Int×Unit))):(Option ((Int×Int)×Unit)):=P.math_bits_Mul 0 x
theorem S.math_bits_Mul_ok (x:(Int×(Int×Unit))) (r:_) (h:S.math_bits_Mul x=some r):∃k,P.math_bits_Mul k x=some r:=⟨0,h⟩
abbrev P.slices_Repeat__int64_int64_b1 (x2:(Int×((List Int)×Unit))) (g3:(Int×((List Int)×Unit))→Option ((List Int)×Unit)):Option ((List Int)×Unit):=
 (if((decide (x2.1<((List.length x2.2.1):Int)))=true)then(if((decide ((0:Int)≤((List.length x2.2.1):Int)))=true)then(if((decide ((((List.length x2.2.1):Int)+(0:Int))≤((List.length x2.2.1):Int)))=true)then(if((decide ((0:Int)≤x2.1))=true)then(if((decide (x2.1≤((List.length x2.2.1):Int)))=true)then(if((decide ((0:Int)≤x2.1))=true)then(if((decide ((x2.1+(0:Int))≤((List.length x2.2.1):Int)))=true)then(if((decide ((0:Int)≤x2.1))=true)then(g3 ((IntKind.wrap .i64 (x2.1+(((Min.min (List.length (seen x2.2.1 (0:Nat) ((Int.toNat x2.1) - (0:Nat)))) ((Int.toNat ((List.length x2.2.1):Int)) - (Int.toNat x2.1))):Nat):Int))),((splice x2.2.1 (List.take ((Int.toNat ((List.length x2.2.1):Int)) - (Int.toNat x2.1)) (seen x2.2.1 (0:Nat) ((Int.toNat x2.1) - (0:Nat)))) ((0:Nat)+(Int.toNat x2.1))),())))
 else none)
 else none)
 else none)
 else none)
 else none)
 else none)
 else none)
 else(some (x2.2.1,())))
def P.slices_Repeat__int64_int64 (k:Nat) (x:((List Int)×(Int×Unit))):(Option ((List Int)×Unit)):=
 (if((decide (x.2.1<(0:Int)))=true)then none
 else(Option.bind (S.math_bits_Mul ((IntKind.wrap .u64 ((List.length x.1):Int)),((IntKind.wrap .u64 x.2.1),()))) (fun(y0:((Int×Int)×Unit))=>(if((decide (y0.1.1>(0:Int)))=true)then none
 else(if((decide (y0.1.2>(9223372036854775807:Int)))=true)then none
 else(if((decide ((0:Int)≤(IntKind.wrap .i64 y0.1.2)))=true)then(if((decide ((IntKind.wrap .i64 y0.1.2)≤(IntKind.wrap .i64 y0.1.2)))=true)then(if((decide (((IntKind.wrap .i64 y0.1.2)*(8:Int))≤(281474976710656:Int)))=true)then(loopP (X:=(Int×((List Int)×Unit))) (R:=((List Int)×Unit)) (P.slices_Repeat__int64_int64_b1) k ((((Min.min (List.length x.1) (List.length (List.replicate (Int.toNat (IntKind.wrap .i64 y0.1.2)) (0:Int)))):Nat):Int),((splice (List.replicate (Int.toNat (IntKind.wrap .i64 y0.1.2)) (0:Int)) (List.take (List.length (List.replicate (Int.toNat (IntKind.wrap .i64 y0.1.2)) (0:Int))) x.1) (0:Nat)),())))
 else none)
 else none)
 else none))))))
def PP.slices_Repeat__int64_int64 (k:Nat) (x:((List Int)×(Int×Unit))):(Option ((List Int)×Unit)):=
 (Decidable.rec (motive:=fun _=>(Option ((List Int)×Unit))) (fun _=>(Option.bind (S.math_bits_Mul ((IntKind.wrap .u64 ((List.length x.1):Int)),((IntKind.wrap .u64 x.2.1),()))) (fun(y0:((Int×Int)×Unit))=>(Decidable.rec (motive:=fun _=>(Option ((List Int)×Unit))) (fun _=>(Decidable.rec (motive:=fun _=>(Option ((List Int)×Unit))) (fun _=>(Decidable.rec (motive:=fun _=>(Option ((List Int)×Unit))) (fun _=>none) (fun _=>(Decidable.rec (motive:=fun _=>(Option ((List Int)×Unit))) (fun _=>none) (fun _=>(Decidable.rec (motive:=fun _=>(Option ((List Int)×Unit))) (fun _=>none) (fun _=>(loopP (X:=(Int×((List Int)×Unit))) (R:=((List Int)×Unit)) (P.slices_Repeat__int64_int64_b1) k ((((Min.min (List.length x.1) (List.length (List.replicate (Int.toNat (IntKind.wrap .i64 y0.1.2)) (0:Int)))):Nat):Int),((splice (List.replicate (Int.toNat (IntKind.wrap .i64 y0.1.2)) (0:Int)) (List.take (List.length (List.replicate (Int.toNat (IntKind.wrap .i64 y0.1.2)) (0:Int))) x.1) (0:Nat)),())))) (instDecidableEqBool (decide (((IntKind.wrap .i64 y0.1.2)*(8:Int))≤(281474976710656:Int))) true))) (instDecidableEqBool (decide ((IntKind.wrap .i64 y0.1.2)≤(IntKind.wrap .i64 y0.1.2))) true))) (instDecidableEqBool (decide ((0:Int)≤(IntKind.wrap .i64 y0.1.2))) true))) (fun _=>none) (instDecidableEqBool (decide (y0.1.2>(9223372036854775807:Int))) true))) (fun _=>none) (instDecidableEqBool (decide (y0.1.1>(0:Int))) true))))) (fun _=>none) (instDecidableEqBool (decide (x.2.1<(0:Int))) true))
theorem PP.slices_Repeat__int64_int64_eq (k:Nat) (x:((List Int)×(Int×Unit))):PP.slices_Repeat__int64_int64 k x=P.slices_Repeat__int64_int64 k x:=rfl
theorem mul_one_bitsI:∀n:Fin 21,S.math_bits_Mul (1,((n.val:Int),()))=some ((0,(n.val:Int)),()):=by decide
def S.slices_Repeat__int64_int64 (x:((List Int)×(Int×Unit))):(Option ((List Int)×Unit)):=if x.1.length=1∧0≤x.2.1∧x.2.1≤20 then some (List.replicate x.2.1.toNat (x.1.getD 0 0),())else none
theorem S.slices_Repeat__int64_int64_ok (x:((List Int)×(Int×Unit))) (r:_) (h:S.slices_Repeat__int64_int64 x=some r):∃k,P.slices_Repeat__int64_int64 k x=some r:=by
 obtain⟨xs,m,u⟩:=x
 unfold S.slices_Repeat__int64_int64 at h
 dsimp only at h
 split at h
 case isFalse=>cases h
 rename_i hc
 cases h
 obtain⟨hx,h1,h2⟩:=hc
 obtain⟨a,rfl⟩:∃a,xs=[a]:=by
  match xs,hx with
  | [a],_=>exact⟨a,rfl⟩
 obtain⟨M,rfl⟩:∃M:Nat,m=(M:Int):=⟨m.toNat,by omega⟩
 rw[Int.toNat_natCast]
 refine⟨M+2,?_⟩
 unfold P.slices_Repeat__int64_int64
 dsimp only
 have hmul:=mul_one_bitsI ⟨M,by omega⟩
 dsimp only at hmul
 have e0:IntKind.wrap .u64 (M:Int)=(M:Int):=IntWalk.u64_in _ (by omega)
 rw[if_neg (by simp),e0]
 show Option.bind (S.math_bits_Mul (1,((M:Int),()))) _=_
 rw[hmul,Option.bind_some]
 dsimp only
 rw[if_neg (show ¬((decide ((0:Int)>0))=true) by simp),if_neg (by simpa using(show ¬(M:Int)>9223372036854775807 by omega)),wr (by omega) (by omega),if_pos (decide_eq_true (show(0:Int)≤(M:Int) by omega)),if_pos (by simp),if_pos (decide_eq_true (show(M:Int)*8≤281474976710656 by omega)),Int.toNat_natCast]
 simp only[List.length_replicate,List.length_cons,List.length_nil,Nat.zero_add]
 have key:∀(d j k:Nat),j+d=M→1≤j→d<k→loopP P.slices_Repeat__int64_int64_b1 k ((j:Int),List.replicate j a++List.replicate d (0:Int),())=some (List.replicate M a,()):=by
  intro d
  induction d using Nat.strongRecOn with
  |ind d ih=>
   intro j k hj h1 hk
   cases k with
   |zero=>omega
   |succ k=>
    rw[loopP_succ]
    unfold P.slices_Repeat__int64_int64_b1
    have hlen:(List.replicate j a++List.replicate d (0:Int)).length=M:=by simp;omega
    dsimp only
    rw[hlen]
    by_cases hd:d=0
    ·subst hd
     rw[if_neg (by simpa using(show ¬(j:Int)<(M:Int) by omega))]
     rw[show j=M by omega]
     simp
    ·have c1:(j:Int)<(M:Int):=by omega
     have c2:(0:Int)≤(M:Int):=by omega
     have c3:(M:Int)+0≤(M:Int):=by omega
     have c4:(0:Int)≤(j:Int):=by omega
     have c5:(j:Int)≤(M:Int):=by omega
     have c6:(j:Int)+0≤(M:Int):=by omega
     simp only[c1,c2,c3,c4,c5,c6,decide_true,if_true]
     have hs:seen (List.replicate j a++List.replicate d (0:Int)) 0 ((j:Int).toNat - 0)=List.replicate j a:=by
      unfold seen
      rw[Int.toNat_natCast,Nat.sub_zero,List.drop_zero,List.take_left' (by simp)]
     rw[hs,List.length_replicate,Int.toNat_natCast,Int.toNat_natCast]
     have hsp:splice (List.replicate j a++List.replicate d (0:Int)) (List.take (M - j) (List.replicate j a)) (0+j)=List.replicate (j+min j d) a++List.replicate (d - min j d) (0:Int):=by
      unfold splice
      rw[Nat.zero_add,List.take_left' (by simp),List.take_replicate,List.length_replicate,show M - j=d by omega,List.drop_append]
      simp only[List.length_replicate]
      rw[List.drop_of_length_le (by simp),List.nil_append,List.drop_replicate,←List.replicate_append_replicate,show j+min d j - j=min d j by omega,Nat.min_comm d j]
     rw[hsp,show M - j=d by omega,wr (by omega) (by omega)]
     have:=ih (d - min j d) (by omega) (j+min j d) k (by omega) (by omega) (by omega)
     rw[←this]
     congr 2
 match M,h2 with
 |0,_=>
  rfl
 |M+1,h2=>
  have:=key M 1 (M+1+2) (by omega) (by omega) (by omega)
  have a1:min 1 (M+1)=1:=by omega
  have a2:splice (List.replicate (M+1) (0:Int)) (List.take (M+1) [a]) 0=List.replicate 1 a++List.replicate M (0:Int):=by
   unfold splice
   simp [List.replicate_succ]
  rw[a1,a2]
  exact this
def P.i_rat_sign (k:Nat) (x:(Bool×List Int×List Int)×Unit):Option (Int×Unit):=
 if(x.1.2.1.length:Int)==(0:Int)then some ((0:Int),())else if x.1.1 then some ((-1:Int),())else some ((1:Int),())
def S.i_rat_sign (x:(RB×Unit)):(Option (Int×Unit)):=if canon B32 x.1.2.1=true then some (sgnQ x.1.1 (dval B32 x.1.2.1),())else none
theorem S.i_rat_sign_ok (x:(RB×Unit)) (r:_) (h:S.i_rat_sign x=some r):∃k,P.i_rat_sign k x=some r:=by
 obtain⟨⟨n,as,bs⟩,u⟩:=x
 unfold S.i_rat_sign at h
 dsimp only at h
 split at h
 case isFalse=>cases h
 rename_i ca
 cases h
 refine⟨0,?_⟩
 unfold P.i_rat_sign sgnQ
 dsimp only
 have h:=canon_nil B32_le ca
 by_cases h0:as=[]
 ·rw[if_pos (h.1 h0),h0,if_pos (by rfl)]
 ·rw[if_neg (fun q=>h0 (h.2 q)),if_neg (by simpa using h0)]
  cases n<;>rfl
def P.i_magnitude (k:Nat) (x:Int×Unit):Option (Int×Unit):=
 if decide (x.1<(0:Int))then some (IntKind.wrap .u64 ((0:Int) - (IntKind.wrap .u64 x.1)),())else some (IntKind.wrap .u64 x.1,())
def S.i_magnitude (x:(Int×Unit)):(Option (Int×Unit)):=if -9223372036854775808≤x.1∧x.1≤9223372036854775807 then some (((x.1.natAbs:Nat):Int),())else none
theorem S.i_magnitude_ok (x:(Int×Unit)) (r:_) (h:S.i_magnitude x=some r):∃k,P.i_magnitude k x=some r:=by
 obtain⟨n,u⟩:=x
 unfold S.i_magnitude at h
 dsimp only at h
 split at h
 case isFalse=>cases h
 rename_i hc
 cases h
 refine⟨0,?_⟩
 unfold P.i_magnitude
 dsimp only
 have hw:∀y:Int,IntKind.wrap .u64 y=y%18446744073709551616:=fun _=>rfl
 rw[hw,hw]
 by_cases h0:n<0
 ·rw[if_pos (decide_eq_true h0)]
  congr 2
  omega
 ·rw[if_neg (by simpa using h0)]
  congr 2
  omega
abbrev P.i_nat_trim_b0 (x1:List Int×Unit) (g2:List Int×Unit→Option (List Int×Unit)):Option (List Int×Unit):=
 if decide ((x1.1.length:Int)>(0:Int))then if decide ((0:Int)≤(IntKind.wrap .i64 ((x1.1.length:Int) - (1:Int))))then if decide ((IntKind.wrap .i64 ((x1.1.length:Int) - (1:Int)))<(x1.1.length:Int))then if(x1.1.getD (Int.toNat (IntKind.wrap .i64 ((x1.1.length:Int) - (1:Int)))) (0:Int))==(0:Int)then if decide ((0:Int)≤(IntKind.wrap .i64 ((x1.1.length:Int) - (1:Int))))then if decide ((IntKind.wrap .i64 ((x1.1.length:Int) - (1:Int)))≤(x1.1.length:Int))then if decide ((0:Int)≤(IntKind.wrap .i64 ((x1.1.length:Int) - (1:Int))))then g2 (seen x1.1 (0:Nat) ((Int.toNat (IntKind.wrap .i64 ((x1.1.length:Int) - (1:Int)))) - (0:Nat)),())else none else none else none else some (x1.1,())else none else none else some (x1.1,())
def P.i_nat_trim (k:Nat) (x:List Int×Unit):Option (List Int×Unit):=
 loopP P.i_nat_trim_b0 k (x.1,())
theorem trim_loop (n:Nat):∀(xs:List Int) (k:Nat),xs.length=n→n<k→n≤1000000000000→dig B32 xs=true→loopP (X:=((List Int)×Unit)) (R:=((List Int)×Unit)) P.i_nat_trim_b0 k (xs,())=some (nd B32 (dval B32 xs),()):=by
 induction n with
 |zero=>
  intro xs k hx hk _ _
  have:xs=[]:=List.eq_nil_of_length_eq_zero hx
  subst this
  obtain⟨k,rfl⟩:∃j,k=j+1:=⟨k - 1,by omega⟩
  rw[loopP_succ]
  unfold P.i_nat_trim_b0
  rw[if_neg (by simp)]
  rw[show dval B32 []=0 from rfl,nd_zero B32_le]
 |succ n ih=>
  intro xs k hx hk hn hd
  obtain⟨k,rfl⟩:∃j,k=j+1:=⟨k - 1,by omega⟩
  rw[loopP_succ]
  unfold P.i_nat_trim_b0
  dsimp only
  have e0:IntKind.wrap .i64 ((xs.length:Int) - 1)=(n:Int):=by rw[wr (by omega) (by omega)];omega
  have e1:(xs.length:Int)>0:=by omega
  have e2:(0:Int)≤(n:Int):=by omega
  have e3:(n:Int)<(xs.length:Int):=by omega
  have e4:(n:Int)≤(xs.length:Int):=by omega
  rw[e0]
  simp only[e1,e2,e3,e4,decide_true,if_true]
  rw[getD_cast xs n _ (by omega)]
  have hs:=take_snoc xs n hx
  have hdt:dig B32 (xs.take n++[xs[n]])=true:=by rw[←hs];exact hd
  by_cases hz:xs[n]=0
  ·rw[if_pos (by simp [hz])]
   have e5:seen xs 0 ((n:Int).toNat - 0)=xs.take n:=by simp [seen]
   rw[e5]
   have hdt':=hdt
   rw[dig_append,Bool.and_eq_true]at hdt'
   rw[ih (xs.take n) k (by simp;omega) (by omega) (by omega) hdt'.1]
   have:dval B32 xs=dval B32 (xs.take n):=by
    conv=>lhs;rw[hs,hz]
    exact dval_snoc_zero _
   rw[this]
  ·rw[if_neg (by simp [hz])]
   have:=nd_snoc B32_le (xs.take n) xs[n] hdt hz
   rw[←hs]at this
   rw[this]
def S.i_nat_trim (x:((List Int)×Unit)):(Option ((List Int)×Unit)):=if dig B32 x.1=true∧x.1.length≤1000000000000 then some (nd B32 (dval B32 x.1),())else none
theorem S.i_nat_trim_ok (x:((List Int)×Unit)) (r:_) (h:S.i_nat_trim x=some r):∃k,P.i_nat_trim k x=some r:=by
 obtain⟨xs,u⟩:=x
 unfold S.i_nat_trim at h
 dsimp only at h
 split at h
 case isFalse=>cases h
 rename_i hc
 cases h
 exact⟨xs.length+1,trim_loop xs.length xs _ rfl (by omega) hc.2 hc.1⟩
theorem trim_i (xs:List Int) (h:dig B32 xs=true) (hl:xs.length≤1000000000000):S.i_nat_trim (xs,())=some (nd B32 (dval B32 xs),()):=by
 unfold S.i_nat_trim
 dsimp only
 rw[if_pos ⟨h,hl⟩]
def P.i_natOf (k:Nat) (x:Int×Unit):Option (List Int×Unit):=
 (S.i_nat_trim ((IntKind.wrap .u32 x.1)::[IntKind.wrap .u32 (Int.fdiv x.1 (4294967296:Int))],())).bind fun y0=>some (y0.1,())
def S.i_natOf (x:(Int×Unit)):(Option ((List Int)×Unit)):=if 0≤x.1∧x.1<18446744073709551616 then some (nd B32 x.1.toNat,())else none
theorem S.i_natOf_ok (x:(Int×Unit)) (r:_) (h:S.i_natOf x=some r):∃k,P.i_natOf k x=some r:=by
 obtain⟨n,u⟩:=x
 unfold S.i_natOf at h
 dsimp only at h
 split at h
 case isFalse=>cases h
 rename_i hc
 cases h
 refine⟨0,?_⟩
 unfold P.i_natOf
 dsimp only
 have hf:Int.fdiv n 4294967296=n/4294967296:=Int.fdiv_eq_ediv_of_nonneg _ (by omega)
 rw[hf,u32_mod n hc.1,u32_mod _ (by omega)]
 have hd:dig B32 [n%4294967296,n/4294967296%4294967296]=true:=by
  rw[dig_cons,dig_cons]
  refine⟨⟨by omega,?_⟩,⟨by omega,?_⟩,rfl⟩
  ·show _<(4294967296:Int);omega
  ·show _<(4294967296:Int);omega
 rw[trim_i _ hd (by simp),Option.bind_some]
 have:dval B32 [n%4294967296,n/4294967296%4294967296]=n.toNat:=by
  simp only[dval]
  show(n%4294967296).toNat+4294967296*((n/4294967296%4294967296).toNat+4294967296*0)=n.toNat
  omega
 rw[this]
def P.i_whole (k:Nat) (x:Int×Unit):Option ((Bool×List Int×List Int)×Unit):=
 (S.i_magnitude (x.1,())).bind fun y0=>(S.i_natOf (y0.1,())).bind fun y1=>(S.i_natOf ((1:Int),())).bind fun y2=>some ((decide (x.1<(0:Int)),y1.1,y2.1),())
def S.i_whole (x:(Int×Unit)):(Option (RB×Unit)):=if -9223372036854775808≤x.1∧x.1≤9223372036854775807 then some (rp B32 (wholeQ x.1),())else none
theorem S.i_whole_ok (x:(Int×Unit)) (r:_) (h:S.i_whole x=some r):∃k,P.i_whole k x=some r:=by
 obtain⟨n,u⟩:=x
 unfold S.i_whole at h
 dsimp only at h
 split at h
 case isFalse=>cases h
 rename_i hc
 cases h
 refine⟨0,?_⟩
 unfold P.i_whole S.i_magnitude S.i_natOf
 dsimp only
 rw[if_pos hc,Option.bind_some]
 dsimp only
 rw[if_pos ⟨by omega,by omega⟩,Option.bind_some,Int.toNat_natCast,if_pos ⟨by decide,by decide⟩,Option.bind_some]
 rfl
theorem ri_whole {n:Int} (h0: -1000000000≤n) (h1:n≤1000000000):S.i_whole (n,())=some (rp B32 (wholeQ n),()):=by
 unfold S.i_whole
 exact if_pos ⟨by dsimp only;omega,by dsimp only;omega⟩
abbrev P.i_nat_cmp_b0 (x1:Int×List Int×List Int×Unit) (g2:Int×List Int×List Int×Unit→Option (Int×Unit)):Option (Int×Unit):=
 if decide (x1.1≥(0:Int))then if decide ((0:Int)≤x1.1)then if decide (x1.1<(x1.2.1.length:Int))then if decide ((0:Int)≤x1.1)then if decide (x1.1<(x1.2.2.1.length:Int))then if(x1.2.1.getD x1.1.toNat (0:Int)) != (x1.2.2.1.getD x1.1.toNat (0:Int))then if decide ((0:Int)≤x1.1)then if decide (x1.1<(x1.2.1.length:Int))then if decide ((0:Int)≤x1.1)then if decide (x1.1<(x1.2.2.1.length:Int))then if decide ((x1.2.1.getD x1.1.toNat (0:Int))<(x1.2.2.1.getD x1.1.toNat (0:Int)))then some ((-1:Int),())else some ((1:Int),())else none else none else none else none else g2 (IntKind.wrap .i64 (x1.1 - (1:Int)),x1.2.1,x1.2.2.1,())else none else none else none else none else some ((0:Int),())
def P.i_nat_cmp (k:Nat) (x:List Int×List Int×Unit):Option (Int×Unit):=
 if(x.1.length:Int) != (x.2.1.length:Int)then if decide ((x.1.length:Int)<(x.2.1.length:Int))then some ((-1:Int),())else some ((1:Int),())else loopP P.i_nat_cmp_b0 k (IntKind.wrap .i64 ((x.1.length:Int) - (1:Int)),x.1,x.2.1,())
def S.i_nat_cmp (x:((List Int)×((List Int)×Unit))):(Option (Int×Unit)):=if canon B32 x.1=true∧canon B32 x.2.1=true∧x.1.length≤1000000000000 then some (cmpN (dval B32 x.1) (dval B32 x.2.1),())else none
theorem S.i_nat_cmp_ok (x:((List Int)×((List Int)×Unit))) (r:_) (h:S.i_nat_cmp x=some r):∃k,P.i_nat_cmp k x=some r:=by
 obtain⟨xs,ys,u⟩:=x
 unfold S.i_nat_cmp at h
 dsimp only at h
 split at h
 case isFalse=>cases h
 rename_i hc
 obtain⟨cx,cy,hl⟩:=hc
 cases h
 refine⟨xs.length+1,?_⟩
 unfold P.i_nat_cmp
 dsimp only
 by_cases hn:xs.length=ys.length
 ·rw[if_neg (by simp [hn]),wr (by omega) (by omega)]
  have key:=loop_up0 (k:=xs.length+1) (b:=P.i_nat_cmp_b0) (n:=xs.length) (st:=fun j=>((xs.length:Int) - 1 - (j:Int),xs,ys,())) (F:=fun j=>some (cmpN (dval B32 (xs.take (xs.length - j))) (dval B32 (ys.take (xs.length - j))),())) (fun j g hj hg=>by
   unfold P.i_nat_cmp_b0
   dsimp only at hg ⊢
   have e1:(xs.length:Int) - 1 - (j:Int)≥0:=by omega
   have e3:(0:Int)≤(xs.length:Int) - 1 - (j:Int):=by omega
   have e4:(xs.length:Int) - 1 - (j:Int)<(xs.length:Int):=by omega
   have e4':(xs.length:Int) - 1 - (j:Int)<(ys.length:Int):=by omega
   simp only[e1,e4,e4',decide_true,if_true]
   have hi:xs.length - (j+1)<xs.length:=by omega
   have hi':xs.length - (j+1)<ys.length:=by omega
   have e5:(xs.length:Int) - 1 - (j:Int)=((xs.length - (j+1):Nat):Int):=by omega
   have e6:xs.length - j=(xs.length - (j+1))+1:=by omega
   rw[e5,getD_cast xs _ _ hi,getD_cast ys _ _ hi',e6]
   generalize xs.length - (j+1)=i at*
   by_cases hq:xs[i]=ys[i]
   ·rw[if_neg (by simp [hq]),wr (by omega) (by omega)]
    have e7:((i:Nat):Int) - 1=(xs.length:Int) - 1 - ((j+1:Nat):Int):=by omega
    rw[e7,hg,←List.take_append_getElem hi,←List.take_append_getElem hi',dval_append,dval_append,hq]
    have hlx:(xs.take i).length=i:=by simp;omega
    have hly:(ys.take i).length=i:=by simp;omega
    rw[hlx,hly]
    unfold cmpN
    simp only[Nat.add_lt_add_iff_right]
   ·rw[if_pos (by simp [hq])]
    by_cases hlt:xs[i]<ys[i]
    ·have:=dval_top xs ys i hi hi' (canon_dig cx) (canon_dig cy) hlt
     rw[if_pos (decide_eq_true hlt),cmpN,if_pos this]
    ·have:=dval_top ys xs i hi' hi (canon_dig cy) (canon_dig cx) (by omega)
     rw[if_neg (by simpa using hlt),cmpN,if_neg (by omega),if_pos this]) (fun g=>by
   unfold P.i_nat_cmp_b0
   dsimp only
   rw[if_neg (by simp;omega),Nat.sub_self,List.take_zero,List.take_zero]
   rfl) (by omega)
  rw[show(xs.length:Int) - 1 - ((0:Nat):Int)=(xs.length:Int) - 1 by omega,Nat.sub_zero,List.take_length,List.take_of_length_le (by omega)]at key
  exact key
 ·rw[if_pos (by simp;omega)]
  by_cases hlt:xs.length<ys.length
  ·rw[if_pos (decide_eq_true (by omega)),cmpN,if_pos (canon_small B32_le cx cy hlt)]
  ·have:=canon_small B32_le cy cx (by omega)
   rw[if_neg (by simp;omega),cmpN,if_neg (by omega),if_pos this]
end Go.Cm
end
